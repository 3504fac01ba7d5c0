/- An instruction's text (brazier/text.Ins). -/
import Derived.Test.YtkphijabhoppnaaGreatDoorALn
import Derived.Test.YtkphijabhoppnaaGreatDoorALg
import Derived.Lib.OthersKept
import Derived.Lib.AppendIntMem
import Derived.Shelf.Strings.FieldsFuncAny
namespace Go.Proofs.YtkphijabhoppnaaGreatDoor
open Go.RowKit Go.Shelf Go.Proofs.YtkphijabhoppnaaGreatDoorW.PrintWords
open Go.Proofs.YtkphijabhoppnaaGreatDoor.PTextPrograms
set_option linter.unusedSimpArgs false
set_option linter.unusedVariables false
theorem where_op (i : IR) (h : okI i) (k : Nat) : a64_Where.f (k + 2) i.op i.d i.n i.m i.a i.cond i.imm = some (((dW i : Nat) : Int), ((nW i : Nat) : Int)) := by
  obtain ⟨hd, hn, -⟩ := okI_regs h
  have st : ∀ v : Int, 0 ≤ v ∧ v ≤ 31 → a64_stack.f v = some ((stk31 v : Nat) : Int) := by
    intro v hv
    unfold a64_stack.f stk31
    by_cases h31 : v = 31
    · rw [if_pos h31, if_pos h31]; rfl
    · rw [if_neg h31, if_neg h31]; congr 1; omega
  obtain ⟨op, d, n, m, a, c, im⟩ := i
  dsimp only at hd hn
  have hdn : ((d.toNat : Nat) : Int) = d := by omega
  have hnn : ((n.toNat : Nat) : Int) = n := by omega
  unfold a64_Where.f dW nW
  dsimp only
  by_cases h4 : op = 4
  · subst h4
    simp [a64_Where.j0, a64_Where.j1, st d hd, st n hn]
  · by_cases h5 : op = 5
    · subst h5
      simp [a64_Where.j0, a64_Where.j1, st d hd, st n hn]
    · have e5 : (op == 5) = false := by simp [h5]
      rw [if_neg h4, e5, a64_Where.j0, if_neg (by simp), a64_Where.j1, if_neg h4, if_neg h5]
      by_cases h6 : op = 6
      · subst h6
        simp [st n hn, hdn]
      · rw [if_neg h6]
        unfold a64_Memory.f
        by_cases h28 : 28 ≤ op
        · by_cases h36 : op ≤ 36
          · simp [h4, h5, h6, h28, h36, st n hn, hdn]
          · simp [h4, h5, h6, h28, h36, hdn, hnn]
        · simp [h4, h5, h6, h28, hdn, hnn]
theorem cells7 {W : World} {g : Nat} {a0 a1 a2 a3 a4 a5 a6 : Int} (h : W.heap[g]? = some (Obj.cells #[.int .i64 a0, .int .i64 a1, .int .i64 a2, .int .i64 a3, .int .i64 a4, .int .i64 a5, .int .i64 a6] 39 (0, 0))) :
    W.cell? ⟨g, 0, none⟩ = some (.int .i64 a0) ∧ W.cell? ⟨g, 1, none⟩ = some (.int .i64 a1) ∧ W.cell? ⟨g, 2, none⟩ = some (.int .i64 a2) ∧ W.cell? ⟨g, 3, none⟩ = some (.int .i64 a3) ∧
    W.cell? ⟨g, 4, none⟩ = some (.int .i64 a4) ∧ W.cell? ⟨g, 5, none⟩ = some (.int .i64 a5) ∧ W.cell? ⟨g, 6, none⟩ = some (.int .i64 a6) :=
  ⟨(cell_of_row _ _ 0 _ _ _ h).trans rfl, (cell_of_row _ _ 1 _ _ _ h).trans rfl, (cell_of_row _ _ 2 _ _ _ h).trans rfl, (cell_of_row _ _ 3 _ _ _ h).trans rfl, (cell_of_row _ _ 4 _ _ _ h).trans rfl, (cell_of_row _ _ 5 _ _ _ h).trans rfl, (cell_of_row _ _ 6 _ _ _ h).trans rfl⟩
def irC (i : IR) : Array Value := #[.int .i64 i.op, .int .i64 i.d, .int .i64 i.n, .int .i64 i.m, .int .i64 i.a, .int .i64 i.cond, .int .i64 i.imm]
set_option maxRecDepth 100000 in
theorem Ins_bad (i : IR) (h : ¬ okI i) (w : World) : Calls Tryz.prog 14 #[.agg (irC i)] w fun e w' => e = .returned (.string ⟨#[]⟩) ∧ Below w.heap.size w w' := by
  have HC := Lib.hid (fun W => a64_Check.calls 40 i.op i.d i.n i.m i.a i.cond i.imm 1 W (by have := checkA i 0; rwa [if_neg h] at this))
  obtain ⟨op, d, n, m, a, c, im⟩ := i
  clear h
  unfold irC
  dsimp only at HC ⊢
  go_enter Tryz.func14, Tryz.ntmps14
  go_wp2_with (first | (go_at_call 12; refine (HC.out _).mono ?_; rintro e w2 ⟨rfl, hb2⟩) | fail)
  go_ret
  exact ⟨rfl, ((Below.refl _ w).alloc (Nat.le_refl _) _).trans (hb2.mono (by simp))⟩
structure InS (w1 : World) (IT : Nat) (s : ByteArray) (pos : Nat) (v : Value) (xs : List (List UInt8)) (V : World) : Prop where
  row : V.ownsRow w1.heap.size 9 1 v xs.length (xs.map fun l => Value.string ⟨l.toArray⟩)
  it : V.heap[IT]? = some (.stringIter s pos)
  below : Below w1.heap.size w1 V
  ge : w1.heap.size ≤ IT
theorem InS.lt {w1 V : World} {IT pos : Nat} {s : ByteArray} {v : Value} {xs : List (List UInt8)} (h : InS w1 IT s pos v xs V) : IT < V.heap.size := (Array.getElem?_eq_some_iff.1 h.it).1
theorem InS.ne {w1 V : World} {IT pos : Nat} {s : ByteArray} {v : Value} {xs : List (List UInt8)} (h : InS w1 IT s pos v xs V) : some IT ≠ v.ownBlock := by
  rcases h.row.2 with ⟨rfl, _⟩ | ⟨g, cap, cur, rfl, _, hgb, _⟩
  · simp [Value.ownBlock]
  · intro e
    obtain rfl : IT = g := by simpa [Value.ownBlock] using e
    rw [h.it] at hgb
    cases hgb
theorem InS.later {w1 V V' : World} {IT pos : Nat} {s : ByteArray} {v : Value} {xs : List (List UInt8)} (h : InS w1 IT s pos v xs V) (hb : Below V.heap.size V V') : InS w1 IT s pos v xs V' :=
  ⟨h.row.kept (row := none) ⟨hb.os, hb.tape, hb.output, hb.size, fun k hk _ => hb.block k hk⟩ (by cases v.ownBlock <;> simp), (hb.block IT h.lt).trans h.it, h.below.trans (hb.mono h.below.size), h.ge⟩
theorem InS.next {w1 V : World} {IT pos : Nat} {s : ByteArray} {v : Value} {xs : List (List UInt8)} (h : InS w1 IT s pos v xs V) (p : Nat) : InS w1 IT s p v xs (V.iterAt IT s p) := by
  refine ⟨h.row.kept (row := some IT) ⟨rfl, rfl, rfl, by rw [Lib.iterAt_size]; exact Nat.le_refl _, fun k hk hne => Lib.iterAt_other V IT k s p (fun e => hne (by rw [e]))⟩ (.inr fun e => h.ne e.symm), Lib.iterAt_heap V IT s pos p h.it, Lib.below_iterAt h.below h.ge s p, h.ge⟩
theorem InS.append {w1 V V' : World} {IT pos : Nat} {s : ByteArray} {v v' : Value} {xs : List (List UInt8)} {x : List UInt8} (h : InS w1 IT s pos v xs V) (hg : V.grownBy V' v.ownBlock)
    (hr : V'.ownsRow w1.heap.size 9 1 v' (xs.length + 1) (xs.map (fun l => Value.string ⟨l.toArray⟩) ++ [.string ⟨x.toArray⟩])) : InS w1 IT s pos v' (xs ++ [x]) V' := by
  refine ⟨?_, (hg.block IT h.lt h.ne).trans h.it, h.below.grown hg h.below.size (fun j e => ?_), h.ge⟩
  · rw [List.length_append, List.map_append]; exact hr
  · exact (h.row.lt j (by
      rcases h.row.2 with ⟨rfl, _⟩ | ⟨g, cap, cur, rfl, _⟩
      · simp [Value.ownBlock] at e
      · exact e)).1
theorem info9 : (Tryz.prog.info? 9).map (fun i => (i.zero, i.size, i.bytes)) = some (some (.string ByteArray.empty), 1, 16) := by kernel_rfl
theorem fmt_calls (v : Int) (h0 : -9223372036854775808 ≤ v) (h1 : v ≤ 9223372036854775807) (w : World) (hG : GlobT w) :
    Calls Tryz.prog 32 #[.int .i64 v, .int .i64 10] w fun e w' => e = .returned (.string ⟨(Lib.itoa v).toArray⟩) ∧ Below w.heap.size w w' := by
  refine (Tryz.strconv_FormatInt_10 v h0 h1 w hG.pw).mono ?_
  rintro e w' ⟨rfl, k, os, rfl⟩
  exact ⟨rfl, Lib.below_grow _ _ (Nat.le_refl _) k os⟩
theorem itoaS_calls (v : Int) (h0 : 0 ≤ v) (h1 : v < 100) (w : World) : Calls Tryz.prog 33 #[.int .i64 v] w fun e w' => e = .returned (.string ⟨(Lib.itoa v).toArray⟩) ∧ w' = w := by
  have := Tryz.strconv_Itoa_small v.toNat (by omega) w
  rw [show ((v.toNat : Nat) : Int) = v by omega] at this
  rw [Lib.itoa, if_neg (by omega)]
  exact this
theorem pT_facts : ∀ a : Nat, a < 43 → (pTT.getD a []).length ≤ 4 ∧ ∀ c ∈ pTT.getD a [], c ∈ ([68, 78, 77, 65, 73, 109, 67] : List UInt8) := by decide +kernel
theorem next_at (wr : World) (IT : Nat) (p : List UInt8) (pos : Nat) (c : UInt8) (hit : wr.heap[IT]? = some (.stringIter ⟨p.toArray⟩ pos)) (h : pos < p.length) (hc : p[pos]'h = c) (ha : c.toNat < 128) (ty : TypeId) :
    (Instr.next (.pointer (some ⟨IT, 0, none⟩)) true ty).run Tryz.prog wr = .ok (.tuple #[.bool true, .int .i64 pos, .int .i32 (c.toNat : Int)]) (wr.iterAt IT ⟨p.toArray⟩ (pos + 1)) := by
  have h' : pos < (⟨p.toArray⟩ : ByteArray).size := by simpa [ByteArray.size] using h
  subst hc
  exact Lib.run_next_ascii_at wr IT ⟨p.toArray⟩ pos ty hit h' ha
theorem next_end (wr : World) (IT : Nat) (p : List UInt8) (pos : Nat) (hit : wr.heap[IT]? = some (.stringIter ⟨p.toArray⟩ pos)) (h : ¬ pos < p.length) (ty : TypeId) :
    (Instr.next (.pointer (some ⟨IT, 0, none⟩)) true ty).run Tryz.prog wr = .ok (.tuple #[.bool false]) wr :=
  Lib.run_next_end_at wr IT ⟨p.toArray⟩ pos ty hit (by simpa [ByteArray.size] using h)
theorem one_new (V : World) (x : Value) : ∀ (j : Nat) u, [x][j]? = some u → (V.alloc (.cells #[x] 9)).cell? ((⟨V.heap.size, 0, none⟩ : Addr).add j) = some u := by
  intro j u hu
  have hj : j = 0 := by
    have := (List.getElem?_eq_some_iff.1 hu).1
    simp at this; exact this
  subst hj
  cases hu
  exact (cell_of_row _ _ 0 _ _ _ (heap_alloc_new V (.cells #[x] 9))).trans rfl
theorem row_kept' {n : Nat} {W w1 : World} {g : Nat} {o : Obj} (hb : Below n W w1) (hlt : g < n) (h : W.heap[g]? = some o) : w1.heap[g]? = some o := (hb.block g hlt).trans h
theorem restS_len {i : IR} (h : okI i) : (restS i).length ≤ 100 := by
  have hop := h.1
  have hf := pR_facts i.op.toNat (by omega)
  have hpl : (pR i.op).length ≤ 4 := hf.1
  unfold restS
  rw [parts_same i hop]
  cases hq : pR i.op with
  | nil => simp [Lib.join, List.intercalate]
  | cons c cs =>
    rw [hq] at hpl
    rw [List.map_cons, Lib.join_cons, List.length_append, Lib.joinTail_length]
    have h1 := partRf_len h c
    have h2 : ∀ cs : List UInt8, Lib.lens (cs.map (partRf i)) ≤ 12 * cs.length := by
      intro cs
      induction cs with
      | nil => simp [Lib.lens]
      | cons x xs ih => have := partRf_len h x; simp [Lib.lens] at ih ⊢; omega
    have := h2 cs
    simp [sep2] at hpl ⊢
    omega
theorem own_form2 {w : World} {base size n : Nat} {e : TypeId} {v : Value} {xs : List Value} (h : w.ownsRow base e size v n xs) : v = .slice none 0 0 ∨ ∃ g cap, v = .slice (some ⟨g, 0, none⟩) n cap := by
  rcases h.2 with ⟨h0, _⟩ | ⟨g, cap, _, rfl, _⟩
  · exact .inl h0
  · exact .inr ⟨g, cap, rfl⟩
theorem nm5_len (op : Int) (h : 0 ≤ op ∧ op ≤ 42) : (nm5 op).length ≤ 5 := (nm_facts op.toNat (by omega)).2.1
set_option maxHeartbeats 4000000 in
set_option maxRecDepth 100000 in
theorem Ins_good (i : IR) (h : okI i) (w : World) (hG : GlobT w) : Calls Tryz.prog 14 #[.agg (irC i)] w fun e w' => e = .returned (.string ⟨(insB i).toArray⟩) ∧ Below w.heap.size w w' := by
  have hop := h.1
  obtain ⟨hd, hn, hm, ha, hco, him⟩ := okI_regs h
  have hpf := pT_facts i.op.toNat (by omega)
  have hdW := (dW_facts h).2.2
  have hnW := (nW_facts h).2.2
  have HC := Lib.hid (fun W => a64_Check.calls 40 i.op i.d i.n i.m i.a i.cond i.imm 0 W (by have := checkA i 0; rwa [if_pos h] at this))
  have HW := Lib.hid (fun W => a64_Where.calls 2 i.op i.d i.n i.m i.a i.cond i.imm _ _ W (where_op i h 0))
  have HPa := Lib.hid (fun W => text_parts.calls 20 i.op _ W (pT_op i.op hop 0))
  have hpl : (pT i.op).length ≤ 4 := hpf.1
  have hpm : ∀ c ∈ pT i.op, c ∈ ([68, 78, 77, 65, 73, 109, 67] : List UInt8) := hpf.2
  have HNm := Lib.hid (fun W hW => Name_calls i.op.toNat (by omega) W hW)
  rw [show ((i.op.toNat : Nat) : Int) = i.op by omega] at HNm
  obtain ⟨p, hp⟩ : ∃ p, pT i.op = p := ⟨_, rfl⟩
  obtain ⟨nd, hnd⟩ : ∃ nd, dW i = nd := ⟨_, rfl⟩
  obtain ⟨nn, hnn⟩ : ∃ nn, nW i = nn := ⟨_, rfl⟩
  have HRD := Lib.hid (fun W => register_calls nd (by omega) W)
  have HRN := Lib.hid (fun W => register_calls nn (by omega) W)
  have HRM := Lib.hid (fun W => (show Calls Tryz.prog 31 #[.int .i64 i.m] W fun e w' => e = .returned (.string ⟨(rgT i.m.toNat).toArray⟩) ∧ w' = W from by have := register_calls i.m.toNat (by omega) W; rwa [show ((i.m.toNat : Nat) : Int) = i.m by omega] at this))
  have HRA := Lib.hid (fun W => (show Calls Tryz.prog 31 #[.int .i64 i.a] W fun e w' => e = .returned (.string ⟨(rgT i.a.toNat).toArray⟩) ∧ w' = W from by have := register_calls i.a.toNat (by omega) W; rwa [show ((i.a.toNat : Nat) : Int) = i.a by omega] at this))
  obtain ⟨ti, hti⟩ : ∃ ti : ByteArray, (⟨(Lib.itoa i.imm).toArray⟩ : ByteArray) = ti := ⟨_, rfl⟩
  have hti2 : (⟨#[35]⟩ : ByteArray) ++ ti = ⟨(35 :: Lib.itoa i.imm).toArray⟩ := by rw [← hti]; apply ByteArray.ext; simp
  have HFI := Lib.hid (fun W hW => (show Calls Tryz.prog 32 #[.int .i64 i.imm, .int .i64 10] W fun e w' => e = .returned (.string ti) ∧ Below W.heap.size W w' from hti ▸ fmt_calls i.imm (by omega) (by omega) W hW))
  have HTI2 := Lib.hid hti2
  have HIM := Lib.hid (fun W => itoaS_calls i.m hm.1 (by omega) W)
  have HIC := Lib.hid (fun W => itoaS_calls i.cond hco.1 (by omega) W)
  rw [hp] at hpl hpm HPa
  rw [hnd, hnn] at HW
  have HP := Lib.hid hp
  have HND := Lib.hid hnd
  have HNN := Lib.hid hnn
  have HG := Lib.hid hG
  have HOK := Lib.hid h
  have hfl : ti.size ≤ 12 := by
    have : (Lib.itoa i.imm).length ≤ 11 := by
      unfold Lib.itoa
      split
      · have := dec_len i.imm.natAbs 9 (by omega); simp; omega
      · have := dec_len i.imm.toNat 9 (by omega); omega
    rw [← hti]
    show (Lib.itoa i.imm).toArray.size ≤ 12
    rw [List.size_toArray]; omega
  clear hti hti2
  obtain ⟨op, d, n, m, a, c, im⟩ := i
  dsimp only at *
  clear h hpf hp hnd hnn hG
  unfold irC
  dsimp only
  go_enter Tryz.func14, Tryz.ntmps14
  go_wp2_with (first | (go_at_call 12; refine (HC.out _).mono ?_; rintro e w2 ⟨rfl, hb2⟩; have hr2 := row_kept hb2 (heap_alloc_new w (.cells #[.int .i64 op, .int .i64 d, .int .i64 n, .int .i64 m, .int .i64 a, .int .i64 c, .int .i64 im] 39)); obtain ⟨x0, x1, x2, x3, x4, x5, x6⟩ := cells7 hr2; have HR2 := Lib.hid hr2; have HB2 := Lib.hid hb2; clear hr2 hb2) | (go_at_call 30; refine (HW.out _).mono ?_; rintro e w3 ⟨rfl, hb3⟩; have hr3 := row_kept hb3 HR2.out; clear x0 x1 x2 x3 x4 x5 x6; obtain ⟨x0, x1, x2, x3, x4, x5, x6⟩ := cells7 hr3; have HR3 := Lib.hid hr3; have HB3 := Lib.hid (HB2.out.trans (hb3.mono HB2.out.size)); clear hr3 hb3) | (go_at_call 28; refine (HPa.out _).mono ?_; rintro e w4 ⟨rfl, hb4⟩) | fail)
  obtain ⟨i9, hi9, hz0, hz1, hz2⟩ := info_parts info9
  obtain ⟨W1, hW1⟩ : ∃ W1, w.alloc (Obj.cells #[.int .i64 op, .int .i64 d, .int .i64 n, .int .i64 m, .int .i64 a, .int .i64 c, .int .i64 im] 39) = W1 := ⟨_, rfl⟩
  have hw1 : Below w.heap.size w W1 := by rw [← hW1]; exact (Below.refl _ w).alloc (Nat.le_refl _) _
  have hw1r : W1.heap[w.heap.size]? = some (Obj.cells #[.int .i64 op, .int .i64 d, .int .i64 n, .int .i64 m, .int .i64 a, .int .i64 c, .int .i64 im] 39 (0, 0)) := by rw [← hW1]; exact heap_alloc_new w _
  rw [hW1] at HB3 HB2
  clear hW1
  obtain ⟨I, hI⟩ : ∃ I, (⟨op, d, n, m, a, c, im⟩ : IR) = I := ⟨_, rfl⟩
  have HPT68 : Hid (partS I 68 = rgT nd) := Lib.hid (by rw [← HND.out, hI]; rfl)
  have HPT78 : Hid (partS I 78 = rgT nn) := Lib.hid (by rw [← HNN.out, hI]; rfl)
  have HPT77 : Hid (partS I 77 = rgT m.toNat) := Lib.hid (by rw [← hI]; rfl)
  have HPT65 : Hid (partS I 65 = rgT a.toNat) := Lib.hid (by rw [← hI]; rfl)
  have HPT73 : Hid (partS I 73 = 35 :: Lib.itoa im) := Lib.hid (by rw [← hI]; rfl)
  have HPT109 : Hid (partS I 109 = Lib.itoa m) := Lib.hid (by rw [← hI]; rfl)
  have HPT67 : Hid (partS I 67 = Lib.itoa c) := Lib.hid (by rw [← hI]; rfl)
  have hb4' : Below w3.heap.size w3 w4 := hb4.below
  have HB4 := Lib.hid (HB3.out.trans (hb4'.mono HB3.out.size))
  obtain ⟨IT, hIT⟩ : ∃ IT, w4.heap.size = IT := ⟨_, rfl⟩
  have h0 : InS W1 IT ⟨p.toArray⟩ 0 (.slice none 0 0) [] (w4.iter ⟨p.toArray⟩ 0) :=
    ⟨World.ownsRow_nil _ _ _ _, by rw [← hIT]; exact World.iter_heap w4 _ 0, HB4.out.alloc HB4.out.size _, by rw [← hIT]; exact HB4.out.size⟩
  rw [hIT]
  have HI := Lib.hid hI
  clear hb4 hb4' x0 x1 x2 x3 x4 x5 x6 HB2 HR2 hI
  go_loopw [5] (fun v wr => ∃ pos, pos ≤ p.length ∧ InS W1 IT ⟨p.toArray⟩ pos v ((p.take pos).map (partS I)) wr) (fun _ wr => p.length - wr.iterPos IT)
  case atStart => exact ⟨0, by omega, h0⟩
  case round =>
    obtain ⟨pos, hpos, P0⟩ := hrel
    have hit := P0.it
    by_cases hlt : pos < p.length
    · obtain ⟨xs, hxs⟩ : ∃ xs, (p.take pos).map (partS I) = xs := ⟨_, rfl⟩
      rw [hxs] at P0
      have HTK : Hid ((p.take (pos + 1)).map (partS I) = xs ++ [partS I (p[pos]'hlt)]) := Lib.hid (by rw [← hxs, List.take_add_one, List.getElem?_eq_getElem hlt, List.map_append]; rfl)
      have HXL : Hid (xs.length ≤ 4) := Lib.hid (by rw [← hxs]; simp; omega)
      have PX := Lib.hid (P0.next (pos + 1))
      have hcm := hpm _ (List.getElem_mem hlt)
      obtain ⟨x0, x1, x2, x3, x4, x5, x6⟩ := cells7 (row_kept' PX.out.below (Array.getElem?_eq_some_iff.1 hw1r).1 hw1r)
      have HGI := Lib.hid ((HG.out.below hw1).below PX.out.below)
      clear P0 hxs
      simp only [List.mem_cons, List.not_mem_nil, or_false] at hcm
      rcases hcm with hc | hc | hc | hc | hc | hc | hc
      · have hnx : ∀ ty, (Instr.next (.pointer (some ⟨IT, 0, none⟩)) true ty).run Tryz.prog wr = .ok (.tuple #[.bool true, .int .i64 pos, .int .i32 68]) (wr.iterAt IT ⟨p.toArray⟩ (pos + 1)) := fun ty => next_at wr IT p pos 68 hit hlt hc (by decide) ty
        go_wp2_with (first | (go_at_call 31; refine (HRD.out _).mono ?_; rintro e V1 ⟨rfl, rfl⟩) | (at_builtin; refine wpList_append_own _ rfl _ _ 67 rfl W1.heap.size 9 i9 (.string ByteArray.empty) 1 16 Tryz.underlying67 hi9 hz0 hz1 hz2 rfl (by decide) _ _ _ rfl (PX.out.later ((Below.refl _ _).alloc (Nat.le_refl _) _)).row ⟨_, 0, none⟩ 1 1 [_] rfl rfl (one_new _ _) (by intro u hu; simp only [List.mem_singleton] at hu; subst hu; rfl) (by have := HXL.out; unfold maxLen; omega) (by have := HXL.out; omega) (Nat.le_trans PX.out.below.size (by simp)) ?_; intro v2 V3 hown hgrow _; have HPN := Lib.hid ((PX.out.later ((Below.refl _ _).alloc (Nat.le_refl _) _)).append hgrow hown); clear hown hgrow) | fail)
        go_roundw
        case rel => exact ⟨pos + 1, by omega, by rw [HTK.out, hc, HPT68.out]; exact HPN.out⟩
        case measure => simp only [World.iterPos, HPN.out.it, hit]; omega
      · have hnx : ∀ ty, (Instr.next (.pointer (some ⟨IT, 0, none⟩)) true ty).run Tryz.prog wr = .ok (.tuple #[.bool true, .int .i64 pos, .int .i32 78]) (wr.iterAt IT ⟨p.toArray⟩ (pos + 1)) := fun ty => next_at wr IT p pos 78 hit hlt hc (by decide) ty
        go_wp2_with (first | (go_at_call 31; refine (HRN.out _).mono ?_; rintro e V1 ⟨rfl, rfl⟩) | (at_builtin; refine wpList_append_own _ rfl _ _ 67 rfl W1.heap.size 9 i9 (.string ByteArray.empty) 1 16 Tryz.underlying67 hi9 hz0 hz1 hz2 rfl (by decide) _ _ _ rfl (PX.out.later ((Below.refl _ _).alloc (Nat.le_refl _) _)).row ⟨_, 0, none⟩ 1 1 [_] rfl rfl (one_new _ _) (by intro u hu; simp only [List.mem_singleton] at hu; subst hu; rfl) (by have := HXL.out; unfold maxLen; omega) (by have := HXL.out; omega) (Nat.le_trans PX.out.below.size (by simp)) ?_; intro v2 V3 hown hgrow _; have HPN := Lib.hid ((PX.out.later ((Below.refl _ _).alloc (Nat.le_refl _) _)).append hgrow hown); clear hown hgrow) | fail)
        go_roundw
        case rel => exact ⟨pos + 1, by omega, by rw [HTK.out, hc, HPT78.out]; exact HPN.out⟩
        case measure => simp only [World.iterPos, HPN.out.it, hit]; omega
      · have hnx : ∀ ty, (Instr.next (.pointer (some ⟨IT, 0, none⟩)) true ty).run Tryz.prog wr = .ok (.tuple #[.bool true, .int .i64 pos, .int .i32 77]) (wr.iterAt IT ⟨p.toArray⟩ (pos + 1)) := fun ty => next_at wr IT p pos 77 hit hlt hc (by decide) ty
        go_wp2_with (first | (go_at_call 31; refine (HRM.out _).mono ?_; rintro e V1 ⟨rfl, rfl⟩) | (at_builtin; refine wpList_append_own _ rfl _ _ 67 rfl W1.heap.size 9 i9 (.string ByteArray.empty) 1 16 Tryz.underlying67 hi9 hz0 hz1 hz2 rfl (by decide) _ _ _ rfl (PX.out.later ((Below.refl _ _).alloc (Nat.le_refl _) _)).row ⟨_, 0, none⟩ 1 1 [_] rfl rfl (one_new _ _) (by intro u hu; simp only [List.mem_singleton] at hu; subst hu; rfl) (by have := HXL.out; unfold maxLen; omega) (by have := HXL.out; omega) (Nat.le_trans PX.out.below.size (by simp)) ?_; intro v2 V3 hown hgrow _; have HPN := Lib.hid ((PX.out.later ((Below.refl _ _).alloc (Nat.le_refl _) _)).append hgrow hown); clear hown hgrow) | fail)
        go_roundw
        case rel => exact ⟨pos + 1, by omega, by rw [HTK.out, hc, HPT77.out]; exact HPN.out⟩
        case measure => simp only [World.iterPos, HPN.out.it, hit]; omega
      · have hnx : ∀ ty, (Instr.next (.pointer (some ⟨IT, 0, none⟩)) true ty).run Tryz.prog wr = .ok (.tuple #[.bool true, .int .i64 pos, .int .i32 65]) (wr.iterAt IT ⟨p.toArray⟩ (pos + 1)) := fun ty => next_at wr IT p pos 65 hit hlt hc (by decide) ty
        go_wp2_with (first | (go_at_call 31; refine (HRA.out _).mono ?_; rintro e V1 ⟨rfl, rfl⟩) | (at_builtin; refine wpList_append_own _ rfl _ _ 67 rfl W1.heap.size 9 i9 (.string ByteArray.empty) 1 16 Tryz.underlying67 hi9 hz0 hz1 hz2 rfl (by decide) _ _ _ rfl (PX.out.later ((Below.refl _ _).alloc (Nat.le_refl _) _)).row ⟨_, 0, none⟩ 1 1 [_] rfl rfl (one_new _ _) (by intro u hu; simp only [List.mem_singleton] at hu; subst hu; rfl) (by have := HXL.out; unfold maxLen; omega) (by have := HXL.out; omega) (Nat.le_trans PX.out.below.size (by simp)) ?_; intro v2 V3 hown hgrow _; have HPN := Lib.hid ((PX.out.later ((Below.refl _ _).alloc (Nat.le_refl _) _)).append hgrow hown); clear hown hgrow) | fail)
        go_roundw
        case rel => exact ⟨pos + 1, by omega, by rw [HTK.out, hc, HPT65.out]; exact HPN.out⟩
        case measure => simp only [World.iterPos, HPN.out.it, hit]; omega
      · have hnx : ∀ ty, (Instr.next (.pointer (some ⟨IT, 0, none⟩)) true ty).run Tryz.prog wr = .ok (.tuple #[.bool true, .int .i64 pos, .int .i32 73]) (wr.iterAt IT ⟨p.toArray⟩ (pos + 1)) := fun ty => next_at wr IT p pos 73 hit hlt hc (by decide) ty
        go_wp2_with (first | (go_at_call 32; refine (HFI.out _ (HGI.out)).mono ?_; rintro e V1 ⟨rfl, hv1⟩; have PY := Lib.hid (PX.out.later hv1); clear PX hv1; have PX := PY; clear PY) | (at_builtin; refine wpList_append_own _ rfl _ _ 67 rfl W1.heap.size 9 i9 (.string ByteArray.empty) 1 16 Tryz.underlying67 hi9 hz0 hz1 hz2 rfl (by decide) _ _ _ rfl (PX.out.later ((Below.refl _ _).alloc (Nat.le_refl _) _)).row ⟨_, 0, none⟩ 1 1 [_] rfl rfl (one_new _ _) (by intro u hu; simp only [List.mem_singleton] at hu; subst hu; rfl) (by have := HXL.out; unfold maxLen; omega) (by have := HXL.out; omega) (Nat.le_trans PX.out.below.size (by simp)) ?_; intro v2 V3 hown hgrow _; rw [HTI2.out] at hown; have HPN := Lib.hid ((PX.out.later ((Below.refl _ _).alloc (Nat.le_refl _) _)).append hgrow hown); clear hown hgrow) | fail)
        go_roundw
        case rel => exact ⟨pos + 1, by omega, by rw [HTK.out, hc, HPT73.out]; exact HPN.out⟩
        case measure => simp only [World.iterPos, HPN.out.it, hit]; omega
      · have hnx : ∀ ty, (Instr.next (.pointer (some ⟨IT, 0, none⟩)) true ty).run Tryz.prog wr = .ok (.tuple #[.bool true, .int .i64 pos, .int .i32 109]) (wr.iterAt IT ⟨p.toArray⟩ (pos + 1)) := fun ty => next_at wr IT p pos 109 hit hlt hc (by decide) ty
        go_wp2_with (first | (go_at_call 33; refine (HIM.out _).mono ?_; rintro e V1 ⟨rfl, rfl⟩) | (at_builtin; refine wpList_append_own _ rfl _ _ 67 rfl W1.heap.size 9 i9 (.string ByteArray.empty) 1 16 Tryz.underlying67 hi9 hz0 hz1 hz2 rfl (by decide) _ _ _ rfl (PX.out.later ((Below.refl _ _).alloc (Nat.le_refl _) _)).row ⟨_, 0, none⟩ 1 1 [_] rfl rfl (one_new _ _) (by intro u hu; simp only [List.mem_singleton] at hu; subst hu; rfl) (by have := HXL.out; unfold maxLen; omega) (by have := HXL.out; omega) (Nat.le_trans PX.out.below.size (by simp)) ?_; intro v2 V3 hown hgrow _; have HPN := Lib.hid ((PX.out.later ((Below.refl _ _).alloc (Nat.le_refl _) _)).append hgrow hown); clear hown hgrow) | fail)
        go_roundw
        case rel => exact ⟨pos + 1, by omega, by rw [HTK.out, hc, HPT109.out]; exact HPN.out⟩
        case measure => simp only [World.iterPos, HPN.out.it, hit]; omega
      · have hnx : ∀ ty, (Instr.next (.pointer (some ⟨IT, 0, none⟩)) true ty).run Tryz.prog wr = .ok (.tuple #[.bool true, .int .i64 pos, .int .i32 67]) (wr.iterAt IT ⟨p.toArray⟩ (pos + 1)) := fun ty => next_at wr IT p pos 67 hit hlt hc (by decide) ty
        go_wp2_with (first | (go_at_call 33; refine (HIC.out _).mono ?_; rintro e V1 ⟨rfl, rfl⟩) | (at_builtin; refine wpList_append_own _ rfl _ _ 67 rfl W1.heap.size 9 i9 (.string ByteArray.empty) 1 16 Tryz.underlying67 hi9 hz0 hz1 hz2 rfl (by decide) _ _ _ rfl (PX.out.later ((Below.refl _ _).alloc (Nat.le_refl _) _)).row ⟨_, 0, none⟩ 1 1 [_] rfl rfl (one_new _ _) (by intro u hu; simp only [List.mem_singleton] at hu; subst hu; rfl) (by have := HXL.out; unfold maxLen; omega) (by have := HXL.out; omega) (Nat.le_trans PX.out.below.size (by simp)) ?_; intro v2 V3 hown hgrow _; have HPN := Lib.hid ((PX.out.later ((Below.refl _ _).alloc (Nat.le_refl _) _)).append hgrow hown); clear hown hgrow) | fail)
        go_roundw
        case rel => exact ⟨pos + 1, by omega, by rw [HTK.out, hc, HPT67.out]; exact HPN.out⟩
        case measure => simp only [World.iterPos, HPN.out.it, hit]; omega
    · have hnx : ∀ ty, (Instr.next (.pointer (some ⟨IT, 0, none⟩)) true ty).run Tryz.prog wr = .ok (.tuple #[.bool false]) wr := fun ty => next_end wr IT p pos hit hlt ty
      have hpp : pos = p.length := by omega
      subst hpp
      rw [List.take_length] at P0
      obtain ⟨x0, x1, x2, x3, x4, x5, x6⟩ := cells7 (row_kept' P0.below (Array.getElem?_eq_some_iff.1 hw1r).1 hw1r)
      have HGX := Lib.hid ((HG.out.below hw1).below P0.below)
      have HP0 := Lib.hid P0
      obtain ⟨tn, htn⟩ : ∃ tn : ByteArray, (⟨(nm5 op).toArray⟩ : ByteArray) = tn := ⟨_, rfl⟩
      have htz : tn.size ≤ 5 := by
        have := nm5_len op hop
        rw [← htn]
        show (nm5 op).toArray.size ≤ 5
        rw [List.size_toArray]; exact this
      rw [htn] at HNm
      have hrow := P0.row
      rw [List.length_map] at hrow
      by_cases hp0 : p = []
      · have hin : (⟨(insB (⟨op, d, n, m, a, c, im⟩ : IR)).toArray⟩ : ByteArray) = tn := by
          rw [← htn, insB, if_pos (by rw [← hp0]; exact HP.out), List.append_nil]
        have hl0 : p.length = 0 := by rw [hp0]; rfl
        rw [hl0] at hrow
        have HIN := Lib.hid hin
        rcases own_form2 hrow with rfl | ⟨g, cap, rfl⟩
        all_goals
          clear hrow hp0 hl0 P0 hin htn
          go_wp2_with (first | (go_at_call 27; refine (HNm.out _ HGX.out).mono ?_; rintro e w5 ⟨rfl, hb5⟩) | fail)
          go_ret
          rw [HIN.out]
          exact ⟨rfl, (hw1.trans (HP0.out.below.mono hw1.size)).trans (hb5.mono (Nat.le_trans hw1.size HP0.out.below.size))⟩
      · have hl1 : 0 < p.length := List.length_pos_iff.2 hp0
        rcases own_form2 hrow with rfl | ⟨g, cap, rfl⟩
        · exfalso
          rcases hrow.2 with ⟨_, h1⟩ | ⟨g, cap, _, h1, _⟩
          · omega
          · exact absurd h1 (by simp)
        have hq0 : ¬ ((p.length : Int) = 0) := by omega
        have hq1 : ((p.length : Int) == 0) = false := by rw [beq_eq_false_iff_ne]; exact hq0
        obtain ⟨tj, htj⟩ : ∃ tj : ByteArray, (⟨(Lib.join ((p.map fun c => (⟨(partS I c).toArray⟩ : ByteArray)).map (·.data.toList)) [44, 32]).toArray⟩ : ByteArray) = tj := ⟨_, rfl⟩
        have hjr : Lib.join ((p.map fun c => (⟨(partS I c).toArray⟩ : ByteArray)).map (·.data.toList)) [44, 32] = restS I := by
          unfold restS
          rw [← HI.out, show pT (⟨op, d, n, m, a, c, im⟩ : IR).op = p from HP.out, List.map_map]
          rfl
        have hzj : tj.size ≤ 100 := by
          have := restS_len (HI.out ▸ HOK.out)
          rw [← htj, hjr]
          show (restS I).toArray.size ≤ 100
          rw [List.size_toArray]; exact this
        have hfin : (tn ++ (⟨#[32]⟩ : ByteArray)) ++ tj = ⟨(insB (⟨op, d, n, m, a, c, im⟩ : IR)).toArray⟩ := by
          rw [← htn, ← htj, hjr, show (⟨#[32]⟩ : ByteArray) = ⟨[32].toArray⟩ from rfl, ba_app, ba_app, insB, if_neg (by rw [show pT (⟨op, d, n, m, a, c, im⟩ : IR).op = p from HP.out]; exact hp0), HI.out]
          have hIo : I.op = op := by rw [← HI.out]
          simp [hIo]
        have HJ : Hid (∀ W, Below wr.heap.size wr W → Calls Tryz.prog 34 #[.slice (some ⟨g, 0, none⟩) p.length cap, .string ⟨#[44, 32]⟩] W fun e w' => e = .returned (.string tj) ∧ Below W.heap.size W w') := by
          refine Lib.hid fun W hW => ?_
          have hP := HP0.out.later hW
          have hrw := hP.row
          rw [List.length_map] at hrw
          have hlen : (p.map fun c => (⟨(partS I c).toArray⟩ : ByteArray)).length = p.length := by simp
          have := Tryz.strings_Join g 0 cap (p.map fun c => (⟨(partS I c).toArray⟩ : ByteArray)) ⟨#[44, 32]⟩ W (by
              intro j x hj
              rw [Nat.zero_add]
              have hjl : j < p.length := by have := (List.getElem?_eq_some_iff.1 hj).1; simpa using this
              rw [hrw.cellAt j (by omega), List.map_map, List.getElem?_map]
              rw [List.getElem?_map] at hj
              rw [List.getElem?_eq_getElem hjl] at hj ⊢
              cases hj
              rfl) (hrw.lt g rfl).2 (by rw [hlen]; omega) (by
              rw [hlen]
              rcases hrw.2 with ⟨h1, _⟩ | ⟨g', cap', _, h1, _, _, h2, _⟩
              · cases h1
              · cases h1; exact h2) (by
              have := restS_len (HI.out ▸ HOK.out)
              rw [show (⟨#[44, 32]⟩ : ByteArray).data.toList = [44, 32] from rfl, hjr]
              omega)
          rw [hlen, show (⟨#[44, 32]⟩ : ByteArray).data.toList = [44, 32] from rfl, htj] at this
          exact this
        have HF := Lib.hid hfin
        clear hrow hp0 P0 htj hjr htn hfin
        go_wp2_with (first | (go_at_call 27; refine (HNm.out _ HGX.out).mono ?_; rintro e w5 ⟨rfl, hb5⟩) | (go_at_call 34; refine (HJ.out _ hb5).mono ?_; rintro e w6 ⟨rfl, hb6⟩) | fail)
        go_ret
        rw [HF.out]
        exact ⟨rfl, (hw1.trans (HP0.out.below.mono hw1.size)).trans ((hb5.trans (hb6.mono hb5.size)).mono (Nat.le_trans hw1.size HP0.out.below.size))⟩
theorem Ins_calls (i : IR) (w : World) (hG : GlobT w) : Calls Tryz.prog 14 #[.agg (irC i)] w fun e w' => e = .returned (.string ⟨(insS i).toArray⟩) ∧ Below w.heap.size w w' := by
  by_cases h : okI i
  · rw [insS, if_pos h]; exact Ins_good i h w hG
  · rw [insS, if_neg h]; exact Ins_bad i h w
end Go.Proofs.YtkphijabhoppnaaGreatDoor
