/- A program that came in, opened; its bulk. -/
import Derived.Test.YtkphijabhoppnaaDoorRows
import Derived.Test.YtkphijabhoppnaaDoorAXa
import Derived.Deep.Slices
import Derived.Lib.SmallJoins
import Derived.ChangeArms
namespace Go.Proofs.YtkphijabhoppnaaDoor
open Go.Deep Go.Joins Go.ChangeShapes Go.WideShapes Go.ChangeAt Go.RowKit Go.Proofs.YtkphijabhoppnaaDoorW.PrintWords
set_option linter.unusedSimpArgs false
set_option linter.unusedVariables false
namespace bulks
theorem one_le {H : Type} (d : DataW H) : 1 ≤ Rows.uptoBulk d := by
  cases d with
  | lit l => cases l <;> simp [Rows.uptoBulk]
  | nil => simp [Rows.uptoBulk]
  | ptr d => simp [Rows.uptoBulk]
  | slice elems spare => simp [Rows.uptoBulk]
  | agg parts => simp [Rows.uptoBulk]
  | iface t d => simp [Rows.uptoBulk]
  | map entries => simp [Rows.uptoBulk]
  | held h => simp [Rows.uptoBulk]
theorem part_le {H : Type} {d : DataW H} {l : List (DataW H)} (h : d ∈ l) : Rows.uptoBulk d ≤ Rows.uptoBulkAll l := by
  induction l with
  | nil => cases h
  | cons x r ih =>
    simp only [Rows.uptoBulkAll]
    cases List.mem_cons.1 h with
    | inl e => subst e; omega
    | inr e => have := ih e; omega
theorem length_le {H : Type} (l : List (DataW H)) : l.length ≤ Rows.uptoBulkAll l := by
  induction l with
  | nil => simp [Rows.uptoBulkAll]
  | cons x r ih => have := one_le x; simp only [Rows.uptoBulkAll, List.length_cons]; omega
theorem slice_len {H : Type} (elems spare : List (DataW H)) : elems.length ≤ Rows.uptoBulk (.slice elems spare) := by
  have h1 := length_le elems
  simp only [Rows.uptoBulk]
  omega
theorem slice_part {H : Type} {d : DataW H} {elems spare : List (DataW H)} (h : d ∈ elems) : Rows.uptoBulk d ≤ Rows.uptoBulk (.slice elems spare) := by
  have h1 := part_le h
  simp only [Rows.uptoBulk]
  omega
theorem agg_part {H : Type} {d : DataW H} {parts : List (DataW H)} (h : d ∈ parts) : Rows.uptoBulk d ≤ Rows.uptoBulk (.agg parts) := by
  have h1 := part_le h
  simp only [Rows.uptoBulk]
  omega
end bulks
section
variable {H : Type} {enc : TypeId × Value → H} {W : World} {sp : Nat → Bool} {held : Bool}
def ElemOf {α : Type} (d : Kd α) (P : α → List Value → Prop) (sz : α → Nat) (enc : TypeId × Value → H) (W : World) (sp : Nat → Bool) (held : Bool) (e : TypeId) : Prop :=
  ∀ (n : Nat) (cs : List Value) (y : DataW H × List MemPlace), DataW.trod enc Tryd.prog W 0 sp held n e cs = some y → ∃ v : α, d.K W v cs ∧ P v cs ∧ sz v ≤ Rows.uptoBulk y.1
def RowOf {α : Type} (d : Kd α) (P : α → List Value → Prop) (sz : α → Nat) (W : World) (B : Nat) (v : Value) : Prop :=
  ∃ (A : Option Addr) (c : Nat) (l : List α), v = .slice A l.length c ∧ l.length ≤ c ∧ c ≤ 9223372036854775807 ∧ Kd.C d W A l.length l ∧ l.length ≤ B ∧
    ∀ j p, l[j]? = some p → ∃ ad cs, A = some ad ∧ P p cs ∧ sz p ≤ B ∧ ∀ i u, cs[i]? = some u → W.cell? (ad.add (j * d.sz + i)) = some u
theorem row_of {α : Type} (z : α) {d : Kd α} {P : α → List Value → Prop} {sz : α → Nat} {t e : TypeId} (ht : Tryd.prog.underlying t = some (.slice e)) (hc : Tryd.prog.cellsOf e = d.sz) (he : ElemOf d P sz enc W sp held e)
    {fuel : Nat} {v : Value} {x : DataW H × List MemPlace} (h : DataW.trod enc Tryd.prog W 0 sp held fuel t [v] = some x) : RowOf d P sz W (Rows.uptoBulk x.1) v := by
  rcases open_slice ht h with ⟨hcs, rfl⟩ | ⟨a, len, cap, m, n, D, Pl, hcs, -, hl, hm, hmm, rfl, hx⟩
  · simp at hcs
    subst hcs
    exact ⟨none, 0, [], rfl, Nat.le_refl _, by omega, Kd.C_nil _ _, by simp, fun j p hj => by simp at hj⟩
  · simp at hcs
    subst hcs
    have hlm : len ≤ m := by rw [hmm]; split <;> omega
    have hel : ∀ i, i < len → ∃ q : α × List Value, d.K W q.1 q.2 ∧ P q.1 q.2 ∧ sz q.1 ≤ Rows.uptoBulk (D i) ∧ ∀ j u, q.2[j]? = some u → W.cell? (a.add (i * d.sz + j)) = some u := fun i hi => by
      obtain ⟨cs', h1, h2⟩ := hx i (by omega)
      obtain ⟨v, k1, k2, k3⟩ := he n cs' _ h2
      obtain ⟨-, hlen, hcell⟩ := World.cells?_some h1
      refine ⟨(v, cs'), k1, k2, k3, fun j u hj => ?_⟩
      have hjl := (List.getElem?_eq_some_iff.1 hj).1
      have := hcell j (by dsimp only at hjl; omega)
      rw [Deep.add_add, hc] at this
      exact this.trans hj
    haveI : Inhabited α := ⟨z⟩
    obtain ⟨Q, hQ⟩ := choose_lt (α := α × List Value) (p := fun i q => d.K W q.1 q.2 ∧ P q.1 q.2 ∧ sz q.1 ≤ Rows.uptoBulk (D i) ∧ ∀ j u, q.2[j]? = some u → W.cell? (a.add (i * d.sz + j)) = some u) hel
    have hlen : ((List.range len).map fun i => (Q i).1).length = len := by simp
    have hget : ∀ j p, ((List.range len).map fun i => (Q i).1)[j]? = some p → j < len ∧ (Q j).1 = p := fun j p hj => by
      obtain ⟨hj1, hj2⟩ := List.getElem?_eq_some_iff.1 hj
      simp at hj1 hj2
      exact ⟨hj1, hj2⟩
    have hb : ∀ i, i < len → Rows.uptoBulk (D i) ≤ Rows.uptoBulk (DataW.slice ((List.range len).map D) ((List.range (m - len)).map fun j => D (len + j))) := fun i hi =>
      bulks.slice_part (List.mem_map.2 ⟨i, List.mem_range.2 hi, rfl⟩)
    have hmx : cap ≤ 9223372036854775807 := by have : maxLen = 9223372036854775807 := by rfl
                                               omega
    refine ⟨some a, cap, (List.range len).map fun i => (Q i).1, by rw [hlen], by rw [hlen]; exact hl, hmx, ⟨rfl, by rw [hlen]; omega, fun _ => ⟨a, rfl, fun j p hj => ?_⟩⟩, ?_, fun j p hj => ?_⟩
    · obtain ⟨hj1, rfl⟩ := hget j p hj
      obtain ⟨q1, q2, q3, q4⟩ := hQ j hj1
      exact ⟨(Q j).2, d.K_len q1, q1, q4⟩
    · rw [hlen]
      have := bulks.slice_len ((List.range len).map D) ((List.range (m - len)).map fun j => D (len + j))
      simpa using this
    · obtain ⟨hj1, rfl⟩ := hget j p hj
      obtain ⟨q1, q2, q3, q4⟩ := hQ j hj1
      exact ⟨a, (Q j).2, rfl, q2, Nat.le_trans q3 (hb j hj1), q4⟩
theorem elem_int {k : IntKind} {e : TypeId} (he : Tryd.prog.underlying e = some (.int k)) : ElemOf (Kd.int k) (fun x _ => (Lit.int k x).wf = true) (fun _ => 0) enc W sp held e := by
  intro n cs y h
  obtain ⟨x, rfl, -, hw⟩ := DataW.trod_int he h
  exact ⟨x, rfl, hw, Nat.zero_le _⟩
set_option maxRecDepth 100000 in
theorem elem_field : ElemOf PVerifyMethods.k179 (fun _ _ => True) (fun _ => 0) enc W sp held 179 := by
  intro n cs y h
  obtain ⟨y0, y1, n', -, hl, h0, h1⟩ := trod_struct2 Tryd.underlying179 h
  obtain ⟨a, ha, -, -⟩ := DataW.trod_int Tryd.underlying3 h0
  obtain ⟨b, hb, -⟩ := DataW.trod_bool Tryd.underlying4 h1
  have c3 : Tryd.prog.cellsOf 3 = 1 := by kernel_rfl
  have c4 : Tryd.prog.cellsOf 4 = 1 := by kernel_rfl
  have c179 : Tryd.prog.cellsOf 179 = 2 := by kernel_rfl
  rw [c179] at hl
  match cs, hl with
  | [u0, u1], _ =>
    simp [c3] at ha
    simp [c4] at hb
    subst ha hb
    exact ⟨⟨a, b⟩, PVerifyMethods.k179_mk W ⟨a, b⟩, trivial, Nat.zero_le _⟩
set_option maxRecDepth 100000 in
theorem elem_class : ElemOf (Kd.slice 179 PVerifyMethods.k179) (fun _ _ => True) List.length enc W sp held 124 := by
  intro n cs y h
  have hs : Tryd.prog.underlying 124 = some (.slice 179) := Tryd.underlying124
  obtain ⟨a, l, c, rfl⟩ := slice_form hs h
  obtain ⟨A, c', fs, e, hle, -, hC, hB, -⟩ := row_of PVerifyMethods.z179 hs (by kernel_rfl) elem_field h
  refine ⟨fs, ⟨A, c', by rw [e], hle, hC⟩, trivial, hB⟩
def MethP (m : Meth) (cs : List Value) : Prop := (∀ x ∈ m.f4, 0 ≤ x ∧ x ≤ 255) ∧ ∃ A c, cs[4]? = some (.slice A m.f4.length c) ∧ c ≤ 9223372036854775807
def MethSz (m : Meth) : Nat := max m.f0.length (max m.f2.length m.f4.length)
theorem ints_of {k : IntKind} {t e : TypeId} (ht : Tryd.prog.underlying t = some (.slice e)) (he : Tryd.prog.underlying e = some (.int k)) (hc : Tryd.prog.cellsOf e = 1) {n : Nat} {cs : List Value} {y : DataW H × List MemPlace} (h : DataW.trod enc Tryd.prog W 0 sp held n t cs = some y) :
    ∃ A c l, cs = [.slice A l.length c] ∧ l.length ≤ c ∧ c ≤ 9223372036854775807 ∧ Kd.C (Kd.int k) W A l.length l ∧ l.length ≤ Rows.uptoBulk y.1 ∧ ∀ x ∈ l, (Lit.int k x).wf = true := by
  obtain ⟨a, l, c, rfl⟩ := slice_form ht h
  obtain ⟨A, c', xs, e', hle, hmx, hC, hB, hel⟩ := row_of (0 : Int) ht hc (elem_int he) h
  refine ⟨A, c', xs, by rw [e'], hle, hmx, hC, hB, fun x hx => ?_⟩
  obtain ⟨j, hj⟩ := List.getElem?_of_mem hx
  obtain ⟨ad, cs, -, h2, -⟩ := hel j x hj
  exact h2
set_option maxRecDepth 100000 in
theorem elem_method : ElemOf PVerifyMethods.k64 MethP MethSz enc W sp held 64 := by
  intro n cs y h
  obtain ⟨xs, n', -, rfl, hl, hlen, hf⟩ := DataW.trod_struct Tryd.underlying64 h
  have c3 : Tryd.prog.cellsOf 3 = 1 := by kernel_rfl
  have c33 : Tryd.prog.cellsOf 33 = 1 := by kernel_rfl
  have c22 : Tryd.prog.cellsOf 22 = 1 := by kernel_rfl
  have c64 : Tryd.prog.cellsOf 64 = 5 := by kernel_rfl
  rw [c64] at hl
  match cs, hl, xs, hlen with
  | [u0, u1, u2, u3, u4], _, [y0, y1, y2, y3, y4], _ =>
    have h0 := hf 0 _ rfl
    have h1 := hf 1 _ rfl
    have h2 := hf 2 _ rfl
    have h3 := hf 3 _ rfl
    have h4 := hf 4 _ rfl
    simp [c3, c33, c22] at h0 h1 h2 h3 h4
    obtain ⟨A0, b0, l0, e0, q0, -, C0, B0, -⟩ := ints_of Tryd.underlying33 Tryd.underlying3 c3 h0
    obtain ⟨a1, e1, -, -⟩ := DataW.trod_int Tryd.underlying3 h1
    obtain ⟨A2, b2, l2, e2, q2, -, C2, B2, -⟩ := ints_of Tryd.underlying33 Tryd.underlying3 c3 h2
    obtain ⟨a3, e3, -, -⟩ := DataW.trod_int Tryd.underlying3 h3
    obtain ⟨A4, b4, l4, e4, q4, m4, C4, B4, w4⟩ := ints_of Tryd.underlying22 Tryd.underlying5 (by kernel_rfl) h4
    simp at e0 e1 e2 e3 e4
    subst e0 e1 e2 e3 e4
    refine ⟨⟨l0, a1, l2, a3, l4⟩, PVerifyMethods.k64_mk W ⟨l0, a1, l2, a3, l4⟩ q0 C0 q2 C2 q4 C4, ⟨fun x hx => ?_, A4, b4, rfl, m4⟩, ?_⟩
    · have := w4 x hx
      unfold Lit.wf at this
      simp only [Bool.and_eq_true, decide_eq_true_eq] at this
      exact this
    · have p0 := bulks.agg_part (d := y0.1) (parts := [y0.1, y1.1, y2.1, y3.1, y4.1]) (by simp)
      have p2 := bulks.agg_part (d := y2.1) (parts := [y0.1, y1.1, y2.1, y3.1, y4.1]) (by simp)
      have p4 := bulks.agg_part (d := y4.1) (parts := [y0.1, y1.1, y2.1, y3.1, y4.1]) (by simp)
      simp only [MethSz, List.map_cons, List.map_nil]
      omega
set_option maxRecDepth 100000 in
theorem open_program {r : Reach} {b0 : Nat} {v : Value} {d : DataW H} {ps : List MemPlace} (hv : Value.okWide Tryd.prog W r b0 59 v) (h : DataW.Trod enc Tryd.prog W 0 sp held 59 v d ps) (hb : Rows.uptoBulk d ≤ 1048576) :
    ∃ A0 c0 A1 c1 A2 c2 p, v = .agg #[.slice A0 p.pool.length c0, .slice A1 p.classes.length c1, .slice A2 p.methods.length c2] ∧ PgX W A0 c0 A1 c1 A2 c2 p := by
  obtain ⟨v0, v1, v2, y0, y1, y2, n, rfl, rfl, -, h0, h1, h2⟩ := open_agg3 Tryd.underlying59 (by kernel_rfl) (by kernel_rfl) hv h
  have p0 := bulks.agg_part (d := y0.1) (parts := [y0.1, y1.1, y2.1]) (by simp)
  have p1 := bulks.agg_part (d := y1.1) (parts := [y0.1, y1.1, y2.1]) (by simp)
  have p2 := bulks.agg_part (d := y2.1) (parts := [y0.1, y1.1, y2.1]) (by simp)
  obtain ⟨A0, c0, l0, e0, q0, m0, C0, B0, -⟩ := row_of (0 : Int) Tryd.underlying55 (by kernel_rfl) (elem_int Tryd.underlying3) h0
  obtain ⟨A1, c1, l1, e1, q1, m1, C1, B1, E1⟩ := row_of ([] : List Fld) Tryd.underlying56 (by kernel_rfl) elem_class h1
  obtain ⟨A2, c2, l2, e2, q2, m2, C2, B2, E2⟩ := row_of PVerifyMethods.z64 Tryd.underlying57 (by kernel_rfl) elem_method h2
  subst e0 e1 e2
  refine ⟨A0, c0, A1, c1, A2, c2, ⟨l0, l1, l2⟩, rfl, ⟨C0, q0, C1, q1, C2, q2⟩, ?_, ?_, ?_⟩
  · intro k ad A l c hk e hcell
    dsimp only at hk
    obtain ⟨ad', cs, e', ⟨-, A', c', hc4, hm4⟩, -, hcells⟩ := E2 k _ (List.getElem?_eq_getElem hk)
    obtain rfl : ad = ad' := Option.some.inj (e.symm.trans e')
    have h4 := hcells 4 _ hc4
    have hsz : PVerifyMethods.k64.sz = 5 := rfl
    rw [hsz, add_field _ _ 4 (by omega), hcell] at h4
    injection h4 with h4
    injection h4 with q1 q2 q3
    omega
  · intro m hm
    obtain ⟨j, hj⟩ := List.getElem?_of_mem hm
    obtain ⟨ad, cs, -, h2, -⟩ := E2 j m hj
    exact h2.1
  · refine ⟨by dsimp only; omega, by dsimp only; omega, by dsimp only; omega, fun m hm => ?_, fun c hc => ?_⟩
    · obtain ⟨j, hj⟩ := List.getElem?_of_mem hm
      obtain ⟨ad, cs, -, -, h3, -⟩ := E2 j m hj
      unfold MethSz at h3
      omega
    · obtain ⟨j, hj⟩ := List.getElem?_of_mem hc
      obtain ⟨ad, cs, -, -, h3, -⟩ := E1 j c hj
      omega
end
end Go.Proofs.YtkphijabhoppnaaDoor
