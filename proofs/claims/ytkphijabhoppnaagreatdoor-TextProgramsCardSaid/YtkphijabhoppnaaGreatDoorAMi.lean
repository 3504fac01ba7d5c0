/- TextBack: the row and its card. -/
import Derived.Test.YtkphijabhoppnaaGreatDoorCards
import Derived.Test.YtkphijabhoppnaaGreatDoorTie
import Derived.Test.YtkphijabhoppnaaGreatDoorAMh
import Derived.WalkKit
import Derived.ProofKit
import Derived.OpenShut
import Derived.ShutString
import Derived.ChangeArms
import Derived.Deep.Slices
import Derived.ChangeOld
import Derived.Below
import Derived.LaidMore
import Derived.Deep.DeepHandedRow
import Derived.Deep.DeepWitnessRowRef
import Derived.Lib.LaidTab
import Derived.Stop.LaidErr
import Derived.Lay
import Derived.Lib.SmallJoins
import Derived.ChangeMaps5
namespace Go.Proofs.YtkphijabhoppnaaGreatDoor
open Go.ChangeShapes Go.WideShapes Go.ChangeAt Go.RowKit Go.Deep
set_option linter.unusedVariables false
set_option maxRecDepth 100000 in
theorem ir_cells {H : Type} {enc : TypeId × Value → H} {W : World} {held : Bool} {base n : Nat} {cs : List Value} {y : DataW H × List MemPlace} {sp : Nat → Bool}
    (hf : DataW.trod enc Tryz.prog W base sp held n 39 cs = some y) : ∃ i : IR, cs = (irC i).toList := by
  have hC : Tryz.prog.cellsOf 39 = 7 := by kernel_rfl
  obtain ⟨xs, n, _, _, hl, hlen, hf⟩ := DataW.trod_struct Tryz.underlying39 hf
  rw [hC] at hl
  match cs, hl with
  | [c0, c1, c2, c3, c4, c5, c6], _ =>
    have hx : ∀ j : Nat, j < 7 → ∃ y, xs[j]? = some y := fun j hj => by
      have hlt : j < xs.length := by rw [hlen]; exact hj
      exact ⟨_, List.getElem?_eq_getElem hlt⟩
    have c3o : Tryz.prog.cellsOf 3 = 1 := by kernel_rfl
    have c2o : Tryz.prog.cellsOf 2 = 1 := by kernel_rfl
    obtain ⟨y0, e0⟩ := hx 0 (by omega)
    obtain ⟨y1, e1⟩ := hx 1 (by omega)
    obtain ⟨y2, e2⟩ := hx 2 (by omega)
    obtain ⟨y3, e3⟩ := hx 3 (by omega)
    obtain ⟨y4, e4⟩ := hx 4 (by omega)
    obtain ⟨y5, e5⟩ := hx 5 (by omega)
    obtain ⟨y6, e6⟩ := hx 6 (by omega)
    have f0 := (hf 0 _ rfl).trans e0
    have f1 := (hf 1 _ rfl).trans e1
    have f2 := (hf 2 _ rfl).trans e2
    have f3 := (hf 3 _ rfl).trans e3
    have f4 := (hf 4 _ rfl).trans e4
    have f5 := (hf 5 _ rfl).trans e5
    have f6 := (hf 6 _ rfl).trans e6
    obtain ⟨o0, h0, -, -⟩ := DataW.trod_int Tryz.underlying3 f0
    obtain ⟨o1, h1, -, -⟩ := DataW.trod_int Tryz.underlying3 f1
    obtain ⟨o2, h2, -, -⟩ := DataW.trod_int Tryz.underlying3 f2
    obtain ⟨o3, h3, -, -⟩ := DataW.trod_int Tryz.underlying3 f3
    obtain ⟨o4, h4, -, -⟩ := DataW.trod_int Tryz.underlying3 f4
    obtain ⟨o5, h5, -, -⟩ := DataW.trod_int Tryz.underlying3 f5
    obtain ⟨o6, h6, -, -⟩ := DataW.trod_int Tryz.underlying2 f6
    simp [c3o] at h0 h1 h2 h3 h4 h5
    simp [c2o] at h6
    exact ⟨⟨o0, o1, o2, o3, o4, o5, o6⟩, by rw [h0, h1, h2, h3, h4, h5, h6]; rfl⟩
theorem open_irs {H : Type} {enc : TypeId × Value → H} {W : World} {held : Bool} {base : Nat} {v : Value} {x : DataW H × List MemPlace} {sp : Nat → Bool} {fuel : Nat}
    (h : DataW.trod enc Tryz.prog W base sp held fuel 22 [v] = some x) : ∃ l : List IR, Inss W v l := by
  have hC : Tryz.prog.cellsOf 39 = 7 := by kernel_rfl
  rcases open_slice Tryz.underlying22 h with ⟨hcs, rfl⟩ | ⟨a, len, cap, m, n, D, Pl, hcs, -, hl, hm, hmm, rfl, hx⟩
  · simp at hcs
    subst hcs
    exact ⟨[], none, 0, rfl, fun e => absurd rfl e⟩
  · simp at hcs
    subst hcs
    have hlm : len ≤ m := by rw [hmm]; split <;> omega
    have hel : ∀ i, i < len → ∃ q : IR, ∀ j u, (irC q)[j]? = some u → W.cell? (a.add (i * 7 + j)) = some u := fun i hi => by
      obtain ⟨cs', h1, h2⟩ := hx i (by omega)
      rw [hC] at h1
      obtain ⟨q, rfl⟩ := ir_cells h2
      obtain ⟨-, hlen, hcell⟩ := World.cells?_some h1
      refine ⟨q, fun j u hj => ?_⟩
      have hjl : j < 7 := (Array.getElem?_eq_some_iff.1 hj).1
      have := hcell j hjl
      rw [add_add] at this
      rw [this, Array.getElem?_toList]
      exact hj
    haveI : Inhabited IR := ⟨i0 0⟩
    obtain ⟨Q, hQ⟩ := choose_lt (α := IR) (p := fun i q => ∀ j u, (irC q)[j]? = some u → W.cell? (a.add (i * 7 + j)) = some u) hel
    refine ⟨(List.range len).map Q, some a, cap, by simp, fun hne => ?_⟩
    have hpos : 0 < len := by
      rcases Nat.eq_zero_or_pos len with h0 | h0
      · subst h0; simp at hne
      · exact h0
    have hsp : a.spot = none := by
      have := hQ 0 hpos 0 (.int .i64 (Q 0).op) rfl
      rw [show a.add (0 * 7 + 0) = a from rfl] at this
      unfold World.cell? at this
      split at this
      · split at this
        · simp at this
        · rename_i hs; simpa using hs
      · simp at this
    obtain ⟨b, off, spot⟩ := a
    dsimp only at hsp
    subst hsp
    refine ⟨b, off, rfl, fun j i hj k u hk => ?_⟩
    obtain ⟨hj1, hj2⟩ := List.getElem?_eq_some_iff.1 hj
    simp at hj1 hj2
    subst hj2
    have := hQ j hj1 k u hk
    have ha : (⟨b, off, none⟩ : Addr).add (j * 7 + k) = ⟨b, off + j * 7 + k, none⟩ := by
      unfold Addr.add
      split
      · rename_i h0; rw [show off + j * 7 + k = off by omega]
      · dsimp only; rw [Nat.add_assoc]
    rw [ha] at this
    exact this
theorem ownK : ownKnob Tryz.prog.godebug = none := by kernel_rfl
theorem laidOutK : laidOutB Tryz.prog = true := by kernel_rfl
def L9 : List (String × DataW Unit) := [("math/bits.deBruijn32tab", Rows.laid_math_bits_deBruijn32tab), ("math/bits.deBruijn64tab", Rows.laid_math_bits_deBruijn64tab), ("internal/strconv.uint64pow10", Rows.laid_internal_strconv_uint64pow10), ("unicode/utf8.acceptRanges", Rows.laid_unicode_utf8_acceptRanges), ("strconv.ErrRange", Rows.laid_strconv_ErrRange), ("strconv.ErrSyntax", Rows.laid_strconv_ErrSyntax), ("unicode.White_Space", Rows.laid_unicode_White_Space), ("strings.asciiSpace", Rows.laid_strings_asciiSpace), ("unicode/utf8.first", Rows.laid_unicode_utf8_first)]
set_option maxRecDepth 100000 in
theorem L9_met (os : Os) (args : Array Value) : laidMetH Tryz.prog L9 ((World.laidAll Tryz.prog os L9).forCall (fun _ _ => 0) ⟨#[], args, []⟩).memory := by
  rw [MakeChecks.laidMetH_plain _ _ _ (by kernel_rfl)]
  exact laidMet_laidAll _ (by kernel_rfl) (by kernel_rfl)
def L9t : List (String × DataW Unit) := [("math/bits.deBruijn32tab", Rows.laid_math_bits_deBruijn32tab), ("math/bits.deBruijn64tab", Rows.laid_math_bits_deBruijn64tab), ("internal/strconv.uint64pow10", Lib.tabData .u64 Lib.pow10Tab), ("unicode/utf8.acceptRanges", Rows.laid_unicode_utf8_acceptRanges), ("strconv.ErrRange", Rows.laid_strconv_ErrRange), ("strconv.ErrSyntax", Rows.laid_strconv_ErrSyntax), ("unicode.White_Space", Rows.laid_unicode_White_Space), ("strings.asciiSpace", Lib.tabData .u8 Lib.asciiSpaceTab), ("unicode/utf8.first", Rows.laid_unicode_utf8_first)]
theorem L9_tab : L9 = L9t := by kernel_rfl
theorem star_es : "*" ++ "errors.errorString" = "*errors.errorString" := by decide
theorem row173 (u : TypeId) (h : Tryz.prog.typeName? 3 u = some "*errors.errorString") : u = 173 :=
  typeName_ptr_named (nm := "errors.errorString") (by rw [star_es]; kernel_rfl) (by kernel_rfl) (by decide) u (by rw [star_es]; exact h)
theorem gES : Tryz.prog.globalNamed "strconv.ErrSyntax" = some 6 := by kernel_rfl
theorem gER : Tryz.prog.globalNamed "strconv.ErrRange" = some 7 := by kernel_rfl
theorem tES : (Tryz.prog.globals[6]?).map (·.type) = some 58 := by kernel_rfl
theorem tER : (Tryz.prog.globals[7]?).map (·.type) = some 58 := by kernel_rfl
theorem globT {W : World} (h : laidMetH Tryz.prog L9 W) (hsh : W.ShapedOpen Tryz.prog) : GlobT W := by
  rw [MakeChecks.laidMetH_plain _ _ _ (by kernel_rfl)] at h
  rw [L9_tab] at h
  obtain ⟨a1, s1, hv1, -⟩ := laid_sentinel h.tail.tail.tail.tail gER tER Tryz.underlying58 row173 Tryz.underlying173 Tryz.underlying175 rfl rfl Tryz.underlying9 (by kernel_rfl) (by kernel_rfl)
  obtain ⟨a2, s2, hv2, -⟩ := laid_sentinel h.tail.tail.tail.tail.tail gES tES Tryz.underlying58 row173 Tryz.underlying173 Tryz.underlying175 rfl rfl Tryz.underlying9 (by kernel_rfl) (by kernel_rfl)
  exact ⟨Lib.tabIs_of_head (g := 0) (by kernel_rfl) (by kernel_rfl) Tryz.underlying112 Tryz.underlying5 (by kernel_rfl) (by kernel_rfl) h.tail.tail.tail.tail.tail.tail.tail,
    Lib.tabIs_of_head (g := 3) (by kernel_rfl) (by kernel_rfl) Tryz.underlying145 Tryz.underlying117 (by kernel_rfl) (by kernel_rfl) h.tail.tail, ⟨_, _, hv1⟩, ⟨_, _, hv2⟩, Tryz.laysM145.s1_3 W hsh⟩
end Go.Proofs.YtkphijabhoppnaaGreatDoor
namespace Go.Proofs.YtkphijabhoppnaaGreatDoor.textBack
open Go.ChangeShapes Go.WideShapes Go.ChangeAt Go.RowKit
set_option linter.unusedVariables false
theorem laid_eq : Rows.textBackRow.laid = L9 := by kernel_rfl
set_option maxRecDepth 100000 in
theorem contract (H : Type) (enc : TypeId × Value → H) (W : World) (base : Nat) (args : Array Value) (ds gs : List (DataW H)) (before : List MemPlace)
    (hval : ∀ (j : Nat) t v, Tryz.f4.params[j]? = some t → args[j]? = some v → Value.okWide Tryz.prog W .any base t v)
    (hW : DataW.Whole enc Tryz.prog Tryz.f4.params.toList Rows.textBackSpec.vars false W args.toList ds gs before) (hL : laidMetH Tryz.prog Rows.textBackRow.laid W) (hsh : W.ShapedOpen Tryz.prog) :
    Calls Tryz.prog 4 args W fun e W' => ∃ v, e = .returned v ∧ Rows.textBackSpec.post enc Tryz.prog Tryz.f4 false true false false W args v W' := by
  rw [laid_eq] at hL
  have hG := globT hL hsh
  have hW' := hW
  obtain ⟨p, q, hA0, hV, rfl, hfz, hnd⟩ := hW
  have hA : DataW.TrodAll enc Tryz.prog W 0 (fun _ => true) true Tryz.f4.params.toList args.toList ds p := hA0
  rw [Tryz.params4] at hA hval
  obtain ⟨v0, vs0, d0, ds0, p0, q0, hargs0, rfl, rfl, h0, r0⟩ := trodAll_cons hA
  obtain ⟨v1, vs1, d1, ds1, p1, q1, hargs1, rfl, rfl, h1, r1⟩ := trodAll_cons r0
  subst hargs1
  obtain ⟨rfl, rfl, rfl⟩ := trodAll_nil r1
  obtain rfl : args = #[v0, v1] := by cases args; simp_all
  obtain ⟨rfl, rfl⟩ := trodVars_none hV
  have k0 := h0
  have lt0 : ∀ x ∈ p0, x.block < W.heap.size := by obtain ⟨m, hm⟩ := k0; exact DataW.trod_lt m _ _ _ hm
  have k1 := h1
  have lt1 : ∀ x ∈ p1, x.block < W.heap.size := by obtain ⟨m, hm⟩ := k1; exact DataW.trod_lt m _ _ _ hm
  obtain ⟨A, len, cap, rfl⟩ := okWide_slice Tryz.underlying22 (hval 0 22 v0 rfl rfl)
  obtain ⟨m0, hm0⟩ := h0
  obtain ⟨l, hl⟩ := open_irs (v := .slice A len cap) hm0
  obtain ⟨s1, rfl, -, -, ws1⟩ := Go.ChangeMaps.open_string Tryz.underlying9 (hval 1 9 v1 rfl rfl) h1
  clear hA0
  refine (TextBack_calls _ l s1 W hl hG).mono fun e W' ⟨he, bel⟩ => ?_
  subst he
  exact ⟨_, rfl, _, _, _, [], _, [], hW', trodAll_mk1 (shut_bool Tryz.underlying4 _), (trodAll_cons_mk (Below.trod laidOutK (by kernel_rfl) (of_decide_eq_true (by kernel_rfl)) k0 bel lt0) (trodAll_cons_mk (Below.trod laidOutK (by kernel_rfl) (of_decide_eq_true (by kernel_rfl)) k1 bel lt1) trodAll_mk0)), rfl, bel.frame _, fun h => by cases h⟩
set_option maxRecDepth 100000 in
theorem lifted (os : Os) (started : os.Started) (H : Type) (enc : TypeId × Value → H) (F : Stop.Interp) :
    ReturnsInHanded {} Tryz.checked os 4 .any ((OpenSpec.ofChange Rows.textBackSpec).preRow enc Tryz.prog Tryz.f4 Rows.textBackRow.domain false Rows.textBackRow.laid) (((OpenSpec.ofChange Rows.textBackSpec).at F).post enc Tryz.prog Tryz.f4 false true false false) := by
  have hx : ∃ ds places, DataW.whole enc Tryz.prog ((World.laidAll Tryz.prog os L9).forCall (fun _ _ => 0) ⟨#[], #[Value.slice none 0 0, .string ⟨#[]⟩], []⟩).memory Tryz.f4.params.toList Rows.textBackSpec.vars false #[Value.slice none 0 0, .string ⟨#[]⟩].toList 8 = some (ds, [], places) := ⟨[.nil, .lit (.string [])], [], by kernel_rfl⟩
  obtain ⟨ds, places, hx⟩ := hx
  refine returnsInHanded_of_row (C := Tryz.checked) (s := OpenSpec.ofChange Rows.textBackSpec) ownK started (by kernel_rfl) Tryz.func4
    (witness_row_atRef (enc := enc) (C := Tryz.checked) false (World.laidAll Tryz.prog os L9) #[Value.slice none 0 0, .string ⟨#[]⟩] rfl (by kernel_rfl) (by kernel_rfl) (by kernel_rfl)
      (OpenSpec.preRow_of_cond 8 hx (by kernel_rfl) (fun k hk => by cases hk) (by kernel_rfl) (L9_met os _))) ?_
  intro W base args ds gs before hval hW _ _ _ hL hsh _
  exact contract H enc W base args ds gs before hval hW hL hsh
theorem said : Rows.TextBackSaid :=
  OpenClaim.holds_of_cond 4 Tryz.f4 rfl rfl rfl rfl rfl rfl rfl ⟨rfl, rfl, rfl, rfl, rfl⟩ rfl rfl rfl rfl rfl (by kernel_rfl) Tryz.func4 (by kernel_rfl)
    (of_decide_eq_true (by kernel_rfl)) (by unfold Func.isWrapper; first | (rw [if_pos (by decide +kernel)]; kernel_rfl) | (rw [if_neg (by decide +kernel)]; exact ⟨rfl, rfl⟩))
    (fun os started H enc _ F => by rw [OpenClaim.pre_eq_preRow]; exact lifted os started H enc F)
theorem plain (f : FuncId) (fn : Func) (hf : Tryz.pinned.checked.prog.funcNamed Rows.textBackRow.func = some f) (hfn : Tryz.pinned.checked.prog.funcs[f]? = some fn) :
    true = Tryz.pinned.checked.prog.looks [] ∧ ∀ (j : Nat) t, fn.params[j]? = some t → Tryz.pinned.checked.prog.wantsStandIn t = false := by
  obtain rfl : f = 4 := Option.some.inj ((show Tryz.prog.funcNamed Rows.textBackRow.func = some 4 by kernel_rfl).symm.trans hf) |>.symm
  obtain rfl : fn = Tryz.f4 := (Option.some.inj (Tryz.func4.symm.trans hfn)).symm
  refine ⟨by kernel_rfl, fun j t ht => ?_⟩
  rw [Tryz.params4] at ht
  have hm := Array.mem_of_getElem? ht
  simp only [List.mem_toArray, List.mem_cons, List.not_mem_nil, or_false] at hm
  rcases hm with rfl | rfl
  · exact (show Tryz.prog.wantsStandIn 22 = false by kernel_rfl)
  · exact (show Tryz.prog.wantsStandIn 9 = false by kernel_rfl)
theorem card : Rows.TextBackCardSaid :=
  Claim7.holds_tied_plain_at .later [] _ _ _ _ said (fun _ h => by cases h) (by kernel_rfl) (fun _ h => by cases h) textBack_row_tie rfl ⟨rfl, rfl⟩ (by kernel_rfl) rfl plain (by kernel_rfl)
#print axioms card
end Go.Proofs.YtkphijabhoppnaaGreatDoor.textBack
namespace Go.Proofs.YtkphijabhoppnaaGreatDoor
end Go.Proofs.YtkphijabhoppnaaGreatDoor
