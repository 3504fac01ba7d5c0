/- An instruction that came in. -/
import Derived.Test.YtkphijabhoppnaaDoorALr
import Derived.OpenShut
import Derived.ChangeArms
import Derived.Lib.SmallJoins
import Derived.ChangeMaps5
namespace Go.Proofs.YtkphijabhoppnaaDoor
open Go.ChangeShapes Go.WideShapes Go.ChangeAt Go.RowKit
set_option linter.unusedVariables false
set_option maxRecDepth 100000 in
theorem open_ir {H : Type} {enc : TypeId × Value → H} {W : World} {held : Bool} {b0 base : Nat} {v : Value} {d : DataW H} {p : List MemPlace} {sp : Nat → Bool}
    (hv : Value.okWide Tryd.prog W .any b0 93 v) (h : DataW.Trod enc Tryd.prog W base sp held 93 v d p) : ∃ i : IR, v = .agg (irC i) := by
  obtain ⟨cs, rfl, hsz⟩ := okWide_struct Tryd.underlying93 hv
  have hC : Tryd.prog.cellsOf 93 = 7 := by kernel_rfl
  rw [hC] at hsz
  obtain ⟨l⟩ := cs
  simp only [List.size_toArray] at hsz
  match l, hsz with
  | [c0, c1, c2, c3, c4, c5, c6], _ =>
    obtain ⟨fuel, hf⟩ := h
    obtain ⟨xs, n, _, _, hl, hlen, hf⟩ := DataW.trod_struct Tryd.underlying93 hf
    have hx : ∀ j : Nat, j < 7 → ∃ y, xs[j]? = some y := fun j hj => by
      have hlt : j < xs.length := by rw [hlen]; exact hj
      exact ⟨_, List.getElem?_eq_getElem hlt⟩
    have c3o : Tryd.prog.cellsOf 3 = 1 := by kernel_rfl
    have c2o : Tryd.prog.cellsOf 2 = 1 := by kernel_rfl
    obtain ⟨y0, e0⟩ := hx 0 (by omega)
    obtain ⟨y1, e1⟩ := hx 1 (by omega)
    obtain ⟨y2, e2⟩ := hx 2 (by omega)
    obtain ⟨y3, e3⟩ := hx 3 (by omega)
    obtain ⟨y4, e4⟩ := hx 4 (by omega)
    obtain ⟨y5, e5⟩ := hx 5 (by omega)
    obtain ⟨y6, e6⟩ := hx 6 (by omega)
    have f0 := (hf 0 _ rfl).trans e0
    have f1 := (hf 1 _ rfl).trans e1
    have f2 := (hf 2 _ rfl).trans e2
    have f3 := (hf 3 _ rfl).trans e3
    have f4 := (hf 4 _ rfl).trans e4
    have f5 := (hf 5 _ rfl).trans e5
    have f6 := (hf 6 _ rfl).trans e6
    obtain ⟨o0, h0, -, -⟩ := DataW.trod_int Tryd.underlying3 f0
    obtain ⟨o1, h1, -, -⟩ := DataW.trod_int Tryd.underlying3 f1
    obtain ⟨o2, h2, -, -⟩ := DataW.trod_int Tryd.underlying3 f2
    obtain ⟨o3, h3, -, -⟩ := DataW.trod_int Tryd.underlying3 f3
    obtain ⟨o4, h4, -, -⟩ := DataW.trod_int Tryd.underlying3 f4
    obtain ⟨o5, h5, -, -⟩ := DataW.trod_int Tryd.underlying3 f5
    obtain ⟨o6, h6, -, -⟩ := DataW.trod_int Tryd.underlying2 f6
    simp [c3o, Value.cells] at h0 h1 h2 h3 h4 h5
    simp [c2o, Value.cells] at h6
    exact ⟨⟨o0, o1, o2, o3, o4, o5, o6⟩, by rw [h0, h1, h2, h3, h4, h5, h6]; rfl⟩
end Go.Proofs.YtkphijabhoppnaaDoor
