/- A place is gone through, whichever it is; and as plain functions: all places. -/
import Derived.Test.YtkphijabhoppnaaDoorAVk
namespace Go.Proofs.YtkphijabhoppnaaDoor
open Go.RowKit Go.Proofs.YtkphijabhoppnaaDoorW.PrintWords
set_option linter.unusedSimpArgs false
set_option linter.unusedVariables false
structure Good (p : Pg) (m : Meth) (n : Nat) (i : Nat) : Prop where
  lt : i < n
  err : (readAt m.f4 i).err = 0
  code : 0 ≤ (readAt m.f4 i).code ∧ (readAt m.f4 i).code ≤ 40
  name : namedS p m (readAt m.f4 i).code (readAt m.f4 i).a (readAt m.f4 i).b = true
  jump : (readAt m.f4 i).code = 25 ∨ (readAt m.f4 i).code = 26 → 0 ≤ (i : Int) + (readAt m.f4 i).a
  size : 1 ≤ (readAt m.f4 i).size ∧ (readAt m.f4 i).size ≤ 3
  a : -32768 ≤ (readAt m.f4 i).a ∧ (readAt m.f4 i).a ≤ 32767
section
variable {E : Env} {w0 W : World} {sh : List Shp} {has : List Bool}
theorem through_calls (hE : Out E w0) (hW : WkI E w0.heap.size W sh has) (hb : Below w0.heap.size w0 W) (i : Nat) (hg : Good E.p E.m E.n i) (hh0 : 0 ≤ (sh.getD i ([], 0)).2) (hh1 : (sh.getD i ([], 0)).2 ≤ 10) (hlen : (sh.getD i ([], 0)).1.length ≤ 90000)
    (hflen : (effectS E.p E.m (readAt E.m.f4 i).code (readAt E.m.f4 i).a (readAt E.m.f4 i).b (sh.getD i ([], 0))).1.1.length ≤ 100000) :
    Calls Tryd.prog 136 #[.pointer (some ⟨E.G, 0, none⟩), .int .i64 i] W (RePost E w0 W (throughS E.p E.m E.n sh has i)) := by
  have hai : I64 (readAt E.m.f4 i).a := ⟨by have := hg.a.1; omega, by have := hg.a.2; omega⟩
  exact through_all hE hW hb i hg.lt hg.code hg.name hai hflen hh0 hh1 (by omega) hg.jump hg.size hg.a
end
end Go.Proofs.YtkphijabhoppnaaDoor
