/- A place is gone through, whichever it is; and as plain functions: all places. -/
import Derived.Test.YtkphijabhoppnaaDoorAVk
namespace Go.Proofs.YtkphijabhoppnaaDoor
open Go.RowKit Go.Proofs.YtkphijabhoppnaaDoorW.PrintWords
set_option linter.unusedSimpArgs false
set_option linter.unusedVariables false

/-- What is known of a place where a bytecode begins. -/
structure Good (p : Pg) (m : Meth) (n : Nat) (i : Nat) : Prop where
  lt : i < n
  err : (readAt m.f4 i).err = 0
  code : 0 ≤ (readAt m.f4 i).code ∧ (readAt m.f4 i).code ≤ 40
  name : namedS p m (readAt m.f4 i).code (readAt m.f4 i).a (readAt m.f4 i).b = true
  jump : (readAt m.f4 i).code = 25 ∨ (readAt m.f4 i).code = 26 → 0 ≤ (i : Int) + (readAt m.f4 i).a
  size : 1 ≤ (readAt m.f4 i).size ∧ (readAt m.f4 i).size ≤ 3
  a : -32768 ≤ (readAt m.f4 i).a ∧ (readAt m.f4 i).a ≤ 32767
section
variable {E : Env} {w0 W : World} {sh : List Shp} {has : List Bool}
theorem through_calls (hE : Out E w0) (hW : WkI E w0.heap.size W sh has) (hb : Below w0.heap.size w0 W) (i : Nat) (hg : Good E.p E.m E.n i) (hh0 : 0 ≤ (sh.getD i ([], 0)).2) (hh1 : (sh.getD i ([], 0)).2 ≤ 10) (hlen : (sh.getD i ([], 0)).1.length ≤ 90000)
    (hflen : (effectS E.p E.m (readAt E.m.f4 i).code (readAt E.m.f4 i).a (readAt E.m.f4 i).b (sh.getD i ([], 0))).1.1.length ≤ 100000) :
    Calls Tryd.prog 136 #[.pointer (some ⟨E.G, 0, none⟩), .int .i64 i] W (RePost E w0 W (throughS E.p E.m E.n sh has i)) := by
  have hai : I64 (readAt E.m.f4 i).a := ⟨by have := hg.a.1; omega, by have := hg.a.2; omega⟩
  by_cases h1 : (effectS E.p E.m (readAt E.m.f4 i).code (readAt E.m.f4 i).a (readAt E.m.f4 i).b (sh.getD i ([], 0))).2 ≠ 0
  · exact through_e hE hW hb i hg.lt hg.code hg.name hai hflen hh0 hh1 (by omega) hg.jump hg.size hg.a h1
  · have h1 : (effectS E.p E.m (readAt E.m.f4 i).code (readAt E.m.f4 i).a (readAt E.m.f4 i).b (sh.getD i ([], 0))).2 = 0 := by omega
    by_cases h2 : E.m.f3 < ((effectS E.p E.m (readAt E.m.f4 i).code (readAt E.m.f4 i).a (readAt E.m.f4 i).b (sh.getD i ([], 0))).1.1.length : Int)
    · exact through_many hE hW hb i hg.lt hg.code hg.name hai hflen hh0 hh1 (by omega) hg.jump hg.size hg.a ⟨h1, h2⟩
    · have h2 : ((effectS E.p E.m (readAt E.m.f4 i).code (readAt E.m.f4 i).a (readAt E.m.f4 i).b (sh.getD i ([], 0))).1.1.length : Int) ≤ E.m.f3 := by omega
      by_cases h28 : (readAt E.m.f4 i).code = 28
      · by_cases h3 : 0 < (effectS E.p E.m (readAt E.m.f4 i).code (readAt E.m.f4 i).a (readAt E.m.f4 i).b (sh.getD i ([], 0))).1.1.length
        · exact through_rets hE hW hb i hg.lt hg.code hg.name hai hflen hh0 hh1 (by omega) hg.jump hg.size hg.a ⟨h1, h2, h28, h3⟩
        · by_cases h4 : (effectS E.p E.m (readAt E.m.f4 i).code (readAt E.m.f4 i).a (readAt E.m.f4 i).b (sh.getD i ([], 0))).1.2 = 0
          · exact through_ret hE hW hb i hg.lt hg.code hg.name hai hflen hh0 hh1 (by omega) hg.jump hg.size hg.a ⟨h1, h2, h28, h3, h4⟩
          · exact through_reth hE hW hb i hg.lt hg.code hg.name hai hflen hh0 hh1 (by omega) hg.jump hg.size hg.a ⟨h1, h2, h28, h3, h4⟩
      · by_cases h25 : (readAt E.m.f4 i).code = 25
        · exact through_jump hE hW hb i hg.lt hg.code hg.name hai hflen hh0 hh1 (by omega) hg.jump hg.size hg.a ⟨h1, h2, h25⟩
        · by_cases h26 : (readAt E.m.f4 i).code = 26
          · exact through_two hE hW hb i hg.lt hg.code hg.name hai hflen hh0 hh1 (by omega) hg.jump hg.size hg.a ⟨h1, h2, h26⟩
          · exact through_on hE hW hb i hg.lt hg.code hg.name hai hflen hh0 hh1 (by omega) hg.jump hg.size hg.a ⟨h1, h2, h28, h25, h26⟩
end
end Go.Proofs.YtkphijabhoppnaaDoor
