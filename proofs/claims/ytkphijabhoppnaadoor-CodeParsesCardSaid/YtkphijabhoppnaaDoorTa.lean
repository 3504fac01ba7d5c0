/- A number read (brazier/code.number). -/
import Derived.Test.YtkphijabhoppnaaDoorBe
import Derived.Test.YtkphijabhoppnaaDoorNa
import Derived.Test.YtkphijabhoppnaaDoorBf
namespace Go.Proofs.YtkphijabhoppnaaDoor
open Go.RowKit
set_option linter.unusedSimpArgs false
set_option linter.unusedVariables false

/-- The library's two errors, and the tables. -/
structure GlobP (w : World) : Prop where
  g : Glob w
  er : ∃ tp p, w.var? Tryd.prog "strconv.ErrRange" = some #[.iface tp p]
  es : ∃ tp p, w.var? Tryd.prog "strconv.ErrSyntax" = some #[.iface tp p]
theorem var_be {w w' : World} {nm : String} {xs : Array Value} (h : w.var? Tryd.prog nm = some xs) (hb : Below w.heap.size w w') : w'.var? Tryd.prog nm = some xs := by
  cases hg : Tryd.prog.globalNamed nm with
  | none => simp [World.var?, hg] at h
  | some g =>
    refine var?_below hb hg ?_ h
    simp only [World.var?, hg, Option.bind_some] at h
    rcases Nat.lt_or_ge g w.heap.size with h' | h'
    · exact h'
    · rw [Array.getElem?_eq_none h'] at h
      cases h
theorem GlobP.below {w w' : World} (h : GlobP w) (hb : Below w.heap.size w w') : GlobP w' :=
  ⟨h.g.below hb, let ⟨a, b, c⟩ := h.er; ⟨a, b, var_be c hb⟩, let ⟨a, b, c⟩ := h.es; ⟨a, b, var_be c hb⟩⟩

theorem atoi_bad (s : ByteArray) (w : World) (hlim : s.size ≤ 281474976710656) (h : ∀ v, Lib.atoiAll s.data.toList ≠ .ok v) (hG : GlobP w) :
    Calls Tryd.prog 146 #[.string s] w fun e w' => ∃ n p, e = .returned (.tuple #[.int .i64 n, .iface 242 (.pointer (some p))]) ∧ Below w.heap.size w w' := by
  obtain ⟨tr, pr, hr⟩ := hG.er
  obtain ⟨ts, ps, hs⟩ := hG.es
  rcases hx : Lib.atoiAll s.data.toList with v | _ | _
  · exact absurd hx (h v)
  · refine (Any.strconv_Atoi_syntax_var Tryd.laysC172 s hlim hx ts ps w hs).mono ?_
    rintro e w' ⟨N, rfl, _, _, hb⟩
    exact ⟨_, _, rfl, hb⟩
  · refine (Any.strconv_Atoi_range_var Tryd.laysC172 s hlim hx tr pr w hr).mono ?_
    rintro e w' ⟨N, rfl, _, _, hb⟩
    exact ⟨_, _, rfl, hb⟩
theorem atoi_good (s : ByteArray) (w : World) (hlim : s.size ≤ 281474976710656) (v : Int) (h : Lib.atoiAll s.data.toList = .ok v) :
    Calls Tryd.prog 146 #[.string s] w fun e w' => e = .returned (.tuple #[.int .i64 v, .nilIface]) ∧ Below w.heap.size w w' := by
  refine (Tryd.strconv_Atoi_ok s (by omega) v h w).mono ?_
  rintro e w' ⟨rfl, rfl | ⟨t, rfl⟩⟩
  · exact ⟨rfl, Below.refl _ _⟩
  · exact ⟨rfl, Lib.bytesWorld_below w 5 t⟩
theorem dropMinus_trim (s : List UInt8) : Lib.trimPrefix s [45] = dropMinus s := by
  cases s with
  | nil => rfl
  | cons c d =>
    by_cases h : c = 45
    · subst h; simp [Lib.trimPrefix, Lib.hasPrefix, dropMinus]
    · simp [Lib.trimPrefix, Lib.hasPrefix, dropMinus, h]; intro h2; exact absurd h2.symm h
def NumPost (w : World) (s : List UInt8) (e : Ending) (w' : World) : Prop :=
  ∃ n, e = .returned (.tuple #[.int .i64 n, .bool (numP s).isSome]) ∧ (∀ v, numP s = some v → n = v) ∧ Below w.heap.size w w'

set_option maxRecDepth 100000 in
theorem number_calls (s : ByteArray) (w : World) (hlim : s.size ≤ 1000000) (hG : GlobP w) : Calls Tryd.prog 114 #[.string s] w (NumPost w s.data.toList) := by
  by_cases hok : ∃ v, Lib.atoiAll s.data.toList = .ok v
  · obtain ⟨v, hv⟩ := hok
    have hbd := Lib.atoiAll_bounds hv
    have HA := Lib.hid (fun W => atoi_good s W (by omega) v hv)
    obtain ⟨u, hu⟩ : ∃ u : ByteArray, (⟨(Lib.itoa v).toArray⟩ : ByteArray) = u := ⟨_, rfl⟩
    obtain ⟨t, ht⟩ : ∃ t : ByteArray, (⟨(dropMinus s.data.toList).toArray⟩ : ByteArray) = t := ⟨_, rfl⟩
    have htl : (dropMinus s.data.toList).length = t.size := by rw [← ht]; simp [ByteArray.size]
    have HI := Lib.hid (fun W (h : Glob W) => (show Calls Tryd.prog 49 #[.int .i64 v] W fun e w' => e = .returned (.string u) ∧ Below W.heap.size W w' from hu ▸ itoa_calls v hbd.1 hbd.2 W h))
    have HT := Lib.hid (fun W => (show Calls Tryd.prog 120 #[.string s, .string ⟨#[45]⟩] W fun e w' => e = .returned (.string t) ∧ w' = W from by
      have := Tryd.strings_TrimPrefix s ⟨#[45]⟩ W
      rw [show (⟨#[45]⟩ : ByteArray).data.toList = [45] from rfl, dropMinus_trim, ht] at this
      exact this))
    have HG := Lib.hid hG
    by_cases h1 : Lib.itoa v = s.data.toList
    · have hs : s = u := by rw [← hu, h1]
      have HP : Hid (∀ w' b, b = decide (t.size ≤ 6) → Below w.heap.size w w' → NumPost w s.data.toList (.returned (.tuple #[.int .i64 v, .bool b])) w') := Lib.hid (by
        rintro w' b rfl hb
        by_cases h2 : (dropMinus s.data.toList).length ≤ 6
        · have hp := ok_numP _ v h1 h2
          refine ⟨v, ?_, fun v' h => ?_, hb⟩
          · rw [hp, decide_eq_true (by omega)]; rfl
          · rw [hp] at h; exact Option.some.inj h
        · have hp : numP s.data.toList = none := by
            cases hq : numP s.data.toList with
            | none => rfl
            | some v' => exact absurd (numP_ok _ _ hq).2.2.1 h2
          refine ⟨v, ?_, fun v' h => ?_, hb⟩
          · rw [hp, decide_eq_false (by omega)]; rfl
          · rw [hp] at h; cases h)
      subst hs
      clear hv h1 hG hu ht htl
      go_enter Tryd.func114, Tryd.ntmps114
      go_wp2_with (first | (go_at_call 146; refine (HA.out _).mono ?_; rintro e w1 ⟨rfl, hb1⟩) | (go_at_call 49; refine (HI.out _ (HG.out.below hb1).g).mono ?_; rintro e w2 ⟨rfl, hb2⟩) | (go_at_call 120; refine (HT.out _).mono ?_; rintro e w3 ⟨rfl, rfl⟩) | fail)
      go_ret2
      exact HP.out _ _ (by rw [decide_eq_decide]; omega) (hb1.trans (hb2.mono hb1.size))
    · have hp : numP s.data.toList = none := by
        cases hq : numP s.data.toList with
        | none => rfl
        | some v' =>
          have := (numP_ok _ _ hq)
          rw [this.1] at hv
          cases hv
          exact absurd this.2.1 h1
      have hus : u ≠ s := by
        rintro rfl
        exact h1 (by rw [← hu])
      have hne2 : (u.toList == s.toList) = false := by
        rw [beq_eq_false_iff_ne, ba_toList, ba_toList]
        intro e
        exact hus (ByteArray.ext (Array.toList_inj.1 e))
      have hne3 : ¬ u.toList = s.toList := by
        rw [ba_toList, ba_toList]
        intro e
        exact hus (ByteArray.ext (Array.toList_inj.1 e))
      have HP : Hid (∀ w', Below w.heap.size w w' → NumPost w s.data.toList (.returned (.tuple #[.int .i64 v, .bool false])) w') := Lib.hid fun w' hb => ⟨v, by rw [hp]; rfl, (fun v' h => by rw [hp] at h; cases h), hb⟩
      clear hv h1 hG hu ht htl hp hus
      go_enter Tryd.func114, Tryd.ntmps114
      go_wp2_with (first | (go_at_call 146; refine (HA.out _).mono ?_; rintro e w1 ⟨rfl, hb1⟩) | (go_at_call 49; refine (HI.out _ (HG.out.below hb1).g).mono ?_; rintro e w2 ⟨rfl, hb2⟩) | fail)
      go_ret2
      exact HP.out _ (hb1.trans (hb2.mono hb1.size))
  · have hno : ∀ v, Lib.atoiAll s.data.toList ≠ .ok v := fun v h => hok ⟨v, h⟩
    have hp : numP s.data.toList = none := by
      cases hq : numP s.data.toList with
      | none => rfl
      | some v' => exact absurd (numP_ok _ _ hq).1 (hno v')
    have HA := Lib.hid (fun W h => atoi_bad s W (by omega) hno h)
    have HP : Hid (∀ w' n, Below w.heap.size w w' → NumPost w s.data.toList (.returned (.tuple #[.int .i64 n, .bool false])) w') := Lib.hid fun w' n hb => ⟨n, by rw [hp]; rfl, (fun v' h => by rw [hp] at h; cases h), hb⟩
    have HG := Lib.hid hG
    clear hok hno hp hG
    go_enter Tryd.func114, Tryd.ntmps114
    go_wp2_with (first | (go_at_call 146; refine (HA.out _ HG.out).mono ?_; rintro e w1 ⟨n, p, rfl, hb1⟩) | fail)
    go_ret2
    exact HP.out _ _ hb1
end Go.Proofs.YtkphijabhoppnaaDoor
