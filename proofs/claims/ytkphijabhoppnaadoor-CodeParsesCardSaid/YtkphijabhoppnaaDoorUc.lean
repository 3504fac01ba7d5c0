/- CodeParses, walked: it returns true, whatever the text. -/
import Derived.Test.YtkphijabhoppnaaDoorSe
import Derived.Test.YtkphijabhoppnaaDoorSd
import Derived.Test.YtkphijabhoppnaaDoorTg
import Derived.Test.YtkphijabhoppnaaDoorPb
namespace Go.Proofs.YtkphijabhoppnaaDoor
open Go.RowKit Go.Proofs.YtkphijabhoppnaaDoorW.PrintWords
set_option linter.unusedSimpArgs false
set_option linter.unusedVariables false

theorem rparse_calls (s : ByteArray) (w : World) (hlen : s.size ≤ 100000) : Calls Tryd.prog 38 #[.string s] w (ParsePost w (parseS s)) := by
  obtain ⟨⟨a, b, c⟩, hr⟩ : ∃ r, parseS s = r := ⟨_, rfl⟩
  rw [hr]
  refine (PCodeParses.brazierref13_Parse.calls (4 * s.size + 80) s a b c w (by rw [ref_parse s hlen _ (Nat.le_refl _), hr])).mono ?_
  rintro e w' ⟨v, rfl, h1, h2⟩
  exact ⟨v, rfl, Kd.own_of_R h1, h2⟩

theorem parsesLaw_long (s : ByteArray) (w : World) (hn : 4000 < s.size) (hG : GlobP w) : Calls Tryd.prog 9 #[.string s] w (TruePost w) := by
  have HK := Lib.hid (known_calls w hG.g)
  clear hG
  have ht : decide (4000 < (s.size : Int)) = true := by simp; omega
  go_enter Tryd.func9, Tryd.ntmps9
  go_wp2_with (first | (go_at_call 12; refine HK.out.mono ?_; rintro e w1 ⟨rfl, hb1⟩) | fail)
  go_ret
  exact ⟨rfl, hb1⟩

set_option maxRecDepth 100000 in
set_option maxHeartbeats 800000 in
theorem parsesLaw_ok (s : ByteArray) (w : World) (hn : s.size ≤ 4000) (hG : GlobP w) : Calls Tryd.prog 9 #[.string s] w (TruePost w) := by
  have HK := Lib.hid (known_calls w hG.g)
  obtain ⟨⟨a, b, c⟩, hr⟩ : ∃ r, parseS s = r := ⟨_, rfl⟩
  have h1 : ∀ W, GlobP W → Calls Tryd.prog 37 #[.string s] W (ParsePost W (a, b, c)) := fun W h => hr ▸ parse_calls s W (by omega) h
  have h2 : ∀ W, Calls Tryd.prog 38 #[.string s] W (ParsePost W (a, b, c)) := fun W => hr ▸ rparse_calls s W (by omega)
  have H1 := Lib.hid h1
  have H2 := Lib.hid h2
  have HG := Lib.hid hG
  have ht : decide (4000 < (s.size : Int)) = false := by simp; omega
  clear hG h1 h2 hr hn
  go_enter Tryd.func9, Tryd.ntmps9
  go_wp2_with (first | (go_at_call 12; refine HK.out.mono ?_; rintro e w1 ⟨rfl, hb1⟩) | fail)
  refine (H1.out _ (HG.out.below hb1)).mono ?_
  rintro e w2 ⟨v2, rfl, ho2, hb2⟩
  have HO2 := Lib.hid ho2
  have HB2 := Lib.hid (hb1.trans (hb2.mono hb1.size))
  clear ho2 hb2 hb1
  dsimp only
  go_wp2_with fail
  refine (H2.out _).mono ?_
  rintro e w3 ⟨v3, rfl, ho3, hb3⟩
  have ho2 := pw_own_below HO2.out hb3
  have s1 : (convert 22 9 v2).run Tryd.prog w3 = .ok (.string (strOfNums a)) w3 := own_string Tryd.underlying22 Tryd.underlying5 Tryd.underlying9 ho2
  have s2 : (convert 22 9 v3).run Tryd.prog w3 = .ok (.string (strOfNums a)) w3 := own_string Tryd.underlying22 Tryd.underlying5 Tryd.underlying9 ho3
  generalize strOfNums a = S at s1 s2
  have HB3 := Lib.hid (HB2.out.trans (hb3.mono HB2.out.size))
  clear ho2 ho3 hb3
  dsimp only
  go_wp2_with fail
  go_ret
  exact ⟨rfl, HB3.out⟩
theorem parsesLaw_calls (s : ByteArray) (w : World) (hG : GlobP w) : Calls Tryd.prog 9 #[.string s] w (TruePost w) := by
  by_cases h : 4000 < s.size
  · exact parsesLaw_long s w h hG
  · exact parsesLaw_ok s w (by omega) hG
end Go.Proofs.YtkphijabhoppnaaDoor
