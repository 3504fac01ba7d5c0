/- The law of lines (brazierlaw5.TextLines) walked. -/
import Derived.Test.YtkphijabhoppnaaDoorALq
import Derived.Test.YtkphijabhoppnaaDoorALh
import Derived.Deep.RegionHeld3
namespace Go.Proofs.YtkphijabhoppnaaDoor
open Go.RowKit Go.Shelf Go.Proofs.YtkphijabhoppnaaDoorW.PrintWords
open Go.Proofs.YtkphijabhoppnaaDoor.PTextLines
set_option linter.unusedSimpArgs false
set_option linter.unusedVariables false
theorem word_nil : wordS [] = [] := by decide +kernel
theorem parse_ps (w : World) (line : List UInt8) (e : Ending) (w' : World) (h : ParPost w line e w') :
    ∃ (r : IR) (f : Int), e = .returned (.tuple #[.agg (irC r), .int .i64 f]) ∧ ParS line r f ∧ Below w.heap.size w w' := by
  obtain ⟨r, f, he, h, hb⟩ := h
  refine ⟨r, f, he, ?_, hb⟩
  rcases h with ⟨op, hop, hw, hr, hi, hf⟩ | ⟨hno, hr, hf⟩
  · left
    have hne : nm5 (op : Int) ≠ [] := (nm_facts op hop).1
    by_cases hok : okI r
    · rw [insS, if_pos hok] at hi
      exact ⟨hok, hi, hf⟩
    · rw [insS, if_neg hok] at hi
      rw [← hi, word_nil] at hw
      exact absurd hw hne
  · right
    refine ⟨fun i hi e => ?_, hr, hf⟩
    have hop := hi.1
    have h1 := word_back i hi
    have h2 := read_back i hi
    have hoo : ((i.op.toNat : Nat) : Int) = i.op := by omega
    refine hno i.op.toNat (by omega) ?_ ?_
    · rw [hoo, ← h1, e]
    · rw [hoo, ← e, h2, insS, if_pos hi]
theorem Parse_calls2 (s : ByteArray) (w : World) (hG : GlobT w) (hs : s.size ≤ 1000000) (r : IR) (f : Int) (hp : ParS s.data.toList r f) :
    Calls Tryd.prog 40 #[.string s] w fun e w' => e = .returned (.tuple #[.agg (irC r), .int .i64 f]) ∧ Below w.heap.size w w' := by
  refine (Parse_calls s w hG hs).mono ?_
  intro e w' h
  obtain ⟨r', f', rfl, h1, h2⟩ := parse_ps _ _ _ _ h
  obtain ⟨rfl, rfl⟩ := h1.det hp
  exact ⟨rfl, h2⟩
def k1 : List UInt8 := [115, 116, 120, 114, 32, 120, 49, 44, 32, 120, 50, 44, 32, 120, 51]
def k2 : List UInt8 := [97, 100, 100, 105, 32, 115, 112, 44, 32, 115, 112, 44, 32, 35, 49, 54]
def k3 : List UInt8 := [98, 46, 32, 49, 44, 32, 35, 45, 56]
theorem k1_ps : ParS k1 ⟨36, 1, 3, 2, 0, 0, 0⟩ 0 := .inl ⟨by decide +kernel, by decide +kernel, rfl⟩
theorem k2_ins : insS ⟨4, 31, 31, 0, 0, 0, 16⟩ = k2 := by decide +kernel
theorem k3_ins : insS ⟨21, 0, 0, 0, 0, 1, -8⟩ = k3 := by decide +kernel
theorem k1_list : (⟨#[115, 116, 120, 114, 32, 120, 49, 44, 32, 120, 50, 44, 32, 120, 51]⟩ : ByteArray).data.toList = k1 := rfl
theorem k1_calls (w : World) (hG : GlobT w) : Calls Tryd.prog 40 #[.string ⟨#[115, 116, 120, 114, 32, 120, 49, 44, 32, 120, 50, 44, 32, 120, 51]⟩] w fun e w' => e = .returned (.tuple #[.agg (irC ⟨36, 1, 3, 2, 0, 0, 0⟩), .int .i64 0]) ∧ Below w.heap.size w w' :=
  Parse_calls2 _ w hG (by show 15 ≤ 1000000; omega) ⟨36, 1, 3, 2, 0, 0, 0⟩ 0 (by rw [k1_list]; exact k1_ps)
set_option maxHeartbeats 2000000 in
set_option maxRecDepth 100000 in
theorem known5_calls (w : World) (hG : GlobT w) : Calls Tryd.prog 39 #[] w fun e w' => e = .returned (.bool true) ∧ Below w.heap.size w w' := by
  have HG := Lib.hid hG
  have HP : Hid (∀ W, GlobT W → Calls Tryd.prog 40 #[.string ⟨#[115, 116, 120, 114, 32, 120, 49, 44, 32, 120, 50, 44, 32, 120, 51]⟩] W fun e w' => e = .returned (.tuple #[.agg #[.int .i64 36, .int .i64 1, .int .i64 3, .int .i64 2, .int .i64 0, .int .i64 0, .int .i64 0], .int .i64 0]) ∧ Below W.heap.size W w') :=
    Lib.hid (fun W hW => k1_calls W hW)
  have HI : Hid (∀ W, GlobT W → Calls Tryd.prog 42 #[.agg #[.int .i64 4, .int .i64 31, .int .i64 31, .int .i64 0, .int .i64 0, .int .i64 0, .int .i64 16]] W fun e w' => e = .returned (.string ⟨#[97, 100, 100, 105, 32, 115, 112, 44, 32, 115, 112, 44, 32, 35, 49, 54]⟩) ∧ Below W.heap.size W w') :=
    Lib.hid (fun W hW => by have := Ins_calls ⟨4, 31, 31, 0, 0, 0, 16⟩ W hW; rw [k2_ins] at this; exact this)
  have HJ : Hid (∀ W, GlobT W → Calls Tryd.prog 42 #[.agg #[.int .i64 21, .int .i64 0, .int .i64 0, .int .i64 0, .int .i64 0, .int .i64 1, .int .i64 (-8)]] W fun e w' => e = .returned (.string ⟨#[98, 46, 32, 49, 44, 32, 35, 45, 56]⟩) ∧ Below W.heap.size W w') :=
    Lib.hid (fun W hW => by have := Ins_calls ⟨21, 0, 0, 0, 0, 1, -8⟩ W hW; rw [k3_ins] at this; exact this)
  clear hG
  go_enter Tryd.func39, Tryd.ntmps39
  go_wp2_with (first | (go_at_call 40; refine (HP.out _ HG.out).mono ?_; rintro e w1 ⟨rfl, hb1⟩; have HB1 := Lib.hid (hb1.alloc hb1.size (.cells #[.int .i64 36, .int .i64 1, .int .i64 3, .int .i64 2, .int .i64 0, .int .i64 0, .int .i64 0] 93)); clear hb1) | (go_at_call 42; with_reducible refine (HI.out _ (HG.out.below HB1.out)).mono ?_; rintro e w2 ⟨rfl, hb2⟩; have HB2 := Lib.hid (HB1.out.trans (hb2.mono HB1.out.size)); clear hb2) | (go_at_call 42; with_reducible refine (HJ.out _ (HG.out.below HB2.out)).mono ?_; rintro e w3 ⟨rfl, hb3⟩) | fail)
  go_ret
  exact ⟨rfl, HB2.out.trans (hb3.mono HB2.out.size)⟩
def LawP (w : World) (e : Ending) (w' : World) : Prop := e = .returned (.bool true) ∧ Below w.heap.size w w'
set_option maxRecDepth 100000 in
theorem linesLaw_long (i : IR) (s : ByteArray) (w : World) (h : 200 < s.size) (hG : GlobT w) : Calls Tryd.prog 11 #[.agg (irC i), .string s] w (LawP w) := by
  have HK := Lib.hid (fun W hW => known5_calls W hW)
  have HG := Lib.hid hG
  obtain ⟨op, d, n, m, a, c, im⟩ := i
  unfold irC
  dsimp only
  have c1 : decide ((s.size : Int) > 200) = true := decide_eq_true (by omega)
  have c2 : (200 : Int) < s.size := by omega
  clear hG
  go_enter Tryd.func11, Tryd.ntmps11
  go_wp2_with (first | (go_at_call 39; refine (HK.out _ (HG.out.below ((Below.refl _ w).alloc (Nat.le_refl _) _))).mono ?_; rintro e w1 ⟨rfl, hb1⟩) | fail)
  go_ret
  exact ⟨rfl, ((Below.refl _ w).alloc (Nat.le_refl _) _).trans (hb1.mono (by simp))⟩
set_option maxHeartbeats 4000000 in
set_option maxRecDepth 100000 in
theorem linesLaw_ok (i : IR) (s : ByteArray) (w : World) (h : s.size ≤ 200) (hG : GlobT w) : Calls Tryd.prog 11 #[.agg (irC i), .string s] w (LawP w) := by
  have HK := Lib.hid (fun W hW => known5_calls W hW)
  have HG := Lib.hid hG
  have hsl : s.data.toList.length ≤ 200 := by rw [Array.length_toList]; exact h
  obtain ⟨r, f, hp, hs⟩ := ref_parse s.data.toList (by omega) 0
  have HP := Lib.hid (fun W hW => Parse_calls2 s W hW (by omega) r f hs)
  have HR := Lib.hid (fun W => brazierref5_Parse.calls _ ⟨s.data.toList.toArray⟩ _ _ _ _ _ _ _ _ W hp)
  rw [← ba_eta s] at HR
  obtain ⟨ti, hti⟩ : ∃ ti : ByteArray, (⟨(insS i).toArray⟩ : ByteArray) = ti := ⟨_, rfl⟩
  have HI := Lib.hid (fun W hW => Ins_calls i W hW)
  have HJ := Lib.hid (fun W => brazierref5_Ins.calls _ i.op i.d i.n i.m i.a i.cond i.imm _ W (ref_ins i 0))
  rw [hti] at HI HJ
  obtain ⟨op, d, n, m, a, c, im⟩ := i
  obtain ⟨r0, r1, r2, r3, r4, r5, r6⟩ := r
  unfold irC at HI HP ⊢
  dsimp only at HI HP HR HJ ⊢
  have c1 : decide ((s.size : Int) > 200) = false := decide_eq_false (by omega)
  have c2 : ¬ ((200 : Int) < s.size) := by omega
  clear hG hp hs hti
  go_enter Tryd.func11, Tryd.ntmps11
  go_wp2_with (first | (go_at_call 39; refine (HK.out _ (HG.out.below ((Below.refl _ w).alloc (Nat.le_refl _) _))).mono ?_; rintro e w1 ⟨rfl, hb1⟩; have HR1 := Lib.hid (row_kept hb1 (heap_alloc_new w (.cells #[.int .i64 op, .int .i64 d, .int .i64 n, .int .i64 m, .int .i64 a, .int .i64 c, .int .i64 im] 93))); have HB1 := Lib.hid (((Below.refl _ w).alloc (Nat.le_refl _) _).trans (hb1.mono (by simp))); clear hb1) | (go_at_call 40; refine (HP.out _ (HG.out.below HB1.out)).mono ?_; rintro e w2 ⟨rfl, hb2⟩; have HR2 := Lib.hid (row_kept hb2 HR1.out); have HB2 := Lib.hid (HB1.out.trans (hb2.mono HB1.out.size)); clear hb2) | (go_at_call 41; refine (HR.out _).mono ?_; rintro e w3 ⟨rfl, hb3⟩; have HR3 := Lib.hid (row_kept hb3 (alloc_old HR2.out)); have HX3 := Lib.hid (row_kept hb3 (heap_alloc_new w2 (.cells #[.int .i64 r0, .int .i64 r1, .int .i64 r2, .int .i64 r3, .int .i64 r4, .int .i64 r5, .int .i64 r6] 93))); have HB3 := Lib.hid ((HB2.out.alloc HB2.out.size _).trans (hb3.mono (Nat.le_trans HB2.out.size (by simp)))); clear hb3) | fail)
  have HY3 := Lib.hid (heap_alloc_new w3 (.cells #[.int .i64 r0, .int .i64 r1, .int .i64 r2, .int .i64 r3, .int .i64 r4, .int .i64 r5, .int .i64 r6] 93))
  have HR4 := Lib.hid (alloc_old (o' := (.cells #[.int .i64 r0, .int .i64 r1, .int .i64 r2, .int .i64 r3, .int .i64 r4, .int .i64 r5, .int .i64 r6] 93)) HR3.out)
  have HX4 := Lib.hid (alloc_old (o' := (.cells #[.int .i64 r0, .int .i64 r1, .int .i64 r2, .int .i64 r3, .int .i64 r4, .int .i64 r5, .int .i64 r6] 93)) HX3.out)
  have HB4 := Lib.hid (HB3.out.alloc HB3.out.size (.cells #[.int .i64 r0, .int .i64 r1, .int .i64 r2, .int .i64 r3, .int .i64 r4, .int .i64 r5, .int .i64 r6] 93))
  obtain ⟨W4, hW4⟩ : ∃ W4, w3.alloc (.cells #[.int .i64 r0, .int .i64 r1, .int .i64 r2, .int .i64 r3, .int .i64 r4, .int .i64 r5, .int .i64 r6] 93) = W4 := ⟨_, rfl⟩
  rw [hW4] at HY3 HR4 HX4 HB4 ⊢
  clear hW4
  obtain ⟨a0, a1, a2, a3, a4, a5, a6⟩ := cells7 HR4.out
  obtain ⟨e0, e1, e2, e3, e4, e5, e6⟩ := cells7 HX4.out
  obtain ⟨g0, g1, g2, g3, g4, g5, g6⟩ := cells7 HY3.out
  have HGW := Lib.hid (HG.out.below HB4.out)
  go_cut [4] from 24 (fun t V => t = .bool true ∧ Below W4.heap.size W4 V)
  case first =>
    go_region_held3 (fun w' => w'.cell? ⟨w.heap.size, 0, none⟩ = some (.int .i64 op) ∧ w'.cell? ⟨w.heap.size, 1, none⟩ = some (.int .i64 d) ∧ w'.cell? ⟨w.heap.size, 2, none⟩ = some (.int .i64 n) ∧ w'.cell? ⟨w.heap.size, 3, none⟩ = some (.int .i64 m) ∧ w'.cell? ⟨w.heap.size, 4, none⟩ = some (.int .i64 a) ∧ w'.cell? ⟨w.heap.size, 5, none⟩ = some (.int .i64 c) ∧ w'.cell? ⟨w.heap.size, 6, none⟩ = some (.int .i64 im) ∧ w'.cell? ⟨w2.heap.size, 0, none⟩ = some (.int .i64 r0) ∧ w'.cell? ⟨w2.heap.size, 1, none⟩ = some (.int .i64 r1) ∧ w'.cell? ⟨w2.heap.size, 2, none⟩ = some (.int .i64 r2) ∧ w'.cell? ⟨w2.heap.size, 3, none⟩ = some (.int .i64 r3) ∧ w'.cell? ⟨w2.heap.size, 4, none⟩ = some (.int .i64 r4) ∧ w'.cell? ⟨w2.heap.size, 5, none⟩ = some (.int .i64 r5) ∧ w'.cell? ⟨w2.heap.size, 6, none⟩ = some (.int .i64 r6) ∧ w'.cell? ⟨w3.heap.size, 0, none⟩ = some (.int .i64 r0) ∧ w'.cell? ⟨w3.heap.size, 1, none⟩ = some (.int .i64 r1) ∧ w'.cell? ⟨w3.heap.size, 2, none⟩ = some (.int .i64 r2) ∧ w'.cell? ⟨w3.heap.size, 3, none⟩ = some (.int .i64 r3) ∧ w'.cell? ⟨w3.heap.size, 4, none⟩ = some (.int .i64 r4) ∧ w'.cell? ⟨w3.heap.size, 5, none⟩ = some (.int .i64 r5) ∧ w'.cell? ⟨w3.heap.size, 6, none⟩ = some (.int .i64 r6))
      (first | (exact ⟨a0, a1, a2, a3, a4, a5, a6, e0, e1, e2, e3, e4, e5, e6, g0, g1, g2, g3, g4, g5, g6⟩) | (exact ⟨cell_be hv5 a0, cell_be hv5 a1, cell_be hv5 a2, cell_be hv5 a3, cell_be hv5 a4, cell_be hv5 a5, cell_be hv5 a6, cell_be hv5 e0, cell_be hv5 e1, cell_be hv5 e2, cell_be hv5 e3, cell_be hv5 e4, cell_be hv5 e5, cell_be hv5 e6, cell_be hv5 g0, cell_be hv5 g1, cell_be hv5 g2, cell_be hv5 g3, cell_be hv5 g4, cell_be hv5 g5, cell_be hv5 g6⟩) | (exact ⟨cell_be hv6 (cell_be hv5 a0), cell_be hv6 (cell_be hv5 a1), cell_be hv6 (cell_be hv5 a2), cell_be hv6 (cell_be hv5 a3), cell_be hv6 (cell_be hv5 a4), cell_be hv6 (cell_be hv5 a5), cell_be hv6 (cell_be hv5 a6), cell_be hv6 (cell_be hv5 e0), cell_be hv6 (cell_be hv5 e1), cell_be hv6 (cell_be hv5 e2), cell_be hv6 (cell_be hv5 e3), cell_be hv6 (cell_be hv5 e4), cell_be hv6 (cell_be hv5 e5), cell_be hv6 (cell_be hv5 e6), cell_be hv6 (cell_be hv5 g0), cell_be hv6 (cell_be hv5 g1), cell_be hv6 (cell_be hv5 g2), cell_be hv6 (cell_be hv5 g3), cell_be hv6 (cell_be hv5 g4), cell_be hv6 (cell_be hv5 g5), cell_be hv6 (cell_be hv5 g6)⟩) | go_keep)
      (first | (go_at_call 42; refine (HI.out _ (HGW.out.below ((Below.refl _ W4).drew))).mono ?_; rintro e V5 ⟨rfl, hv5⟩) | (go_at_call 43; refine (HJ.out _).mono ?_; rintro e V6 ⟨rfl, hv6⟩))
    all_goals
      go_wp2_with fail
      go_meet
      case rel => exact ⟨rfl, ((Below.refl _ W4).drew.trans hv5).trans (hv6.mono hv5.size)⟩
  case rest =>
    obtain ⟨rfl, hb⟩ := hcut
    go_wp2_with fail
    go_ret
    exact ⟨rfl, HB4.out.trans (hb.mono HB4.out.size)⟩
theorem linesLaw_calls (i : IR) (s : ByteArray) (w : World) (hG : GlobT w) : Calls Tryd.prog 11 #[.agg (irC i), .string s] w (LawP w) := by
  by_cases h : s.size ≤ 200
  · exact linesLaw_ok i s w h hG
  · exact linesLaw_long i s w (by omega) hG
end Go.Proofs.YtkphijabhoppnaaDoor
