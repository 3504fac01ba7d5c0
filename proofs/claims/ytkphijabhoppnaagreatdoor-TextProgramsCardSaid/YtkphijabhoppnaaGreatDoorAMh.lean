/- The law of texts back (brazierlaw5.TextBack) walked. -/
import Derived.Test.YtkphijabhoppnaaGreatDoorAMd
import Derived.Test.YtkphijabhoppnaaGreatDoorAMg
namespace Go.Proofs.YtkphijabhoppnaaGreatDoor
open Go.RowKit Go.Shelf Go.Proofs.YtkphijabhoppnaaGreatDoorW.PrintWords
open Go.Proofs.YtkphijabhoppnaaGreatDoor.PTextPrograms
set_option linter.unusedSimpArgs false
set_option linter.unusedVariables false
theorem irsC_at : ∀ (l : List IR) (j : Nat) (i : IR), l[j]? = some i → ∀ (k : Nat) (u : Value), (irC i)[k]? = some u → (irsC l)[j * 7 + k]? = some u := by
  intro l
  induction l with
  | nil => intro j i h; simp at h
  | cons x r ih =>
    intro j i h k u hk
    have e : irsC (x :: r) = (irC x).toList ++ irsC r := by rw [show x :: r = [x] ++ r from rfl, irsC_app, irsC_one]
    have hl : (irC x).toList.length = 7 := rfl
    rw [e]
    cases j with
    | zero =>
      obtain rfl : x = i := by simpa using h
      have hk7 : k < 7 := by
        have := (Array.getElem?_eq_some_iff.1 hk).1
        exact this
      rw [Nat.zero_mul, Nat.zero_add, List.getElem?_append_left (by omega), Array.getElem?_toList]
      exact hk
    | succ j =>
      rw [List.getElem?_append_right (by omega), hl, show (j + 1) * 7 + k - 7 = j * 7 + k by omega]
      exact ih j i (by simpa using h) k u hk
theorem inss_own {V : World} {base : Nat} {v : Value} {l : List IR} (h : V.ownsRow base 39 7 v l.length (irsC l)) : Inss V v l := by
  rcases h.2 with ⟨rfl, h0⟩ | ⟨g, cap, cur, rfl, h1, h2, h3, h4, h5, h6⟩
  · have : l = [] := List.length_eq_zero_iff.1 h0
    subst this
    exact ⟨none, 0, rfl, fun e => absurd rfl e⟩
  · refine ⟨some ⟨g, 0, none⟩, cap, rfl, fun _ => ⟨g, 0, rfl, fun j i hj k u hk => ?_⟩⟩
    have ha := irsC_at l j i hj k u hk
    rw [← h6, List.getElem?_take] at ha
    split at ha
    · rw [cell_of_row _ _ _ _ _ _ h2, ← ha, Array.getElem?_toList, Nat.zero_add]
    · cases ha
structure TbS (w : World) (v : Value) (out : List IR) (V : World) : Prop where
  row : V.ownsRow w.heap.size 39 7 v out.length (irsC out)
  below : Below w.heap.size w V
theorem TbS.later {w : World} {v : Value} {out : List IR} {V V' : World} (h : TbS w v out V) (hb : Below V.heap.size V V') : TbS w v out V' := by
  refine ⟨h.row.kept (grown_bel hb) ?_, h.below.trans (hb.mono h.below.size)⟩
  cases hv : v.ownBlock with
  | none => exact .inl rfl
  | some g => exact .inr (fun e => by cases e)
theorem TbS.append {w : World} {v v' : Value} {out : List IR} {i : IR} {V V' : World} (h : TbS w v out V) (hg : V.grownBy V' v.ownBlock)
    (hr : V'.ownsRow w.heap.size 39 7 v' (out.length + 1) (irsC out ++ (irC i).toList)) : TbS w v' (out ++ [i]) V' := by
  refine ⟨?_, h.below.trans ⟨hg.os, hg.tape, hg.output, hg.size, fun k hk => hg.block k (by have := h.below.size; omega) (own_below h.row hk)⟩⟩
  rw [List.length_append, irsC_app, irsC_one]
  exact hr
theorem ParS_cases (s : List UInt8) : (∃ i, okI i ∧ insB i = s ∧ ParS s i 0) ∨ ParS s (i0 0) 5 := by
  cases h : parO s with
  | none => exact .inr (parS_none h)
  | some i => exact .inl ⟨i, (parO_some.1 h).1, (parO_some.1 h).2, parS_some h⟩
set_option maxHeartbeats 8000000 in
set_option maxRecDepth 100000 in
theorem TextBack_calls (v : Value) (l : List IR) (s : ByteArray) (w : World) (hv : Inss w v l) (hG : GlobT w) : Calls Tryz.prog 4 #[v, .string s] w fun e w' => e = .returned (.bool true) ∧ Below w.heap.size w w' := by
  have HV := Lib.hid hv
  have HV0 := HV.out
  obtain ⟨A, c, rfl, hcells⟩ := hv
  have HG := Lib.hid hG
  have HC := Lib.hid hcells
  clear hcells hG HV0
  obtain ⟨ie, hie, hz0, hz1, hz2⟩ := info_parts info39
  by_cases h1 : (300 : Int) < l.length
  · have q1 : decide ((l.length : Int) > 300) = true := decide_eq_true h1
    go_enter Tryz.func4, Tryz.ntmps4
    go_wp2_with (first | (go_at_call 5; refine (known5_calls w HG.out).mono ?_; rintro e w1 ⟨rfl, hb1⟩) | fail)
    go_ret
    exact ⟨rfl, hb1⟩
  have q1 : decide ((l.length : Int) > 300) = false := decide_eq_false h1
  by_cases h2 : (200 : Int) < s.size
  · have q2 : decide ((s.size : Int) > 200) = true := decide_eq_true h2
    go_enter Tryz.func4, Tryz.ntmps4
    go_wp2_with (first | (go_at_call 5; refine (known5_calls w HG.out).mono ?_; rintro e w1 ⟨rfl, hb1⟩) | fail)
    go_ret
    exact ⟨rfl, hb1⟩
  have q2 : decide ((s.size : Int) > 200) = false := decide_eq_false h2
  have HL : Hid (l.length ≤ 300) := Lib.hid (by omega)
  have HS : Hid (s.size ≤ 200) := Lib.hid (by omega)
  have hll : l.length ≤ 300 := by omega
  go_enter Tryz.func4, Tryz.ntmps4
  go_wp2_with (first | (go_at_call 5; refine (known5_calls w HG.out).mono ?_; rintro e w1 ⟨rfl, hb1⟩) | fail)
  clear q1 q2 h1 h2
  go_loopw [5, 6] (fun a b wr => ∃ j : Nat, b = .int .i64 j ∧ j ≤ l.length ∧ TbS w a ((l.take j).filter fun i => decide (okI i)) wr) (fun _ b _ => l.length - (intOf b).toNat)
  case atStart => exact ⟨0, rfl, by omega, World.ownsRow_nil _ _ _ _, hb1⟩
  case round =>
    obtain ⟨j, rfl, hj, P⟩ := hrel
    by_cases hlt : j < l.length
    · obtain ⟨i, hi⟩ : ∃ i, l[j]'hlt = i := ⟨_, rfl⟩
      have hi' : l[j]? = some i := by rw [List.getElem?_eq_getElem hlt, hi]
      obtain ⟨b, off, rfl, hcs⟩ := HC.out (fun e => by rw [e] at hlt; simp at hlt)
      obtain ⟨out, hout⟩ : ∃ out, ((l.take j).filter fun i => decide (okI i)) = out := ⟨_, rfl⟩
      have hol : out.length ≤ 300 := by
        rw [← hout]
        have h1 := List.length_filter_le (fun i => decide (okI i)) (l.take j)
        rw [List.length_take] at h1
        omega
      rw [hout] at P
      have HT : Hid (((l.take (j + 1)).filter fun i => decide (okI i)) = out ++ (if okI i then [i] else [])) := Lib.hid (by
        rw [List.take_add_one, hi', Option.toList, List.filter_append, hout]
        by_cases hk : okI i <;> simp [hk])
      have HX : Hid (∀ V, Below w.heap.size w V → V.cell? ⟨b, off + j * 7, none⟩ = some (.int .i64 i.op) ∧ V.cell? ⟨b, off + j * 7 + 1, none⟩ = some (.int .i64 i.d) ∧ V.cell? ⟨b, off + j * 7 + 2, none⟩ = some (.int .i64 i.n) ∧ V.cell? ⟨b, off + j * 7 + 3, none⟩ = some (.int .i64 i.m) ∧ V.cell? ⟨b, off + j * 7 + 4, none⟩ = some (.int .i64 i.a) ∧ V.cell? ⟨b, off + j * 7 + 5, none⟩ = some (.int .i64 i.cond) ∧ V.cell? ⟨b, off + j * 7 + 6, none⟩ = some (.int .i64 i.imm)) := Lib.hid (fun V hB =>
        have hc := hcs j i hi'
        ⟨cell_be hB (hc 0 (.int .i64 i.op) rfl), cell_be hB (hc 1 (.int .i64 i.d) rfl), cell_be hB (hc 2 (.int .i64 i.n) rfl), cell_be hB (hc 3 (.int .i64 i.m) rfl), cell_be hB (hc 4 (.int .i64 i.a) rfl), cell_be hB (hc 5 (.int .i64 i.cond) rfl), cell_be hB (hc 6 (.int .i64 i.imm) rfl)⟩)
      obtain ⟨x0, x1, x2, x3, x4, x5, x6⟩ := HX.out wr P.below
      have HP := Lib.hid P
      have HOL := Lib.hid hol
      by_cases hk : okI i
      · have HCk := Lib.hid (fun W => a64_Check.calls 40 i.op i.d i.n i.m i.a i.cond i.imm 0 W (by have := checkA i 0; rwa [if_pos hk] at this))
        have HT2 : Hid (((l.take (j + 1)).filter fun i => decide (okI i)) = out ++ [i]) := Lib.hid (by rw [HT.out, if_pos hk])
        obtain ⟨io, id, ii, im, ia, ic, iz⟩ := i
        clear hk HT hcs hi hi' HC HV hout hol P
        dsimp only at HCk HX x0 x1 x2 x3 x4 x5 x6
        go_wp2_with (first | (go_at_call 12; refine (HCk.out _).mono ?_; rintro e w2 ⟨rfl, hb2⟩; have P1 := HP.out.later hb2; clear x0 x1 x2 x3 x4 x5 x6; obtain ⟨x0, x1, x2, x3, x4, x5, x6⟩ := HX.out _ P1.below; have HP1 := Lib.hid P1; clear P1 hb2) | (at_builtin; go_loud (have P2 := HP1.out.later ((Below.refl _ _).alloc (Nat.le_refl _) (.cells (irC ⟨io, id, ii, im, ia, ic, iz⟩) 39)); refine wpList_append_own _ rfl _ _ 22 rfl w.heap.size 39 ie (.agg #[.int .i64 0, .int .i64 0, .int .i64 0, .int .i64 0, .int .i64 0, .int .i64 0, .int .i64 0]) 7 56 Tryz.underlying22 hie hz0 hz1 hz2 rfl (by decide) _ _ _ rfl P2.row ⟨_, 0, none⟩ 1 1 (irC ⟨io, id, ii, im, ia, ic, iz⟩).toList rfl rfl (seven_new _ ⟨io, id, ii, im, ia, ic, iz⟩) (by intro u hu; simp [irC] at hu; rcases hu with rfl | rfl | rfl | rfl | rfl | rfl | rfl <;> rfl) (by have := HOL.out; unfold maxLen; omega) (by have := HOL.out; omega) P2.below.size ?_; intro v2 W4 hown4 hgrow4 _; have HP5 := Lib.hid (P2.append hgrow4 hown4); clear P2 hown4 hgrow4)) | fail)
        go_roundw
        case rel => exact ⟨j + 1, by rw [show ((j + 1 : Nat) : Int) = j + 1 by omega], by omega, by rw [HT2.out]; exact HP5.out⟩
        case measure => simp only [intOf]; omega
      · have HCk := Lib.hid (fun W => a64_Check.calls 40 i.op i.d i.n i.m i.a i.cond i.imm 1 W (by have := checkA i 0; rwa [if_neg hk] at this))
        have HT2 : Hid (((l.take (j + 1)).filter fun i => decide (okI i)) = out) := Lib.hid (by rw [HT.out, if_neg hk, List.append_nil])
        obtain ⟨io, id, ii, im, ia, ic, iz⟩ := i
        clear hk HT hcs hi hi' HC HV hout hol P
        dsimp only at HCk HX x0 x1 x2 x3 x4 x5 x6
        go_wp2_with (first | (go_at_call 12; refine (HCk.out _).mono ?_; rintro e w2 ⟨rfl, hb2⟩; have HP1 := Lib.hid (HP.out.later hb2); clear hb2) | fail)
        go_roundw
        case rel => exact ⟨j + 1, by rw [show ((j + 1 : Nat) : Int) = j + 1 by omega], by omega, by rw [HT2.out]; exact HP1.out⟩
        case measure => simp only [intOf]; omega
    · have hjl : j = l.length := by omega
      subst hjl
      rw [List.take_length] at P
      obtain ⟨r, hr⟩ : ∃ r, (l.filter fun i => decide (okI i)) = r := ⟨_, rfl⟩
      have hrl : r.length ≤ 300 := by
        rw [← hr]
        have h1 := List.length_filter_le (fun i => decide (okI i)) l
        omega
      rw [hr] at P
      have HPr : Hid (∀ W, Below w.heap.size w W → Calls Tryz.prog 8 #[.slice A l.length c] W fun e w' => e = .returned (.string ⟨(textP l).toArray⟩) ∧ Below W.heap.size W w') := Lib.hid (fun W hW => Print_calls _ l W (HV.out.below hW) (by have := HL.out; omega) (HG.out.below hW))
      have HPg : Hid (∀ W, Below w.heap.size w W → Calls Tryz.prog 10 #[.string ⟨(textP l).toArray⟩] W fun e w' => ∃ v', e = .returned (.tuple #[v', .int .i64 0, .int .i64 0]) ∧ Inss w' v' r ∧ Below W.heap.size W w') := Lib.hid (fun W hW => by
        have hsz : (⟨(textP l).toArray⟩ : ByteArray).size ≤ 60000 := by
          show (textP l).toArray.size ≤ _
          rw [List.size_toArray]
          have := textP_len l
          have := HL.out
          omega
        refine (Program_calls _ W hsz (HG.out.below hW)).mono ?_
        rintro e w' ⟨v', h1, h2, h3⟩
        rw [progS_textP, hr] at h1 h2
        exact ⟨v', h1, inss_own h2, h3⟩)
      have HP := Lib.hid P
      obtain ⟨A0, c0, rfl, -⟩ := inss_own P.row
      clear P HC
      go_wp2_with (first | (go_at_call 8; refine (HPr.out _ HP.out.below).mono ?_; rintro e w3 ⟨rfl, hb3⟩; have HP3 := Lib.hid (HP.out.later hb3); clear hb3) | (go_at_call 10; refine (HPg.out _ HP3.out.below).mono ?_; rintro e w4 ⟨v4, rfl, hi4, hb4⟩; have HP4 := Lib.hid (HP3.out.later hb4); obtain ⟨A4, c4, rfl, hx4⟩ := hi4; have HX4 := Lib.hid hx4; clear hb4 hx4) | fail)
      obtain ⟨A5, c5, e5, hx5⟩ := inss_own HP4.out.row
      cases e5
      have HX5 := Lib.hid hx5
      clear hx5 HPg HPr HP HP3
      go_loopw [10] (fun a wr => ∃ j : Nat, a = .int .i64 j ∧ j ≤ r.length ∧ Below w4.heap.size w4 wr) (fun a _ => r.length - (intOf a).toNat)
      case atStart => exact ⟨0, rfl, by omega, Below.refl _ _⟩
      case round =>
        obtain ⟨j, rfl, hj2, hB⟩ := hrel
        by_cases hlt : j < r.length
        · obtain ⟨i, hi⟩ : ∃ i, r[j]'hlt = i := ⟨_, rfl⟩
          have hi' : r[j]? = some i := by rw [List.getElem?_eq_getElem hlt, hi]
          obtain ⟨b, off, rfl, hcs⟩ := HX4.out (fun e => by rw [e] at hlt; simp at hlt)
          obtain ⟨b2, off2, rfl, hcs2⟩ := HX5.out (fun e => by rw [e] at hlt; simp at hlt)
          have hc := hcs j i hi'
          have hd := hcs2 j i hi'
          have x0 := cell_be hB (hc 0 (.int .i64 i.op) rfl)
          have x1 := cell_be hB (hc 1 (.int .i64 i.d) rfl)
          have x2 := cell_be hB (hc 2 (.int .i64 i.n) rfl)
          have x3 := cell_be hB (hc 3 (.int .i64 i.m) rfl)
          have x4 := cell_be hB (hc 4 (.int .i64 i.a) rfl)
          have x5 := cell_be hB (hc 5 (.int .i64 i.cond) rfl)
          have x6 := cell_be hB (hc 6 (.int .i64 i.imm) rfl)
          have y0 := cell_be hB (hd 0 (.int .i64 i.op) rfl)
          have y1 := cell_be hB (hd 1 (.int .i64 i.d) rfl)
          have y2 := cell_be hB (hd 2 (.int .i64 i.n) rfl)
          have y3 := cell_be hB (hd 3 (.int .i64 i.m) rfl)
          have y4 := cell_be hB (hd 4 (.int .i64 i.a) rfl)
          have y5 := cell_be hB (hd 5 (.int .i64 i.cond) rfl)
          have y6 := cell_be hB (hd 6 (.int .i64 i.imm) rfl)
          have HBl := Lib.hid hB
          obtain ⟨io, id, ii, im, ia, ic, iz⟩ := i
          clear hc hd hcs hcs2 hi hi' HX4 HX5 hB
          dsimp only at x0 x1 x2 x3 x4 x5 x6 y0 y1 y2 y3 y4 y5 y6
          simp only [Nat.add_zero] at x0 y0
          go_wp2_with fail
          go_region_held3 (fun w' => w'.cell? ⟨b, off + j * 7, none⟩ = some (.int .i64 io) ∧ w'.cell? ⟨b, off + j * 7 + 1, none⟩ = some (.int .i64 id) ∧ w'.cell? ⟨b, off + j * 7 + 2, none⟩ = some (.int .i64 ii) ∧ w'.cell? ⟨b, off + j * 7 + 3, none⟩ = some (.int .i64 im) ∧ w'.cell? ⟨b, off + j * 7 + 4, none⟩ = some (.int .i64 ia) ∧ w'.cell? ⟨b, off + j * 7 + 5, none⟩ = some (.int .i64 ic) ∧ w'.cell? ⟨b, off + j * 7 + 6, none⟩ = some (.int .i64 iz) ∧ w'.cell? ⟨b2, off2 + j * 7, none⟩ = some (.int .i64 io) ∧ w'.cell? ⟨b2, off2 + j * 7 + 1, none⟩ = some (.int .i64 id) ∧ w'.cell? ⟨b2, off2 + j * 7 + 2, none⟩ = some (.int .i64 ii) ∧ w'.cell? ⟨b2, off2 + j * 7 + 3, none⟩ = some (.int .i64 im) ∧ w'.cell? ⟨b2, off2 + j * 7 + 4, none⟩ = some (.int .i64 ia) ∧ w'.cell? ⟨b2, off2 + j * 7 + 5, none⟩ = some (.int .i64 ic) ∧ w'.cell? ⟨b2, off2 + j * 7 + 6, none⟩ = some (.int .i64 iz)) (first | (exact ⟨x0, x1, x2, x3, x4, x5, x6, y0, y1, y2, y3, y4, y5, y6⟩) | go_keep) (fail)
          all_goals
            go_wp2_with fail
            go_roundw
            case rel => exact ⟨j + 1, by rw [show ((j + 1 : Nat) : Int) = j + 1 by omega], by omega, HBl.out.drew⟩
            case measure => simp only [intOf]; omega
        · have hjl : j = r.length := by omega
          subst hjl
          have HBl := Lib.hid (HP4.out.below.trans (hB.mono HP4.out.below.size))
          clear HX4 HX5 hB HP4
          rcases ParS_cases s.data.toList with ⟨i, hk, his, hps⟩ | hps
          · have HPa := Lib.hid (fun W hW => Parse_calls2 s W hW (by have := HS.out; omega) i 0 hps)
            have HIn := Lib.hid (fun W hW => (show Calls Tryz.prog 14 #[.agg (irC i)] W fun e w' => e = .returned (.string s) ∧ Below W.heap.size W w' from by have := Ins_calls i W hW; rwa [insS, if_pos hk, his] at this))
            obtain ⟨io, id, ii, im, ia, ic, iz⟩ := i
            clear hk his hps
            unfold irC at HPa HIn
            dsimp only at HPa HIn
            go_wp2_with (first | (go_at_call 13; refine (HPa.out _ (HG.out.below HBl.out)).mono ?_; rintro e w5 ⟨rfl, hb5⟩; have HB5 := Lib.hid ((HBl.out.trans (hb5.mono HBl.out.size)).alloc (Nat.le_trans HBl.out.size hb5.size) (.cells #[.int .i64 io, .int .i64 id, .int .i64 ii, .int .i64 im, .int .i64 ia, .int .i64 ic, .int .i64 iz] 39)); obtain ⟨x0, x1, x2, x3, x4, x5, x6⟩ := cells7 (heap_alloc_new w5 (.cells #[.int .i64 io, .int .i64 id, .int .i64 ii, .int .i64 im, .int .i64 ia, .int .i64 ic, .int .i64 iz] 39)); clear hb5) | (go_at_call 14; refine (HIn.out _ (HG.out.below HB5.out)).mono ?_; rintro e w6 ⟨rfl, hb6⟩) | fail)
            go_ret
            exact ⟨rfl, HB5.out.trans (hb6.mono HB5.out.size)⟩
          · have HPa := Lib.hid (fun W hW => Parse_calls2 s W hW (by have := HS.out; omega) _ 5 hps)
            clear hps
            unfold irC i0 at HPa
            dsimp only at HPa
            go_wp2_with (first | (go_at_call 13; refine (HPa.out _ (HG.out.below HBl.out)).mono ?_; rintro e w5 ⟨rfl, hb5⟩; have HB5 := Lib.hid ((HBl.out.trans (hb5.mono HBl.out.size)).alloc (Nat.le_trans HBl.out.size hb5.size) (.cells #[.int .i64 0, .int .i64 0, .int .i64 0, .int .i64 0, .int .i64 0, .int .i64 0, .int .i64 0] 39)); clear hb5) | fail)
            go_ret
            exact ⟨rfl, HB5.out⟩
end Go.Proofs.YtkphijabhoppnaaGreatDoor
