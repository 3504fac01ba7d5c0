/- The reference's instructions of a text (brazierref5.Program), walked by hand. -/
import Derived.Test.YtkphijabhoppnaaGreatDoorANa
import Derived.Test.YtkphijabhoppnaaGreatDoorAMh
import Derived.Test.YtkphijabhoppnaaGreatDoorALk
import Derived.Deep.RegionHeld3
import Derived.OwnWalk
namespace Go.Proofs.YtkphijabhoppnaaGreatDoor
open Go.RowKit Go.Shelf Go.Proofs.YtkphijabhoppnaaGreatDoorW.PrintWords
open Go.Proofs.YtkphijabhoppnaaGreatDoor.PTextPrograms
set_option linter.unusedSimpArgs false
set_option linter.unusedVariables false
theorem splN_mem : ∀ (l : List UInt8), ∀ y ∈ splN l, y.length ≤ l.length := by
  intro l
  induction l with
  | nil => intro y hy; simp [splN] at hy; subst hy; simp
  | cons c r ih =>
    intro y hy
    rw [splN] at hy
    split at hy
    · rcases List.mem_cons.1 hy with rfl | hy
      · simp
      · have := ih y hy; simp; omega
    · cases hs : splN r with
      | nil => exact absurd hs (splN_ne r)
      | cons h t =>
        rw [hs] at hy
        dsimp only at hy
        rcases List.mem_cons.1 hy with rfl | hy
        · have := ih h (by rw [hs]; simp); simp; omega
        · have := ih y (by rw [hs]; simp [hy]); simp; omega
theorem outsL_mem : ∀ (l : List ByteArray) (n : Nat), ∀ x ∈ outsL n l, x.1 ≤ n + l.length ∧ ∃ y ∈ l, x.2 = lineT y.data.toList := by
  intro l
  induction l with
  | nil => intro n x hx; simp [outsL] at hx
  | cons b r ih =>
    intro n x hx
    rw [outsL] at hx
    rcases List.mem_append.1 hx with hx | hx
    · split at hx
      · cases hx
      · simp at hx; subst hx; exact ⟨by simp <;> omega, b, by simp, rfl⟩
    · obtain ⟨h1, y, h2, h3⟩ := ih (n + 1) x hx
      exact ⟨by simp; omega, y, List.mem_cons_of_mem _ h2, h3⟩
theorem outs_bound (s : ByteArray) : ∀ x ∈ outsL 0 (linesB s), x.1 ≤ s.size + 1 ∧ x.2.length ≤ s.size := by
  intro x hx
  obtain ⟨h1, y, h2, h3⟩ := outsL_mem _ _ x hx
  have hl := linesB_len s
  refine ⟨by omega, ?_⟩
  obtain ⟨z, hz, rfl⟩ := List.mem_map.1 h2
  have h4 := splN_mem _ z hz
  have h5 := lineT_len z
  have h6 : s.data.toList.length = s.size := by rw [Array.length_toList]; rfl
  rw [h3]
  show (lineT z).length ≤ _
  omega
def Lns (W : World) (v : Value) (l : List (Nat × List UInt8)) : Prop :=
  ∃ A c, v = .slice A l.length c ∧ (l ≠ [] → ∃ b off, A = some ⟨b, off, none⟩ ∧ ∀ (j : Nat) (x : Nat × List UInt8), l[j]? = some x → W.cell? ⟨b, off + j * 2, none⟩ = some (.int .i64 x.1) ∧ W.cell? ⟨b, off + j * 2 + 1, none⟩ = some (.string ⟨x.2.toArray⟩))
theorem Lns.below {W W' : World} {v : Value} {l : List (Nat × List UInt8)} (h : Lns W v l) (hb : Below W.heap.size W W') : Lns W' v l := by
  obtain ⟨A, c, e, h⟩ := h
  refine ⟨A, c, e, fun hn => ?_⟩
  obtain ⟨b, off, e2, h2⟩ := h hn
  exact ⟨b, off, e2, fun j x hj => ⟨cell_be hb (h2 j x hj).1, cell_be hb (h2 j x hj).2⟩⟩
theorem lns_of_R {W : World} {base : Nat} {ok : Nat → Prop} {v : Value} {l : List (Nat × List UInt8)} (h : Kd.R k30 30 W base ok v (s30L l)) : Lns W v l := by
  obtain ⟨A, c, rfl, hc, hC⟩ := Kd.R_reads h
  have hlen : (s30L l).length = l.length := by simp [s30L]
  refine ⟨A, c, by rw [hlen], fun hne => ?_⟩
  have hpos : 0 < l.length := List.length_pos_iff.2 hne
  have get : ∀ (j : Nat) (x : Nat × List UInt8), l[j]? = some x → ∃ ad, A = some ad ∧ W.cell? (ad.add (j * 2)) = some (.int .i64 x.1) ∧ W.cell? ⟨(ad.add (j * 2)).block, (ad.add (j * 2)).off + 1, none⟩ = some (.string ⟨x.2.toArray⟩) := by
    intro j x hj
    have hjl := (List.getElem?_eq_some_iff.1 hj).1
    have hrd : rd_T30 (s30L l) (j : Int) = ⟨(x.1 : Int), ⟨x.2.toArray⟩⟩ := by
      unfold rd_T30 s30L
      rw [Int.toNat_natCast, List.getD_eq_getElem?_getD, List.getElem?_map, hj]
      rfl
    have := at_T30 hC (j : Int) (by omega) (by rw [hlen]; omega)
    rw [hrd, Int.toNat_natCast] at this
    exact this
  obtain ⟨x, hx⟩ : ∃ x, l[0]? = some x := ⟨_, List.getElem?_eq_getElem hpos⟩
  obtain ⟨ad, rfl, h1, -⟩ := get 0 x hx
  have hsp : ad.spot = none := by
    rw [show ad.add (0 * 2) = ad from rfl] at h1
    unfold World.cell? at h1
    split at h1
    · split at h1
      · simp at h1
      · rename_i hs; simpa using hs
    · simp at h1
  obtain ⟨b, off, spot⟩ := ad
  dsimp only at hsp
  subst hsp
  refine ⟨b, off, rfl, fun j y hy => ?_⟩
  obtain ⟨ad, e, k1, k2⟩ := get j y hy
  cases e
  have ha : (⟨b, off, none⟩ : Addr).add (j * 2) = ⟨b, off + j * 2, none⟩ := by
    unfold Addr.add
    split
    · rename_i h0; rw [h0, Nat.add_zero]
    · rfl
  rw [ha] at k1 k2
  exact ⟨k1, k2⟩
theorem RLines_calls (s : ByteArray) (w : World) (hs : s.size ≤ 100000) : Calls Tryz.prog 6 #[.string s] w fun e w' => ∃ v, e = .returned v ∧ Lns w' v (outsL 0 (linesB s)) ∧ Below w.heap.size w w' :=
  (brazierref5_Lines.calls _ s _ w (ref_lines s hs)).mono fun e w' ⟨v, he, hr, hb⟩ => ⟨v, he, lns_of_R hr, hb⟩
theorem RParse_t (t : List UInt8) (w : World) (hs : t.length ≤ 90000) (r : IR) (f : Int) (hp : ParS t r f) :
    Calls Tryz.prog 22 #[.string ⟨t.toArray⟩] w fun e w' => e = .returned (.tuple #[.agg (irC r), .int .i64 f]) ∧ Below w.heap.size w w' := by
  obtain ⟨r', f', h1, h2⟩ := ref_parse t hs 0
  obtain ⟨rfl, rfl⟩ := h2.det hp
  exact brazierref5_Parse.calls _ ⟨t.toArray⟩ _ _ _ _ _ _ _ _ w h1
set_option maxHeartbeats 8000000 in
set_option maxRecDepth 100000 in
theorem RProgram_calls (s : ByteArray) (w : World) (hs : s.size ≤ 60000) : Calls Tryz.prog 11 #[.string s] w (ProgPost w (progS s)) := by
  obtain ⟨ie, hie, hz0, hz1, hz2⟩ := info_parts info39
  have HLn := Lib.hid (RLines_calls s w (by omega))
  obtain ⟨ls, hls⟩ : ∃ ls, outsL 0 (linesB s) = ls := ⟨_, rfl⟩
  have hll : ls.length ≤ 60001 := by
    have h1 := outsL_len (linesB s) 0
    have h2 := linesB_len s
    rw [hls] at h1; omega
  have HBd := Lib.hid (outs_bound s)
  have HPA := Lib.hid (prog_all s)
  have HPB := Lib.hid (prog_bad s)
  rw [hls] at HLn HBd HPA HPB
  have HSZ := Lib.hid hs
  clear hs
  go_enter Tryz.func11, Tryz.ntmps11
  go_wp2_with (first | (go_at_call 6; refine HLn.out.mono ?_; rintro e w1 ⟨v1, rfl, hl1, hb1⟩; have HB1 := Lib.hid hb1; obtain ⟨A, c, rfl, hx⟩ := hl1; have HX := Lib.hid hx; clear hx hb1) | fail)
  go_loopw [6, 7] (fun a b wr => ∃ j : Nat, b = .int .i64 j ∧ j ≤ ls.length ∧ ∃ out, outP (ls.take j) = some out ∧ TbS w1 a out wr) (fun _ b _ => ls.length - (intOf b).toNat)
  case atStart => exact ⟨0, rfl, by omega, [], rfl, ⟨World.ownsRow_nil _ _ _ _, Below.refl _ _⟩⟩
  case round =>
    obtain ⟨j, rfl, hj, out, ho, P⟩ := hrel
    have hB := P.below
    have HW := Lib.hid (HB1.out.trans (P.below.mono HB1.out.size))
    have hol := outP_len (ls.take j) [] out ho
    rw [List.length_take] at hol
    simp only [List.length_nil, Nat.zero_add] at hol
    have HOL : Hid (out.length ≤ 65000) := Lib.hid (by omega)
    by_cases hlt : j < ls.length
    · obtain ⟨⟨k, t⟩, hkt⟩ : ∃ x : Nat × List UInt8, ls[j]'hlt = x := ⟨_, rfl⟩
      have hj' : ls[j]? = some (k, t) := by rw [List.getElem?_eq_getElem hlt, hkt]
      have hbd := HBd.out (k, t) (List.mem_of_getElem? hj')
      dsimp only at hbd
      have hsz := HSZ.out
      obtain ⟨b, off, rfl, hcs⟩ := HX.out (fun e => by rw [e] at hlt; simp at hlt)
      obtain ⟨hc0, hc1⟩ := hcs j (k, t) hj'
      dsimp only at hc0 hc1
      have x0 := cell_be hB hc0
      have x1 := cell_be hB hc1
      have HP := Lib.hid P
      have HBl := Lib.hid hB
      have HO := Lib.hid ho
      have hk2 : (k : Int) ≤ 60001 := by omega
      have HTK : Hid (ls.take (j + 1) = ls.take j ++ [(k, t)]) := Lib.hid (by rw [List.take_add_one, hj']; rfl)
      have HPre : Hid (ls.take j ++ [(k, t)] <+: ls) := Lib.hid (by rw [← HTK.out]; exact List.take_prefix _ _)
      clear hcs hc0 hc1 hj' hkt P hB ho hol
      cases hp : parO t with
      | none =>
        have HPa : Hid (∀ W, Calls Tryz.prog 22 #[.string ⟨t.toArray⟩] W fun e w' => e = .returned (.tuple #[.agg #[.int .i64 0, .int .i64 0, .int .i64 0, .int .i64 0, .int .i64 0, .int .i64 0, .int .i64 0], .int .i64 5]) ∧ Below W.heap.size W w') := Lib.hid (fun W => RParse_t t W (by omega) (i0 0) 5 (parS_none hp))
        have HPN := Lib.hid hp
        clear hp
        go_wp2_with (first | (go_at_call 22; refine (HPa.out _).mono ?_; rintro e V1 ⟨rfl, hv1⟩; have hb2 := hv1.alloc hv1.size (.cells #[.int .i64 0, .int .i64 0, .int .i64 0, .int .i64 0, .int .i64 0, .int .i64 0, .int .i64 0] 39); have y0 := cell_be hb2 x0; have HB2 := Lib.hid hb2; clear hv1 hb2) | fail)
        go_region_held3 (fun w' => w'.cell? ⟨b, off + j * 2, none⟩ = some (.int .i64 k)) (first | (exact y0) | go_keep) (fail)
        all_goals
          go_wp2_with fail
          go_ret3
          rw [ProgPost, HPB.out _ (k, t) out HO.out HPN.out HPre.out]
          exact ⟨_, rfl, World.ownsRow_nil _ _ _ _, (HW.out.trans (HB2.out.mono HW.out.size)).drew⟩
      | some i =>
        have hgood : outP (ls.take (j + 1)) = some (out ++ [i]) := by rw [HTK.out, outP_snoc, HO.out]; simp [stepP, hp]
        have HGD := Lib.hid hgood
        obtain ⟨io, id, ii, im, ia, ic, iz⟩ := i
        have HPa : Hid (∀ W, Calls Tryz.prog 22 #[.string ⟨t.toArray⟩] W fun e w' => e = .returned (.tuple #[.agg #[.int .i64 io, .int .i64 id, .int .i64 ii, .int .i64 im, .int .i64 ia, .int .i64 ic, .int .i64 iz], .int .i64 0]) ∧ Below W.heap.size W w') := Lib.hid (fun W => RParse_t t W (by omega) _ 0 (parS_some hp))
        clear hp hgood
        go_wp2_with (first | (go_at_call 22; refine (HPa.out _).mono ?_; rintro e V1 ⟨rfl, hv1⟩; have hb2 := hv1.alloc hv1.size (.cells #[.int .i64 io, .int .i64 id, .int .i64 ii, .int .i64 im, .int .i64 ia, .int .i64 ic, .int .i64 iz] 39); have HP1 := Lib.hid (HP.out.later hb2); obtain ⟨y0, y1, y2, y3, y4, y5, y6⟩ := cells7 (heap_alloc_new V1 (.cells #[.int .i64 io, .int .i64 id, .int .i64 ii, .int .i64 im, .int .i64 ia, .int .i64 ic, .int .i64 iz] 39)); clear hv1 hb2) | (at_builtin; go_loud (have P2 := HP1.out.later ((Below.refl _ _).alloc (Nat.le_refl _) (.cells (irC ⟨io, id, ii, im, ia, ic, iz⟩) 39)); refine wpList_append_own _ rfl _ _ 22 rfl w1.heap.size 39 ie (.agg #[.int .i64 0, .int .i64 0, .int .i64 0, .int .i64 0, .int .i64 0, .int .i64 0, .int .i64 0]) 7 56 Tryz.underlying22 hie hz0 hz1 hz2 rfl (by decide) _ _ _ rfl P2.row ⟨_, 0, none⟩ 1 1 (irC ⟨io, id, ii, im, ia, ic, iz⟩).toList rfl rfl (seven_at _ _ (by simp) ⟨io, id, ii, im, ia, ic, iz⟩) (by intro u hu; simp [irC] at hu; rcases hu with rfl | rfl | rfl | rfl | rfl | rfl | rfl <;> rfl) (by have := HOL.out; unfold maxLen; omega) (by have := HOL.out; omega) P2.below.size ?_; intro v2 W4 hown4 hgrow4 _; have HP5 := Lib.hid (P2.append hgrow4 hown4); clear P2 hown4 hgrow4)) | fail)
        go_roundw
        case rel => exact ⟨j + 1, by rw [show ((j + 1 : Nat) : Int) = j + 1 by omega], by omega, _, HGD.out, HP5.out⟩
        case measure => simp only [intOf]; omega
    · have hjl : j = ls.length := by omega
      subst hjl
      rw [List.take_length] at ho
      have HPS := Lib.hid (HPA.out out ho)
      have hob : ¬ ((65536 : Int) < out.length) := by have := HOL.out; omega
      have q1 : decide ((out.length : Int) > 65536) = false := decide_eq_false (by omega)
      have HP := Lib.hid P
      clear hol
      rcases own_form2 P.row with rfl | ⟨g, cap, rfl⟩
      all_goals
        clear P
        go_wp2_with fail
        go_ret3
        rw [ProgPost, HPS.out]
        exact ⟨_, rfl, row_bas HP.out.row HB1.out.size, HW.out⟩
end Go.Proofs.YtkphijabhoppnaaGreatDoor
