/- CodeReads, walked: it returns true, whatever the bytes. -/
import Derived.Test.YtkphijabhoppnaaDoorQa
import Derived.Test.YtkphijabhoppnaaDoorPb
import Derived.Test.YtkphijabhoppnaaDoorBd
import Derived.Deep.RegionWith
import Derived.Sort.QuietIn
import Derived.Deep.CutRange
import Derived.Deep.RegionHeld3
import Derived.Sort.CutIn
import Derived.Stop.RegionWithIn
namespace Go.Proofs.YtkphijabhoppnaaDoor
open Go.RowKit Go.Shelf Go.Proofs.YtkphijabhoppnaaDoorW.PrintWords
set_option linter.unusedSimpArgs false
set_option linter.unusedVariables false
attribute [local go_sem] Oper.semAt_some

theorem good_of {w : World} {v : Value} {l : List Int} (hb : Byt w v l) (hl : l.length ≤ 1000000) : GoodB l := by
  obtain ⟨A, c, e, h1, h2, h3, h4⟩ := hb
  exact ⟨hl, h3⟩
/-- A row of numbers that is read. -/
def Nums (w : World) (A : Option Addr) (l : List Int) : Prop := (Kd.int .i64).C w A l.length l
theorem rplaces_calls (v : Value) (l : List Int) (w : World) (hb : Byt w v l) (hl : l.length ≤ 1000000) :
    Calls Tryd.prog 17 #[v] w fun e w' => ∃ A c z, e = .returned (.tuple #[.slice A (placesS l).1.length c, .int .i64 (placesS l).2, .int .i64 z]) ∧ Nums w' A (placesS l).1 ∧ Below w.heap.size w w' := by
  have hg := good_of hb hl
  obtain ⟨A, c, rfl, hnc, _⟩ := id hb
  obtain ⟨z, hz⟩ := ref_places l hg.by' hl (l.length + 5) (Nat.le_refl _)
  refine (PCodeReads.brazierref13_Places.calls _ A c l _ _ _ w (bytC hb) hg hnc hz).mono ?_
  rintro e w' ⟨v0, rfl, hr, hbl⟩
  obtain ⟨A', c', rfl⟩ := Kd.R_slice hr
  refine ⟨A', c', z, rfl, (Kd.R_reads' hr).2.2, hbl⟩
theorem own_nums {w : World} {base : Nat} {A : Option Addr} {c : Nat} {xs : List Int} (h : w.ownsRow base 3 1 (.slice A xs.length c) xs.length (nums .i64 xs)) : Nums w A xs := by
  obtain ⟨A', c', e, _, hm, _⟩ := own_reads h
  refine ⟨rfl, hm, fun hp => ?_⟩
  obtain ⟨g, cap, e2, _⟩ := h.form hp
  cases e2
  refine ⟨_, rfl, fun j p hj => ⟨[.int .i64 p], rfl, rfl, fun i u hu => ?_⟩⟩
  have hjl : j < xs.length := (List.getElem?_eq_some_iff.1 hj).1
  have := (own_at h j (by omega) (by omega)).1
  cases i with
  | zero =>
    simp at hu
    subst hu
    show w.cell? (Addr.add ⟨g, 0, none⟩ (j * 1 + 0)) = _
    rw [show j * 1 + 0 = j by omega, addr_add, Nat.zero_add]
    rw [Int.toNat_natCast] at this
    rw [this]
    simp [rd, List.getD_eq_getElem?_getD, hj]
  | succ i => simp at hu
theorem cplaces_calls (v : Value) (l : List Int) (w : World) (hG : Glob w) (hb : Byt w v l) (hl : l.length ≤ 1000000) :
    Calls Tryd.prog 16 #[v] w fun e w' => ∃ A c, e = .returned (.tuple #[.slice A (placesS l).1.length c, .int .i64 (placesS l).2]) ∧ Nums w' A (placesS l).1 ∧ Below w.heap.size w w' := by
  refine (places_calls v l w hl hb hG).mono ?_
  rintro e w' ⟨v', rfl, ho, hbl⟩
  obtain ⟨A, c, rfl⟩ := own_slice ho
  exact ⟨A, c, rfl, own_nums ho, hbl⟩
theorem rtext_calls (v : Value) (l : List Int) (w : World) (hb : Byt w v l) (hl : l.length ≤ 1000000) :
    Calls Tryd.prog 19 #[v] w fun e w' => e = .returned (.tuple #[.string ⟨(textS l).1.toArray⟩, .int .i64 (textS l).2]) ∧ Below w.heap.size w w' := by
  have hg := good_of hb hl
  obtain ⟨A, c, rfl, hnc, _⟩ := id hb
  exact PCodeReads.brazierref13_Text.calls _ A c l _ _ w (bytC hb) hg hnc (ref_text l hg.by' hl (l.length + 30) (Nat.le_refl _))
theorem of_calls (a b c d : Int) (w : World) : Calls Tryd.prog 15 #[.agg #[.int .i64 a, .int .i64 b, .int .i64 c, .int .i64 d]] w fun e w' => e = .returned (.agg #[.int .i64 a, .int .i64 b, .int .i64 c, .int .i64 d]) ∧ Below w.heap.size w w' :=
  PCodeReads.brazierlaw13_of.calls a b c d a b c d w rfl

theorem cells4 {W : World} {g : Nat} {x y z t : Value} {q : TypeId} {fr : Nat × Nat} (h : W.heap[g]? = some (Obj.cells #[x, y, z, t] q fr)) :
    W.cell? ⟨g, 0, none⟩ = some x ∧ W.cell? ⟨g, 1, none⟩ = some y ∧ W.cell? ⟨g, 2, none⟩ = some z ∧ W.cell? ⟨g, 3, none⟩ = some t :=
  ⟨(cell_of_row _ _ 0 _ _ _ h).trans rfl, (cell_of_row _ _ 1 _ _ _ h).trans rfl, (cell_of_row _ _ 2 _ _ _ h).trans rfl, (cell_of_row _ _ 3 _ _ _ h).trans rfl⟩
theorem results3 {tmps : Array Value} {W : World} {g : Nat} {x : Bool} (h6 : tmps.getD 6 undef = .pointer (some ⟨g, 0, none⟩)) (hb : Boxed W g 4 (.bool x)) :
    (results Tryd.f3 tmps).run Tryd.prog W = .ok (.bool x) W := by
  have hc := hb.cell
  have h6' : tmps[6]?.getD undef = .pointer (some ⟨g, 0, none⟩) := by simpa using h6
  simp only [results, Tryd.results3]
  simp [h6', go_sem, hc]
theorem row_kept' {n : Nat} {W w1 : World} {g : Nat} {o : Obj} (hb : Below n W w1) (hlt : g < n) (h : W.heap[g]? = some o) : w1.heap[g]? = some o := (hb.block g hlt).trans h
theorem KeepsOthers.of_below' {w w' : World} (h : Below w.heap.size w w') : KeepsOthers w w' := ⟨h.size, fun k o hk _ => row_kept h hk⟩
theorem KpB.setBox {Bs B : Nat} {t : TypeId} {u u' v : Value} {l : List Int} {W : World} (hb : Boxed W B t u) (ht : t ≠ 25) (hne : Bs ≠ B)
    (h1 : Byt (W.setCell ⟨B, 0, none⟩ u') v l) (h2 : Glob (W.setCell ⟨B, 0, none⟩ u')) : KpB Bs v l W (W.setCell ⟨B, 0, none⟩ u') := by
  refine ⟨fun _ => h1, fun h => ?_, fun _ => h2, fun g cs h => ?_, by simp [World.setCell]⟩
  · exact (World.cell?_of_block (w := W) (heap_setCell_other _ ⟨B, 0, none⟩ Bs _ hne)).trans h
  · have n1 : g ≠ B := by
      rintro rfl
      have := hb
      unfold Boxed at this
      rw [h] at this
      cases this
      exact ht rfl
    exact (heap_setCell_other _ ⟨B, 0, none⟩ g _ n1).trans h
set_option maxRecDepth 100000 in
set_option maxHeartbeats 4000000 in
theorem reads_ok (v : Value) (l : List Int) (at' stop : Int) (w : World) (hl : l.length ≤ 4000) (hb : Byt w v l) (hG : Glob w) : Calls Tryd.prog 3 #[v, .int .i64 at', .int .i64 stop] w (TruePost w) := by
  have hlm : l.length ≤ 1000000 := by omega
  obtain ⟨rr, hrr⟩ : ∃ rr, readS l at' = rr := ⟨_, rfl⟩
  obtain ⟨⟨pl, pe⟩, hpl⟩ : ∃ p, placesS l = p := ⟨_, rfl⟩
  obtain ⟨⟨txl, te⟩, htx⟩ : ∃ p, textS l = p := ⟨_, rfl⟩
  obtain ⟨tx, htb⟩ : ∃ tx : ByteArray, (⟨txl.toArray⟩ : ByteArray) = tx := ⟨_, rfl⟩
  have hR : ∀ W, Glob W → Byt W v l → Calls Tryd.prog 13 #[v, .int .i64 at'] W fun e w' => e = .returned rr.val ∧ Below W.heap.size W w' := fun W h1 h2 => hrr ▸ read_calls v l at' W h1 h2
  have hR2 : ∀ W, Byt W v l → Calls Tryd.prog 14 #[v, .int .i64 at'] W fun e w' => e = .returned rr.val ∧ Below W.heap.size W w' := fun W h2 => hrr ▸ rread_calls v l at' W h2 hlm
  have hP : ∀ W, Glob W → Byt W v l → Calls Tryd.prog 16 #[v] W fun e w' => ∃ A c, e = .returned (.tuple #[.slice A pl.length c, .int .i64 pe]) ∧ Nums w' A pl ∧ Below W.heap.size W w' := fun W h1 h2 => by
    have := cplaces_calls v l W h1 h2 hlm
    rwa [hpl] at this
  have hP2 : ∀ W, Byt W v l → Calls Tryd.prog 17 #[v] W fun e w' => ∃ A c z, e = .returned (.tuple #[.slice A pl.length c, .int .i64 pe, .int .i64 z]) ∧ Nums w' A pl ∧ Below W.heap.size W w' := fun W h2 => by
    have := rplaces_calls v l W h2 hlm
    rwa [hpl] at this
  have hT : ∀ W, Glob W → Byt W v l → Calls Tryd.prog 18 #[v] W fun e w' => e = .returned (.tuple #[.string tx, .int .i64 te]) ∧ Below W.heap.size W w' := fun W h1 h2 => by
    have := text_calls v l W hlm h2 h1
    unfold TxPost at this
    rw [htx] at this
    rw [← htb]
    exact this
  have hT2 : ∀ W, Byt W v l → Calls Tryd.prog 19 #[v] W fun e w' => e = .returned (.tuple #[.string tx, .int .i64 te]) ∧ Below W.heap.size W w' := fun W h2 => by
    have := rtext_calls v l W h2 hlm
    rw [htx] at this
    rw [← htb]
    exact this
  have HR := Lib.hid hR
  have HT := Lib.hid hT
  have HT2 := Lib.hid hT2
  clear hT hT2 htx htb
  have HP := Lib.hid hP
  have HP2 := Lib.hid hP2
  clear hP hP2 hpl
  have HR2 := Lib.hid hR2
  have HB := Lib.hid hb
  have HG := Lib.hid hG
  have HL := Lib.hid hlm
  clear hR hR2 hrr hG hlm
  obtain ⟨ra, rb, rc, rs, re⟩ := rr
  obtain ⟨A, c, rfl, hnc, hcm, hby, hcl⟩ := hb
  clear hby hcl
  have ht : decide (4000 < (l.length : Int)) = false := by simp; omega
  refine (callsIn_wide (n := 6)).1 ?_
  refine callsIn_of_wp_marks Tryd.func3 rfl trivial ?_ rfl
  simp only [Tryd.ntmps3, List.size_toArray, List.length_cons, List.length_nil, Nat.reduceAdd, Nat.reduceSub, Array.replicate_succ, Array.replicate_zero, List.push_toArray, List.append_toArray, List.nil_append, List.cons_append]
  refine wpIn_wide.2 ?_
  go_wp2_with fail
  have hB0 : Below w.heap.size w (((w.alloc (.cells #[.slice A l.length c] 22)).alloc (.cells #[.int .i64 stop] 3)).alloc (.cells #[.bool false] 4)) := (((Below.refl _ w).alloc (Nat.le_refl _) _).alloc (by simp) _).alloc (by simp; omega) _
  have r22 := row_alloc (row_alloc (heap_alloc_new w (.cells #[.slice A l.length c] 22)) (.cells #[.int .i64 stop] 3)) (.cells #[.bool false] 4)
  have r3 := row_alloc (heap_alloc_new (w.alloc (.cells #[.slice A l.length c] 22)) (.cells #[.int .i64 stop] 3)) (.cells #[.bool false] 4)
  have r4 := heap_alloc_new ((w.alloc (.cells #[.slice A l.length c] 22)).alloc (.cells #[.int .i64 stop] 3)) (.cells #[.bool false] 4)
  have hs0 : (((w.alloc (.cells #[.slice A l.length c] 22)).alloc (.cells #[.int .i64 stop] 3)).alloc (.cells #[.bool false] 4)).heap.size = w.heap.size + 3 := by simp
  simp only [World.size_alloc] at r3 r4
  obtain ⟨W0, hW0⟩ : ∃ W0, ((w.alloc (.cells #[.slice A l.length c] 22)).alloc (.cells #[.int .i64 stop] 3)).alloc (.cells #[.bool false] 4) = W0 := ⟨_, rfl⟩
  rw [hW0] at hB0 r22 r3 r4 hs0 ⊢
  clear hW0
  have HS0 := Lib.hid hs0
  have HB0 := Lib.hid hB0
  have R22 := Lib.hid r22
  have R3 := Lib.hid r3
  have R4 := Lib.hid r4
  have GK : ∀ W, Below W0.heap.size W0 W → Glob W ∧ Byt W (.slice A l.length c) l ∧ W.cell? ⟨w.heap.size, 0, none⟩ = some (.slice A l.length c) ∧ w.heap.size + 3 ≤ W.heap.size := by
    intro W h
    have hw : Below w.heap.size w W := HB0.out.trans (h.mono HB0.out.size)
    refine ⟨HG.out.below hw, HB.out.below hw, (cell_of_row _ _ 0 _ _ _ (row_kept h R22.out)).trans rfl, ?_⟩
    have := h.size
    have := HS0.out
    omega
  have GK := Lib.hid GK
  clear hs0 hB0 r22 r3 r4
  refine (known_calls _ (GK.out _ (Below.refl _ _)).1).mono ?_
  rintro e w1 ⟨rfl, hb1⟩
  obtain ⟨_, _, c1, z1⟩ := GK.out _ hb1
  have HB1 := Lib.hid hb1
  clear hb1
  go_wp2_with fail
  refine (HR.out _ (GK.out _ HB1.out).1 (GK.out _ HB1.out).2.1).mono ?_
  rintro e w2 ⟨rfl, hb2⟩
  unfold Rd.val
  dsimp only
  have hb2' := (HB1.out.trans (hb2.mono HB1.out.size)).alloc (Nat.le_trans HB1.out.size hb2.size) (.cells #[.int .i64 ra, .int .i64 rb, .int .i64 rc, .int .i64 rs] 25)
  have b2 := heap_alloc_new w2 (.cells #[.int .i64 ra, .int .i64 rb, .int .i64 rc, .int .i64 rs] 25)
  obtain ⟨_, _, c2, z2⟩ := GK.out _ hb2'
  have HB2 := Lib.hid hb2'
  have RB2 := Lib.hid b2
  clear hb2 hb2' b2 c1
  go_wp2_with fail
  obtain ⟨W2, hW2⟩ : ∃ W2, w2.alloc (.cells #[.int .i64 ra, .int .i64 rb, .int .i64 rc, .int .i64 rs] 25) = W2 := ⟨_, rfl⟩
  rw [hW2] at HB2 RB2 c2 z2 ⊢
  clear hW2
  refine (HR2.out _ (GK.out _ HB2.out).2.1).mono ?_
  rintro e w3 ⟨rfl, hb3⟩
  unfold Rd.val
  dsimp only
  have hb3' := hb3.alloc hb3.size (.cells #[.int .i64 ra, .int .i64 rb, .int .i64 rc, .int .i64 rs] 29)
  have b3 := heap_alloc_new w3 (.cells #[.int .i64 ra, .int .i64 rb, .int .i64 rc, .int .i64 rs] 29)
  have b2' := row_kept hb3' RB2.out
  have HB3 := Lib.hid (HB2.out.trans (hb3'.mono HB2.out.size))
  clear hb3 hb3'
  go_wp2_with fail
  obtain ⟨W3, hW3⟩ : ∃ W3, w3.alloc (.cells #[.int .i64 ra, .int .i64 rb, .int .i64 rc, .int .i64 rs] 29) = W3 := ⟨_, rfl⟩
  rw [hW3] at HB3 b3 b2' ⊢
  clear hW3
  obtain ⟨x0, x1, x2, x3⟩ := cells4 b2'
  obtain ⟨y0, y1, y2, y3⟩ := cells4 b3
  have RB2' := Lib.hid b2'
  have RB3 := Lib.hid b3
  clear b2' b3
  go_cut [49] from 41 to 49 (fun s wc => s = .bool false ∧ Below W3.heap.size W3 wc)
  case first =>
    refine wp_region_noPanic ?_
    go_region_with (go_at_call 15; refine (of_calls _ _ _ _ _).mono ?_; rintro e w4 ⟨rfl, hb4⟩; have q0 := cell_be hb4 y0; have q1 := cell_be hb4 y1; have q2 := cell_be hb4 y2; have q3 := cell_be hb4 y3; have HB4 := Lib.hid hb4; clear hb4)
    all_goals (refine NoPanic.normal ?_; go_wp2_with fail; go_meet; refine ⟨?_, ?_⟩)
    all_goals first | rfl | exact ⟨HB4.out.os, HB4.out.tape, HB4.out.output, HB4.out.size, HB4.out.block⟩
  case rest =>
    obtain ⟨rfl, hb5⟩ := hcut
    have HB5 := Lib.hid (HB3.out.trans (hb5.mono HB3.out.size))
    clear hb5 x0 x1 x2 x3 y0 y1 y2 y3 c2
    obtain ⟨_, _, c5, z5⟩ := GK.out _ HB5.out
    go_wp2_with fail
    refine (HP.out _ (GK.out _ HB5.out).1 (GK.out _ HB5.out).2.1).mono ?_
    rintro e w6 ⟨A6, c6', rfl, hn6, hb6⟩
    have HN6 := Lib.hid hn6
    have HB6 := Lib.hid (HB5.out.trans (hb6.mono HB5.out.size))
    clear hb6 hn6 c5
    obtain ⟨_, _, c6, z6⟩ := GK.out _ HB6.out
    go_wp2_with fail
    refine (HP2.out _ (GK.out _ HB6.out).2.1).mono ?_
    rintro e w7 ⟨A7, c7', zz, rfl, hn7, hb7⟩
    have HN7 := Lib.hid hn7
    have HN67 := Lib.hid (Kd.C_below HN6.out hb7)
    have HB7 := Lib.hid (HB6.out.trans (hb7.mono HB6.out.size))
    clear hb7 hn7 c6
    obtain ⟨_, _, c7, z7⟩ := GK.out _ HB7.out
    go_wp2_with fail
    go_loopw [14] (fun i wr => ∃ k : Nat, k ≤ pl.length ∧ i = .int .i64 k ∧ Below w7.heap.size w7 wr) (fun i _ => pl.length - (intOf i).toNat)
    case atStart => exact ⟨0, Nat.zero_le _, rfl, Below.refl _ _⟩
    case round =>
      obtain ⟨k, hk, rfl, hbr⟩ := hrel
      by_cases hlt : k < pl.length
      · obtain ⟨ad7, e7, x7⟩ := Kd.at_int (Kd.C_below HN7.out hbr) k (by omega) (by omega)
        obtain ⟨ad6, e6, x6⟩ := Kd.at_int (Kd.C_below HN67.out hbr) k (by omega) (by omega)
        subst e7 e6
        rw [Int.toNat_natCast] at x7 x6
        have hs := HN7.out.2.1
        have HBR := Lib.hid hbr
        clear hbr
        go_wp2_with fail
        go_quiet (fail)
        go_wp2_with fail
        go_roundw
        case rel => exact ⟨k + 1, hlt, by go_num, below_drewN0 HBR.out _⟩
        case measure => simp [intOf]; omega
      · obtain rfl : k = pl.length := by omega
        have HBR := Lib.hid (HB7.out.trans (hbr.mono HB7.out.size))
        clear hbr c7
        obtain ⟨_, _, c8, z8⟩ := GK.out _ HBR.out
        go_wp2_with fail
        refine (HT.out _ (GK.out _ HBR.out).1 (GK.out _ HBR.out).2.1).mono ?_
        rintro e w9 ⟨rfl, hb9⟩
        have HB9 := Lib.hid (HBR.out.trans (hb9.mono HBR.out.size))
        clear hb9 c8
        obtain ⟨_, _, c9, z9⟩ := GK.out _ HB9.out
        go_wp2_with fail
        refine (HT2.out _ (GK.out _ HB9.out).2.1).mono ?_
        rintro e w10 ⟨rfl, hb10⟩
        have HB10 := Lib.hid (HB9.out.trans (hb10.mono HB9.out.size))
        clear hb10 c9
        obtain ⟨_, _, c10, z10⟩ := GK.out _ HB10.out
        go_wp2_with (first | (go_at_call 20; refine (all_calls _ _ _ _).mono ?_; rintro e w11 ⟨rfl, rfl⟩) | fail)
        have hB11 : Below W0.heap.size W0 (w10.alloc (.cells #[.slice A l.length c] 22)) := HB10.out.alloc HB10.out.size _
        have bS := Boxed.new w10 22 (.slice A l.length c)
        obtain ⟨W11, hW11⟩ : ∃ W11, w10.alloc (.cells #[.slice A l.length c] 22) = W11 := ⟨_, rfl⟩
        have hz11 : W11.heap.size = w10.heap.size + 1 := by rw [← hW11]; simp
        rw [hW11] at hB11 bS ⊢
        rw [← hz11]
        clear hW11 hz11
        have HB11 := Lib.hid hB11
        have HBS := Lib.hid bS
        have bN := Boxed.new W11 3 (.int .i64 0)
        have hbn : Below W11.heap.size W11 (W11.alloc (.cells #[.int .i64 0] 3)) := (Below.refl _ _).alloc (Nat.le_refl _) _
        have hB11b := (HB11.out.alloc HB11.out.size) (.cells #[.int .i64 0] 3)
        clear hB11 bS c10
        refine (wpIn_wide (n := 6)).1 ?_
        refine rangeFunc_brk rfl (by omega) (gf := 52) (lb := #[.pointer (some ⟨w10.heap.size, 0, none⟩)]) rfl trivial (enters_of Tryd.func52 (by kernel_rfl) rfl)
          (all_stops _ (by omega) w10.heap.size (.slice A l.length c) l (W11.alloc (.cells #[.int .i64 0] 3)) HL.out (boxed_be HBS.out hbn HBS.out.lt).cell (GK.out _ hB11b).2.1 (GK.out _ hB11b).1) KpB.trans KpB.put (Below.refl _ _) (fun _ => rfl)
          2 (fun _ _ h => h)
          (fun pre W => Boxed W W11.heap.size 3 (.int .i64 pre.length) ∧ Below W11.heap.size W11 W ∧ W11.heap.size + 1 ≤ W.heap.size)
          (fun W => Below W11.heap.size W11 W)
          ?hI ?hR ?h0 (fun x b W => True) (fun _ _ _ _ _ _ _ _ _ => trivial) (fun x b a => ((a.setIfInBounds 107 (.int .i64 x.1)).setIfInBounds 108 (opV x.2))) ?assign ?body ?done ?rest
        case hI => exact OwnFrom.and (Own.from (boxed_own _ _ (fun pre : List (Nat × Rd) => .int .i64 pre.length)) _) (OwnFrom.and (ownFrom_below (Nat.le_refl _) (by simp)) (fun s A B row hs hg hr => Nat.le_trans hs hg.size))
        case hR => exact ownFrom_below (Nat.le_refl _) (by simp)
        case h0 => exact ⟨bN, hbn, by simp⟩
        case assign =>
          rintro q pre x W K hI hK
          simp only [encO, opV]
          gi_wp2
          exact hK 0 W (KeepsFrom.refl _ _) (KpB.below (Below.refl _ _)) hI trivial
        case body =>
          rintro q pre x b W hq ⟨r, hr⟩ ⟨bn, hbW, hsW⟩ - hlt
          have hW0 : Below W0.heap.size W0 W := HB11.out.trans (hbW.mono HB11.out.size)
          have hc5 := (cell_of_row _ _ 0 _ _ _ (row_kept hW0 R3.out)).trans rfl
          have hcn := bn.cell
          have hfn := bn.frozen
          have HBN := Lib.hid bn
          have HBW := Lib.hid hbW
          have HSW := Lib.hid hsW
          have HQ := Lib.hid hr
          have hz := HB11.out.size
          have hz1 := HS0.out
          have hle : (pre.length : Int) ≤ 4000 := by omega
          clear bn hbW hsW hr hW0
          gi_wp2_with fail
          · exact ⟨(KeepsOthers.setCell _ _ _).from _, rfl, HBW.out.setCell (p := ⟨W11.heap.size, 0, none⟩) (Nat.le_refl _) _⟩
          · have hset := HBW.out.setCell (p := ⟨W11.heap.size, 0, none⟩) (Nat.le_refl _) (.int .i64 ((pre.length : Int) + 1))
            obtain ⟨g1, g2, _⟩ := GK.out _ (HB11.out.trans (hset.mono HB11.out.size))
            refine ⟨(KeepsOthers.setCell _ _ _).from _, KpB.setBox HBN.out (by decide) (by have := HBS.out.lt; omega) g2 g1, ?_, hset, ?_⟩
            · have := HBN.out.set (.int .i64 ((pre.length : Int) + 1))
              rw [List.length_append]
              exact this
            · have := HSW.out
              simp [World.setCell]
              exact this
        case done =>
          rintro xs W - ⟨_, hbW, _⟩
          exact hbW
        case rest =>
          rintro D W hD hbW hK
          have HBW := Lib.hid (HB11.out.trans (hbW.mono HB11.out.size))
          have bS1 := boxed_be HBS.out hbW HBS.out.lt
          have HBS1 := Lib.hid bS1
          have HK1 := Lib.hid hK
          clear hbW bS1 hK
          go_wp2_with fail
          have bH := Boxed.new W 3 (.int .i64 0)
          have hbh : Below W.heap.size W (W.alloc (.cells #[.int .i64 0] 3)) := (Below.refl _ _).alloc (Nat.le_refl _) _
          have hBb := (HBW.out.alloc HBW.out.size) (.cells #[.int .i64 0] 3)
          refine (wpIn_wide (n := 6)).1 ?_
          refine rangeFunc_fr rfl (by omega) (gf := 52) (lb := #[.pointer (some ⟨w10.heap.size, 0, none⟩)]) rfl trivial (enters_of Tryd.func52 (by kernel_rfl) rfl)
            (all_stopsM _ (by omega) w10.heap.size (.slice A l.length c) l (W.alloc (.cells #[.int .i64 0] 3)) HL.out (boxed_be HBS1.out hbh HBS1.out.lt).cell (GK.out _ hBb).2.1 (GK.out _ hBb).1) KpB.trans KpB.put (Below.refl _ _) (fun _ => rfl)
            (fun pre V => (Boxed V W.heap.size 3 (.int .i64 (endN 0 (pre.map (·.1)) : Nat)) ∧ Chain 0 (pre.map (·.1)) ∧ endN 0 (pre.map (·.1)) ≤ l.length) ∧ Below W.heap.size W V ∧ W.heap.size + 1 ≤ V.heap.size)
            (fun cc pre V => ¬ Chain 0 (pre.map (·.1)))
            ?hI ?hIx ?h0
            (fun x b V => W.heap.size + 1 ≤ b ∧ V.heap[b]? = some (Obj.cells #[.int .i64 x.1.2.code, .int .i64 x.1.2.a, .int .i64 x.1.2.b, .int .i64 x.1.2.size] 25 (0, 0)))
            ?hPa (fun x b a => ((((a.setIfInBounds 115 (.int .i64 x.1.1)).setIfInBounds 116 (opV x.1.2)).setIfInBounds 20 (.int .i64 x.1.1)).setIfInBounds 21 (.pointer (some ⟨b, 0, none⟩)))) ?assign ?body ?done ?stop
          case hI => exact OwnFrom.and (fun pre A B row hs hg hr => ⟨Own.from (boxed_own _ _ (fun pre : List (MOp l) => .int .i64 (endN 0 (pre.map (·.1)) : Nat))) _ pre A B row hs.1 hg hr, hs.2⟩) (OwnFrom.and (ownFrom_below (Nat.le_refl _) (by simp)) (fun s A B row hs hg hr => Nat.le_trans hs hg.size))
          case hIx => exact fun _ _ _ _ _ hs _ _ => hs
          case h0 => exact ⟨⟨bH, trivial, Nat.zero_le _⟩, hbh, by simp⟩
          case hPa => exact fun x b u X Y row hs hg hr => ⟨hs.1, row_own b (fun (_ : Unit) => #[.int .i64 x.1.2.code, .int .i64 x.1.2.a, .int .i64 x.1.2.b, .int .i64 x.1.2.size]) 25 () X Y row hs.2 hg (fun r e => (hr r e).2)⟩
          case assign =>
            rintro q pre x V K ⟨⟨bh, hch, hen⟩, hbV, hsV⟩ hK
            simp only [encO, opV]
            gi_wp2
            exact hK _ _ ((KeepsOthers.alloc _ _).from _) (KpB.below ((Below.refl _ V).alloc (Nat.le_refl _) _)) ⟨⟨bh.alloc _, hch, hen⟩, hbV.alloc hbV.size _, by simp; omega⟩ ⟨hsV, heap_alloc_new V _⟩
          case body =>
            rintro q pre x b V hq ⟨r, hr⟩ ⟨⟨bh, hch, hen⟩, hbV, hsV⟩ ⟨hb1, hbx⟩ hlt
            have hV0 : Below W0.heap.size W0 V := HBW.out.trans (hbV.mono HBW.out.size)
            obtain ⟨gl, gb, cb, zb⟩ := GK.out _ hV0
            obtain ⟨E, hE⟩ : ∃ E, endN 0 (pre.map (·.1)) = E := ⟨_, rfl⟩
            rw [hE] at bh hen
            have hch2 : ∀ y : MOp l, Chain 0 ((pre ++ [y]).map (·.1)) ↔ y.1.1 = E := by
              intro y
              rw [List.map_append, List.map_cons, List.map_nil, chain_snoc, hE]
              exact ⟨fun h => h.2, fun h => ⟨hch, h⟩⟩
            have hen2 : ∀ y : MOp l, endN 0 ((pre ++ [y]).map (·.1)) = E + y.1.2.size.toNat := by
              intro y
              rw [List.map_append, List.map_cons, List.map_nil, endN_snoc, hE]
            clear hE hch
            obtain ⟨⟨p, ⟨code, xa, xb, size, err⟩⟩, hm⟩ := x
            obtain ⟨-, m2, m3, m4⟩ := opsFrom_mem l _ _ _ hm
            dsimp only at m2 m3 m4 hbx
            obtain ⟨z, hz⟩ : ∃ z, readS l E = z := ⟨_, rfl⟩
            have hRr : ∀ V', Byt V' (.slice A l.length c) l → Calls Tryd.prog 14 #[.slice A l.length c, .int .i64 E] V' fun e w' => e = .returned z.val ∧ Below V'.heap.size V' w' := fun V' h => hz ▸ rread_calls _ l E V' h HL.out
            have hch' := hch2 ⟨(p, ⟨code, xa, xb, size, err⟩), hm⟩
            have hen' := hen2 ⟨(p, ⟨code, xa, xb, size, err⟩), hm⟩
            dsimp only at hch' hen'
            have hce := bh.cell
            have hfe := bh.frozen
            have HRR := Lib.hid hRr
            have HCH := Lib.hid hch'
            have HEN := Lib.hid hen'
            have HBH := Lib.hid bh
            have HBV := Lib.hid hbV
            have HV0 := Lib.hid hV0
            have HBX := Lib.hid hbx
            have HGB := Lib.hid gb
            have HQ := Lib.hid hr
            have HZ := Lib.hid hz
            have HM := Lib.hid (And.intro m2 (And.intro m3 m4))
            have HSV := Lib.hid hsV
            have hen0 : (E : Int) ≤ 4000 := by omega
            clear hRr hch' hen' hch2 hen2 bh hbV hV0 hbx gb gl hr hz m2 m3 m4 hsV
            by_cases hpE : p = E
            · subst hpE
              obtain rfl : (⟨code, xa, xb, size, err⟩ : Rd) = z := by rw [← HZ.out, readS_at l p HM.out.1, ← HM.out.2.1]
              have herr : err = 0 := HM.out.2.2
              subst herr
              clear HZ
              have hsz := readAt_size l p (by rw [← HM.out.2.1])
              have hend := readAt_end l p HM.out.1 (by rw [← HM.out.2.1])
              rw [← HM.out.2.1] at hsz hend
              dsimp only at hsz hend
              obtain ⟨s, rfl⟩ := Int.eq_ofNat_of_zero_le (show 0 ≤ size by omega)
              have HEND := Lib.hid hend
              have hs1 : (s : Int) ≤ 3 := by omega
              clear hsz hend
              gi_wp2_with (first | (refine ⟨trivial, ?_⟩; gi_at_call 14; refine (CallsIn.inRound q (callsIn_wide.2 (HRR.out _ HGB.out))).mono ?_; rintro e V1 ⟨rfl, hv1⟩; unfold Rd.val; dsimp only; have HV1 := Lib.hid hv1; clear hv1) | fail)
              have v1 := row_kept HV1.out HBX.out
              have v2 := row_alloc v1 (.cells #[.int .i64 code, .int .i64 xa, .int .i64 xb, .int .i64 s] 29)
              have v3 := heap_alloc_new V1 (.cells #[.int .i64 code, .int .i64 xa, .int .i64 xb, .int .i64 s] 29)
              have v4 := row_alloc (row_kept HV1.out HBH.out) (.cells #[.int .i64 code, .int .i64 xa, .int .i64 xb, .int .i64 s] 29)
              have hv2 := HV1.out.alloc HV1.out.size (.cells #[.int .i64 code, .int .i64 xa, .int .i64 xb, .int .i64 s] 29)
              obtain ⟨V2, hV2⟩ : ∃ V2, V1.alloc (.cells #[.int .i64 code, .int .i64 xa, .int .i64 xb, .int .i64 s] 29) = V2 := ⟨_, rfl⟩
              rw [hV2] at v2 v3 v4 hv2 ⊢
              clear hV2 v1
              obtain ⟨x0, x1, x2, x3⟩ := cells4 v2
              obtain ⟨y0, y1, y2, y3⟩ := cells4 v3
              have ye := (cell_of_row _ _ 0 _ _ _ v4).trans rfl
              have HV2 := Lib.hid hv2
              have R2 := Lib.hid v3
              have R4' := Lib.hid v4
              clear v2 v3 v4 hv2
              gi_cut [135] from 123 (fun s V3 => s = .bool false ∧ Below V2.heap.size V2 V3)
              case first =>
                gi_region_with (refine ⟨trivial, ?_⟩; gi_at_call 15; refine (CallsIn.inRound q (callsIn_wide.2 (of_calls _ _ _ _ _))).mono ?_; rintro e w4 ⟨rfl, hb4⟩; have q0 := cell_be hb4 y0; have q1 := cell_be hb4 y1; have q2 := cell_be hb4 y2; have q3 := cell_be hb4 y3; have HB4 := Lib.hid hb4; clear hb4)
                all_goals (gi_wp2_with fail; gi_meet; refine ⟨?_, ?_⟩)
                all_goals first | rfl | exact ⟨HB4.out.os, HB4.out.tape, HB4.out.output, HB4.out.size, HB4.out.block⟩
              case rest =>
                obtain ⟨rfl, hb5⟩ := hcut
                have q3 := (cell_of_row _ _ 3 _ _ _ (row_kept hb5 R2.out)).trans rfl
                have w5 := row_kept hb5 R4'.out
                have qe := (cell_of_row _ _ 0 _ _ _ w5).trans rfl
                have qf := Boxed.frozen w5
                have W5 := Lib.hid w5
                have HV5 := Lib.hid (HV2.out.trans (hb5.mono HV2.out.size))
                clear hb5 w5 x0 x1 x2 x3 y0 y1 y2 y3 ye
                gi_wp2_with fail
                have hsV : Below W.heap.size W (wc.setCell ⟨W.heap.size, 0, none⟩ (.int .i64 ((p : Int) + s))) := (HBV.out.trans (HV5.out.mono HBV.out.size)).setCell (p := ⟨W.heap.size, 0, none⟩) (Nat.le_refl _) _
                obtain ⟨g1, g2, _⟩ := GK.out _ (HBW.out.trans (hsV.mono HBW.out.size))
                refine ⟨((KeepsOthers.of_below' HV5.out).trans (KeepsOthers.setCell _ _ _)).from _, (KpB.below HV5.out).trans (KpB.setBox W5.out (by decide) (by have := HBS1.out.lt; omega) g2 g1), ⟨?_, HCH.out.2 (by first | trivial | rfl), ?_⟩, hsV, ?_⟩
                · have h1 := W5.out
                  have h2 := Boxed.set (.int .i64 ((p : Int) + s)) (show Boxed wc W.heap.size 3 _ from h1)
                  have h3 := HEN.out
                  rw [Int.toNat_natCast] at h3
                  show Boxed _ _ _ (.int .i64 ((endN 0 _ : Nat) : Int))
                  rw [h3]
                  exact h2
                · have h3 := HEN.out
                  have h4 := HEND.out
                  rw [Int.toNat_natCast] at h3 h4
                  rw [h3]
                  exact h4
                · have h1 := HSV.out
                  have h2 := HV5.out.size
                  simp [World.setCell]
                  omega
            · have hne : ((p : Int) != (E : Int)) = true := by simp; omega
              have hne1 : ((p : Int) == (E : Int)) = false := by simp; omega
              have hne2 : (p != E) = true := by simp; omega
              have hne3 : (p == E) = false := by simp; omega
              obtain ⟨z1, z2, z3, z4, z5⟩ := z
              gi_wp2_with (first | (refine ⟨trivial, ?_⟩; gi_at_call 14; refine (CallsIn.inRound q (callsIn_wide.2 (HRR.out _ HGB.out))).mono ?_; rintro e V1 ⟨rfl, hv1⟩; unfold Rd.val; dsimp only; have HV1 := Lib.hid hv1; clear hv1) | fail)
              have v4 := row_alloc (row_kept HV1.out HBH.out) (.cells #[.int .i64 z1, .int .i64 z2, .int .i64 z3, .int .i64 z4] 29)
              have hv2 := HV1.out.alloc HV1.out.size (.cells #[.int .i64 z1, .int .i64 z2, .int .i64 z3, .int .i64 z4] 29)
              obtain ⟨V2, hV2⟩ : ∃ V2, V1.alloc (.cells #[.int .i64 z1, .int .i64 z2, .int .i64 z3, .int .i64 z4] 29) = V2 := ⟨_, rfl⟩
              rw [hV2] at v4 hv2 ⊢
              clear hV2
              have ye := (cell_of_row _ _ 0 _ _ _ v4).trans rfl
              have HV2 := Lib.hid hv2
              clear v4 hv2
              gi_cut [135] from 123 (fun s V3 => s = .bool true ∧ Below V2.heap.size V2 V3)
              case first =>
                gi_region_with (refine ⟨trivial, ?_⟩)
                all_goals (gi_wp2_with fail; gi_meet; exact ⟨rfl, below_drewN0 (Below.refl _ _) 1⟩)
              case rest =>
                obtain ⟨rfl, hb5⟩ := hcut
                have hv5 : Below V.heap.size V wc := HV2.out.trans (hb5.mono HV2.out.size)
                have hr6 := row_kept (HV0.out.trans (hv5.mono HV0.out.size)) R4.out
                have c6 := Boxed.cell hr6
                have f6 := Boxed.frozen hr6
                have HV5 := Lib.hid hv5
                clear hr6 hb5 hv5
                gi_wp2_with fail
                exact ⟨((KeepsOthers.of_below' HV5.out).trans (KeepsOthers.setCell _ _ _)).from _, fun h => hpE (HCH.out.1 h)⟩
          case done =>
            rintro D2 ys V hD2 rfl ⟨⟨bh, -, hen⟩, hbV, hsV⟩ hK2
            rw [attach_val] at bh hen
            have hV0 : Below W0.heap.size W0 V := HBW.out.trans (hbV.mono HBW.out.size)
            obtain ⟨gl, gb, cb, zb⟩ := GK.out _ hV0
            have hne := read_behind l
            obtain ⟨E, hE⟩ : ∃ E, endN 0 (opsL l) = E := ⟨_, rfl⟩
            rw [hE] at bh hen hne
            obtain ⟨z, hz⟩ : ∃ z, readS l E = z := ⟨_, rfl⟩
            rw [hz] at hne
            have hRr : ∀ V', Byt V' (.slice A l.length c) l → Calls Tryd.prog 14 #[.slice A l.length c, .int .i64 E] V' fun e w' => e = .returned z.val ∧ Below V'.heap.size V' w' := fun V' h => hz ▸ rread_calls _ l E V' h HL.out
            obtain ⟨z1, z2, z3, z4, z5⟩ := z
            dsimp only at hne
            have hb5 : (z5 != 0) = true := by simpa using hne
            have hce := bh.cell
            have hlt1 : D < W.heap.size := (Array.getElem?_eq_some_iff.1 HK1.out).1
            have HRR := Lib.hid hRr
            have HBV := Lib.hid hbV
            have HV0 := Lib.hid hV0
            have HGB := Lib.hid gb
            have HK2 := Lib.hid hK2
            clear hRr bh hbV hV0 gb gl hz hne hsV hK2 hE
            go_wp2_with (first | (go_at_call 14; refine (HRR.out _ HGB.out).mono ?_; rintro e V1 ⟨rfl, hv1⟩; unfold Rd.val; dsimp only; have hr6 := row_kept (HV0.out.trans (hv1.mono HV0.out.size)) R4.out; have c6 := Boxed.cell hr6; have f6 := Boxed.frozen hr6; have HR6 := Lib.hid hr6; have HV1 := Lib.hid hv1; clear hv1 hr6) | fail)
            have k2 := row_kept HV1.out HK2.out
            have k1 := row_kept HV1.out (row_kept' HBV.out hlt1 HK1.out)
            have hz0 := HS0.out
            have hzb := HB11.out.size
            have hD2b : D2 ≠ w.heap.size + 1 + 1 := by
              rintro rfl
              have := HR6.out
              rw [k2] at this
              cases this
            have hDb : D ≠ w.heap.size + 1 + 1 := by
              rintro rfl
              have := HR6.out
              rw [k1] at this
              cases this
            have hDD : D ≠ D2 := by
              have := World.size_alloc W (.cells #[.int .i64 0] 3)
              omega
            refine ⟨by simp, .inl ⟨_, _, rfl, run_takeDeferred ((heap_setCell_other _ ⟨w.heap.size + 1 + 1, 0, none⟩ D2 _ hD2b).trans k2), ?_⟩⟩
            refine ⟨by simp, .inl ⟨_, _, rfl, run_takeDeferred ((World.putObj_heap_other hDD).trans ((heap_setCell_other _ ⟨w.heap.size + 1 + 1, 0, none⟩ D _ hDb).trans k1)), ?_⟩⟩
            have hbx := Boxed.set (.bool true) (show Boxed V1 (w.heap.size + 1 + 1) 4 _ from HR6.out)
            have hby : Boxed (((V1.setCell ⟨w.heap.size + 1 + 1, 0, none⟩ (.bool true)).putObj D2 (.deferred none)).putObj D (.deferred none)) (w.heap.size + 1 + 1) 4 (.bool true) :=
              (World.putObj_heap_other (fun e => hDb e.symm)).trans ((World.putObj_heap_other (fun e => hD2b e.symm)).trans hbx)
            refine ⟨_, results3 rfl hby, rfl, ?_⟩
            have hbv : Below w.heap.size w V1 := HB0.out.trans ((HV0.out.trans (HV1.out.mono HV0.out.size)).mono HB0.out.size)
            have hb1 := hbv.setCell (p := ⟨w.heap.size + 1 + 1, 0, none⟩) (by simp; omega) (.bool true)
            have e2 := (heap_setCell_other V1 ⟨w.heap.size + 1 + 1, 0, none⟩ D2 (.bool true) hD2b).trans k2
            have e1 : ((V1.setCell ⟨w.heap.size + 1 + 1, 0, none⟩ (.bool true)).putObj D2 (.deferred none)).heap[D]? = some (.deferred (some [])) := (World.putObj_heap_other hDD).trans ((heap_setCell_other V1 ⟨w.heap.size + 1 + 1, 0, none⟩ D (.bool true) hDb).trans k1)
            have hwW : w.heap.size ≤ W.heap.size := by have := HBW.out.size; omega
            have s2 := World.size_alloc W (.cells #[.int .i64 0] 3)
            have s1 := World.size_alloc W11 (.cells #[.int .i64 0] 3)
            have b2 := belowK_b (n₀ := w.heap.size) (w := W) hwW _ D2 _ (.deferred none) (by omega) e2 rfl rfl
            have b1 := belowK_b (n₀ := w.heap.size) (w := W11) (by omega) _ D _ (.deferred none) (by omega) e1 rfl rfl
            exact (hb1.trans b2).trans b1
          case stop =>
            rintro D cc pre V - hp hn _
            exact absurd (chain_prefix hp (chain_from l _ _)) hn

theorem reads_long (A : Option Addr) (n c : Nat) (at' stop : Int) (w : World) (hn : 4000 < n) (hG : Glob w) : Calls Tryd.prog 3 #[.slice A n c, .int .i64 at', .int .i64 stop] w (TruePost w) := by
  have ht : decide (4000 < (n : Int)) = true := by simp; omega
  have hB0 : Below w.heap.size w (((w.alloc (.cells #[.slice A n c] 22)).alloc (.cells #[.int .i64 stop] 3)).alloc (.cells #[.bool false] 4)) := (((Below.refl _ w).alloc (Nat.le_refl _) _).alloc (by simp) _).alloc (by simp; omega) _
  have HK := Lib.hid (known_calls _ (hG.below hB0))
  have r22 := row_alloc (row_alloc (heap_alloc_new w (.cells #[.slice A n c] 22)) (.cells #[.int .i64 stop] 3)) (.cells #[.bool false] 4)
  have r4 := heap_alloc_new ((w.alloc (.cells #[.slice A n c] 22)).alloc (.cells #[.int .i64 stop] 3)) (.cells #[.bool false] 4)
  simp only [World.size_alloc] at r4
  have HB0 := Lib.hid hB0
  have R22 := Lib.hid r22
  have R4 := Lib.hid r4
  clear hB0 r22 r4 hG
  go_enter Tryd.func3, Tryd.ntmps3
  go_wp2_with (first | (go_at_call 12; refine HK.out.mono ?_; rintro e w1 ⟨rfl, hb1⟩; have c1 := (cell_of_row _ _ 0 _ _ _ (row_kept hb1 R22.out)).trans rfl; have r6 := row_kept hb1 R4.out; have c6 := Boxed.cell r6; have f6 := Boxed.frozen r6; have R6 := Lib.hid r6; have HB1 := Lib.hid hb1; clear hb1 r6) | fail)
  have hbx := Boxed.set (.bool true) (show Boxed w1 (w.heap.size + 1 + 1) 4 _ from R6.out)
  refine bodyPost_ret (v := .bool true) (results3 rfl hbx) rfl ⟨rfl, ?_⟩
  exact (HB0.out.trans (HB1.out.mono HB0.out.size)).setCell (p := ⟨w.heap.size + 1 + 1, 0, none⟩) (by simp; omega) (.bool true)

/-- Whatever the bytes are. -/
theorem readsLaw_calls (v : Value) (l : List Int) (at' stop : Int) (w : World) (hb : Byt w v l) (hG : Glob w) : Calls Tryd.prog 3 #[v, .int .i64 at', .int .i64 stop] w (TruePost w) := by
  by_cases hl : l.length ≤ 4000
  · exact reads_ok v l at' stop w hl hb hG
  · obtain ⟨A, c, rfl, _⟩ := hb
    exact reads_long A l.length c at' stop w (by omega) hG
end Go.Proofs.YtkphijabhoppnaaDoor
