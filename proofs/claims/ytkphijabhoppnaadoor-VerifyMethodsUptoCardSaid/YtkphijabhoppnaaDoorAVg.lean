/- The shape behind a bytecode (brazier/verify.effect): the ways behind what it takes and puts. -/
import Derived.Test.YtkphijabhoppnaaDoorAVf
namespace Go.Proofs.YtkphijabhoppnaaDoor
open Go.RowKit Go.Proofs.YtkphijabhoppnaaDoorW.PrintWords
set_option linter.unusedSimpArgs false
set_option linter.unusedVariables false
theorem RI_own {w : World} {base : Nat} {A : Option Addr} {c : Nat} {l : List Int} (h : w.ownsRow base 3 1 (.slice A l.length c) l.length (nums .i64 l)) : Kd.C (Kd.int .i64) w A l.length l := by
  obtain ⟨A', c', e, -, h3⟩ := RI.of_own h
  injection e with e1 _ _
  subst e1
  exact h3
section
variable {w : World} {A0 A1 A2 B0 B2 B4 S0 : Option Addr} {c0 c1 c2 d0 d2 d4 sc : Nat} {p : Pg} {m : Meth}
theorem cells3V {W : World} {g : Nat} {x y z : Value} {q : TypeId} {fr : Nat × Nat} (h : W.heap[g]? = some (Obj.cells #[x, y, z] q fr)) : W.cell? ⟨g, 0, none⟩ = some x ∧ W.cell? ⟨g, 1, none⟩ = some y ∧ W.cell? ⟨g, 2, none⟩ = some z :=
  ⟨(cell_of_row _ _ 0 _ _ _ h).trans rfl, (cell_of_row _ _ 1 _ _ _ h).trans rfl, (cell_of_row _ _ 2 _ _ _ h).trans rfl⟩
theorem cells5V {W : World} {g : Nat} {x y z t u : Value} {q : TypeId} {fr : Nat × Nat} (h : W.heap[g]? = some (Obj.cells #[x, y, z, t, u] q fr)) : W.cell? ⟨g, 0, none⟩ = some x ∧ W.cell? ⟨g, 1, none⟩ = some y ∧ W.cell? ⟨g, 2, none⟩ = some z ∧ W.cell? ⟨g, 3, none⟩ = some t ∧ W.cell? ⟨g, 4, none⟩ = some u :=
  ⟨(cell_of_row _ _ 0 _ _ _ h).trans rfl, (cell_of_row _ _ 1 _ _ _ h).trans rfl, (cell_of_row _ _ 2 _ _ _ h).trans rfl, (cell_of_row _ _ 3 _ _ _ h).trans rfl, (cell_of_row _ _ 4 _ _ _ h).trans rfl⟩
theorem i3E : ∃ i, Tryd.prog.info? 3 = some i ∧ i.size = 1 := by
  obtain ⟨i0, hi, hz⟩ := Option.map_eq_some_iff.1 info3V
  simp only [Prod.mk.injEq] at hz
  exact ⟨i0, hi, hz.2.1⟩
set_option maxRecDepth 100000 in
set_option maxHeartbeats 1600000 in
theorem effect_lo_few (c a b o : Int) (s : List Int) (h : Int) (hc : 0 ≤ c ∧ c < 6) (hn : namedS p m c a b = true) (hp : PgC w A0 c0 A1 c1 A2 c2 p) (hm : MtC w B0 d0 B2 d2 B4 d4 m) (ha : I64 a) (t u : List Int) (htu : movesS p m c a b = (t, u)) (htl : t.length ≤ 100000) (hul : u.length ≤ 100000)
    (h0 : 0 ≤ h) (h10 : h ≤ 10) (hfew : s.length < t.length) (hs : Kd.C (Kd.int .i64) w S0 s.length s) (hsc : s.length ≤ sc) (hl : s.length ≤ 100000) :
    Calls Tryd.prog 60 #[.agg #[.slice A0 p.pool.length c0, .slice A1 p.classes.length c1, .slice A2 p.methods.length c2], .agg #[.slice B0 m.f0.length d0, .int .i64 m.f1, .slice B2 m.f2.length d2, .int .i64 m.f3, .slice B4 m.f4.length d4], .agg #[.int .i64 c, .int .i64 a, .int .i64 b, .int .i64 o], .agg #[.slice S0 s.length sc, .int .i64 h]] w (EffPost w (([], 0), 22)) := by
  have hg : decide (6 ≤ c) = false := by simp; omega
  have he : (c == 36) = false := by simp; omega
  have he2 : (c == 37) = false := by simp; omega
  have hmv : ∀ W, PgC W A0 c0 A1 c1 A2 c2 p → MtC W B0 d0 B2 d2 B4 d4 m → Calls Tryd.prog 111 #[.agg #[.slice A0 p.pool.length c0, .slice A1 p.classes.length c1, .slice A2 p.methods.length c2], .agg #[.slice B0 m.f0.length d0, .int .i64 m.f1, .slice B2 m.f2.length d2, .int .i64 m.f3, .slice B4 m.f4.length d4], .agg #[.int .i64 c, .int .i64 a, .int .i64 b, .int .i64 o]] W (MvPost W t u) := fun W h1 h2 => by
    have := moves_calls (w := W) c a b o (by omega) (by omega) (by omega) hn h1 h2 ha
    rw [htu] at this
    exact this
  have HMV := Lib.hid hmv
  have HP := Lib.hid hp
  have HM := Lib.hid hm
  clear hmv hp hm hn htu ha
  obtain ⟨hb5, hz5, r1, r2, r3, r4, r5⟩ := alloc5 w (obP A0 c0 A1 c1 A2 c2 p) (obM B0 d0 B2 d2 B4 d4 m) (obO c a b o) (obS S0 s.length sc h) obZ
  have HB5 := Lib.hid hb5
  have HS := Lib.hid hs
  have R1 := Lib.hid r1
  have R2 := Lib.hid r2
  have R3 := Lib.hid r3
  have R4 := Lib.hid r4
  have R5 := Lib.hid r5
  have HZ := Lib.hid hz5
  clear hb5 hz5 r1 r2 r3 r4 r5 hs
  go_enter Tryd.func60, Tryd.ntmps60
  go_wp2_with fail
  generalize ((((w.alloc (obP A0 c0 A1 c1 A2 c2 p)).alloc (obM B0 d0 B2 d2 B4 d4 m)).alloc (obO c a b o)).alloc (obS S0 s.length sc h)).alloc obZ = W at HB5 R1 R2 R3 R4 R5 HZ ⊢
  refine (clone_calls (Kd.C_below HS.out HB5.out) (by omega)).mono ?_
  rintro e w1 ⟨v1, rfl, ho1, hb1⟩
  obtain ⟨o0, o1, o2, o3⟩ := cellsV (row_kept hb1 R3.out)
  obtain ⟨s0, s1⟩ := cells2V (row_kept hb1 R4.out)
  obtain ⟨z0, z1⟩ := cells2V (row_kept hb1 R5.out)
  have HO1 := Lib.hid ho1
  have HB1 := Lib.hid hb1
  clear ho1 hb1
  obtain ⟨p0, p1, p2⟩ := cells3V (row_kept HB1.out R1.out)
  obtain ⟨m0, m1, m2, m3, m4⟩ := cells5V (row_kept HB1.out R2.out)
  go_wp2_with fail
  have HB2 := Lib.hid (HB5.out.trans (HB1.out.mono HB5.out.size))
  refine (HMV.out _ (HP.out.below HB2.out) (HM.out.below HB2.out)).mono ?_
  rintro e w2 ⟨v2, v3, rfl, ⟨T, tc, rfl, htc, hT⟩, ⟨U, uc, rfl, huc, hU⟩, hb2⟩
  obtain ⟨A, cc, rfl⟩ := own_slice HO1.out
  have hcc : s.length ≤ cc := by
    rcases HO1.out.2 with ⟨he, hn0⟩ | ⟨g, cap, cur, he, -, -, h3, -, -⟩
    · injection he with _ _ e3; omega
    · injection he with _ _ e3; omega
  have HT := Lib.hid hT
  have HU := Lib.hid hU
  have HB3 := Lib.hid (HB1.out.trans (hb2.mono HB1.out.size))
  have HO2 := Lib.hid (pw_own_below HO1.out hb2)
  have z5 := row_kept HB3.out R5.out
  have Z5 := Lib.hid z5
  have f0 := Lib.frozen_of_heap z5 0
  have f1 := Lib.frozen_of_heap z5 1
  clear o0 o1 o2 o3 s0 s1 z0 z1 p0 p1 p2 m0 m1 m2 m3 m4
  obtain ⟨z0, z1⟩ := cells2V z5
  obtain ⟨o0, o1, o2, o3⟩ := cellsV (row_kept HB3.out R3.out)
  obtain ⟨s0, s1⟩ := cells2V (row_kept HB3.out R4.out)
  clear hT hU hb2 z5
  have hz5 := HZ.out
  have hlt : ((s.length : Int) - (t.length : Int)) < 0 := by omega
  go_wp2_with fail
  exact bodyPost_ret (v := .tuple #[.agg #[.slice none 0 0, .int .i64 0], .int .i64 22]) (results60 rfl rfl rfl (set2V Z5.out _ _)) rfl ⟨_, rfl, ⟨rfl, .inl ⟨rfl, rfl⟩⟩, below_set2 (HB5.out.trans (HB3.out.mono HB5.out.size)) (by omega) _ _⟩
set_option maxRecDepth 100000 in
set_option maxHeartbeats 1600000 in
theorem effect_lo_type (c a b o : Int) (s : List Int) (h : Int) (hc : 0 ≤ c ∧ c < 6) (hn : namedS p m c a b = true) (hp : PgC w A0 c0 A1 c1 A2 c2 p) (hm : MtC w B0 d0 B2 d2 B4 d4 m) (ha : I64 a) (t u : List Int) (htu : movesS p m c a b = (t, u)) (htl : t.length ≤ 100000) (hul : u.length ≤ 100000)
    (h0 : 0 ≤ h) (h10 : h ≤ 10) (hlen : t.length ≤ s.length) (hne : s.drop (s.length - t.length) ≠ t) (hs : Kd.C (Kd.int .i64) w S0 s.length s) (hsc : s.length ≤ sc) (hl : s.length ≤ 100000) :
    Calls Tryd.prog 60 #[.agg #[.slice A0 p.pool.length c0, .slice A1 p.classes.length c1, .slice A2 p.methods.length c2], .agg #[.slice B0 m.f0.length d0, .int .i64 m.f1, .slice B2 m.f2.length d2, .int .i64 m.f3, .slice B4 m.f4.length d4], .agg #[.int .i64 c, .int .i64 a, .int .i64 b, .int .i64 o], .agg #[.slice S0 s.length sc, .int .i64 h]] w (EffPost w (([], 0), 21)) := by
  have hg : decide (6 ≤ c) = false := by simp; omega
  have he : (c == 36) = false := by simp; omega
  have he2 : (c == 37) = false := by simp; omega
  have hmv : ∀ W, PgC W A0 c0 A1 c1 A2 c2 p → MtC W B0 d0 B2 d2 B4 d4 m → Calls Tryd.prog 111 #[.agg #[.slice A0 p.pool.length c0, .slice A1 p.classes.length c1, .slice A2 p.methods.length c2], .agg #[.slice B0 m.f0.length d0, .int .i64 m.f1, .slice B2 m.f2.length d2, .int .i64 m.f3, .slice B4 m.f4.length d4], .agg #[.int .i64 c, .int .i64 a, .int .i64 b, .int .i64 o]] W (MvPost W t u) := fun W h1 h2 => by
    have := moves_calls (w := W) c a b o (by omega) (by omega) (by omega) hn h1 h2 ha
    rw [htu] at this
    exact this
  have HMV := Lib.hid hmv
  have HP := Lib.hid hp
  have HM := Lib.hid hm
  clear hmv hp hm hn htu ha
  obtain ⟨hb5, hz5, r1, r2, r3, r4, r5⟩ := alloc5 w (obP A0 c0 A1 c1 A2 c2 p) (obM B0 d0 B2 d2 B4 d4 m) (obO c a b o) (obS S0 s.length sc h) obZ
  have HB5 := Lib.hid hb5
  have HS := Lib.hid hs
  have R1 := Lib.hid r1
  have R2 := Lib.hid r2
  have R3 := Lib.hid r3
  have R4 := Lib.hid r4
  have R5 := Lib.hid r5
  have HZ := Lib.hid hz5
  clear hb5 hz5 r1 r2 r3 r4 r5 hs
  go_enter Tryd.func60, Tryd.ntmps60
  go_wp2_with fail
  generalize ((((w.alloc (obP A0 c0 A1 c1 A2 c2 p)).alloc (obM B0 d0 B2 d2 B4 d4 m)).alloc (obO c a b o)).alloc (obS S0 s.length sc h)).alloc obZ = W at HB5 R1 R2 R3 R4 R5 HZ ⊢
  refine (clone_calls (Kd.C_below HS.out HB5.out) (by omega)).mono ?_
  rintro e w1 ⟨v1, rfl, ho1, hb1⟩
  obtain ⟨o0, o1, o2, o3⟩ := cellsV (row_kept hb1 R3.out)
  obtain ⟨s0, s1⟩ := cells2V (row_kept hb1 R4.out)
  obtain ⟨z0, z1⟩ := cells2V (row_kept hb1 R5.out)
  have HO1 := Lib.hid ho1
  have HB1 := Lib.hid hb1
  clear ho1 hb1
  obtain ⟨p0, p1, p2⟩ := cells3V (row_kept HB1.out R1.out)
  obtain ⟨m0, m1, m2, m3, m4⟩ := cells5V (row_kept HB1.out R2.out)
  go_wp2_with fail
  have HB2 := Lib.hid (HB5.out.trans (HB1.out.mono HB5.out.size))
  refine (HMV.out _ (HP.out.below HB2.out) (HM.out.below HB2.out)).mono ?_
  rintro e w2 ⟨v2, v3, rfl, ⟨T, tc, rfl, htc, hT⟩, ⟨U, uc, rfl, huc, hU⟩, hb2⟩
  obtain ⟨A, cc, rfl⟩ := own_slice HO1.out
  have hcc : s.length ≤ cc := by
    rcases HO1.out.2 with ⟨he, hn0⟩ | ⟨g, cap, cur, he, -, -, h3, -, -⟩
    · injection he with _ _ e3; omega
    · injection he with _ _ e3; omega
  have HT := Lib.hid hT
  have HU := Lib.hid hU
  have HB3 := Lib.hid (HB1.out.trans (hb2.mono HB1.out.size))
  have HO2 := Lib.hid (pw_own_below HO1.out hb2)
  have z5 := row_kept HB3.out R5.out
  have Z5 := Lib.hid z5
  have f0 := Lib.frozen_of_heap z5 0
  have f1 := Lib.frozen_of_heap z5 1
  clear o0 o1 o2 o3 s0 s1 z0 z1 p0 p1 p2 m0 m1 m2 m3 m4
  obtain ⟨z0, z1⟩ := cells2V z5
  obtain ⟨o0, o1, o2, o3⟩ := cellsV (row_kept HB3.out R3.out)
  obtain ⟨s0, s1⟩ := cells2V (row_kept HB3.out R4.out)
  clear hT hU hb2 z5
  have hz5 := HZ.out
  have hq : decide (s.drop (s.length - t.length) = t) = false := decide_eq_false hne
  clear hne
  have hsub : ((s.length : Int) - (t.length : Int)).toNat = s.length - t.length := by omega
  obtain ⟨i0, hi0, hsz0⟩ := i3E
  have hcut := cut_from (P := Tryd.prog) 33 3 .i64 Tryd.underlying33 hi0 1 hsz0 A s.length cc ((s.length : Int) - (t.length : Int)) (by omega) (by omega)
  have hC := Kd.C_drop (k := Kd.int .i64) (m := s.length - t.length) (c := cc) (RI_own HO2.out) (by omega) hcc
  have hd : (s.drop (s.length - t.length)).length = s.length - ((s.length : Int) - (t.length : Int)).toNat := by rw [List.length_drop, hsub]
  rw [← hd, hsub] at hcut
  change (Kd.int .i64).C w2 (if cc = s.length - t.length then A else Option.map (fun x => x.add ((s.length - t.length) * 1)) A) _ _ at hC
  generalize (if cc = s.length - t.length then A else Option.map (fun x => x.add ((s.length - t.length) * 1)) A) = A' at hcut hC
  have hdc : (s.drop (s.length - t.length)).length ≤ cc - (s.length - t.length) := by rw [List.length_drop]; omega
  have hEq : Calls Tryd.prog 112 #[.slice A' (s.length - (s.length - t.length)) (cc - (s.length - t.length)), .slice T t.length tc] w2 fun e w' => e = .returned (.bool false) ∧ Below w2.heap.size w2 w' := by
    have := equal_calls (c := cc - (s.length - t.length)) (d := tc) hC hdc HT.out htc (by rw [List.length_drop]; omega)
    rw [List.length_drop, hq] at this
    exact this
  have HEQ := Lib.hid hEq
  clear hC hEq hd hdc hsub hq
  have hge : decide ((s.length : Int) - (t.length : Int) < 0) = false := by simp; omega
  go_wp2_with fail
  refine HEQ.out.mono ?_
  rintro e w3 ⟨rfl, hb3⟩
  have HB4 := Lib.hid (HB3.out.trans (hb3.mono HB3.out.size))
  have HO3 := Lib.hid (pw_own_below HO2.out hb3)
  clear z0 z1 o0 o1 o2 o3 s0 s1 f0 f1
  have z5 := row_kept HB4.out R5.out
  clear Z5
  have Z5 := Lib.hid z5
  have f0 := Lib.frozen_of_heap z5 0
  have f1 := Lib.frozen_of_heap z5 1
  obtain ⟨z0, z1⟩ := cells2V z5
  obtain ⟨o0, o1, o2, o3⟩ := cellsV (row_kept HB4.out R3.out)
  obtain ⟨s0, s1⟩ := cells2V (row_kept HB4.out R4.out)
  have hU3 := HU.out
  have HU3 := Lib.hid (Kd.C_below hU3 hb3)
  clear hb3 z5 hU3 HU
  go_wp2_with fail
  exact bodyPost_ret (v := .tuple #[.agg #[.slice none 0 0, .int .i64 0], .int .i64 21]) (results60 rfl rfl rfl (set2V Z5.out _ _)) rfl ⟨_, rfl, ⟨rfl, .inl ⟨rfl, rfl⟩⟩, below_set2 (HB5.out.trans (HB4.out.mono HB5.out.size)) (by omega) _ _⟩
set_option maxRecDepth 100000 in
set_option maxHeartbeats 1600000 in
theorem effect_lo_ok (c a b o : Int) (s : List Int) (h : Int) (hc : 0 ≤ c ∧ c < 6) (hn : namedS p m c a b = true) (hp : PgC w A0 c0 A1 c1 A2 c2 p) (hm : MtC w B0 d0 B2 d2 B4 d4 m) (ha : I64 a) (t u : List Int) (htu : movesS p m c a b = (t, u)) (htl : t.length ≤ 100000) (hul : u.length ≤ 100000)
    (h0 : 0 ≤ h) (h10 : h ≤ 10) (hlen : t.length ≤ s.length) (heq : s.drop (s.length - t.length) = t) (hs : Kd.C (Kd.int .i64) w S0 s.length s) (hsc : s.length ≤ sc) (hl : s.length ≤ 100000) :
    Calls Tryd.prog 60 #[.agg #[.slice A0 p.pool.length c0, .slice A1 p.classes.length c1, .slice A2 p.methods.length c2], .agg #[.slice B0 m.f0.length d0, .int .i64 m.f1, .slice B2 m.f2.length d2, .int .i64 m.f3, .slice B4 m.f4.length d4], .agg #[.int .i64 c, .int .i64 a, .int .i64 b, .int .i64 o], .agg #[.slice S0 s.length sc, .int .i64 h]] w (EffPost w ((s.take (s.length - t.length) ++ u, h), 0)) := by
  have hg : decide (6 ≤ c) = false := by simp; omega
  have he : (c == 36) = false := by simp; omega
  have he2 : (c == 37) = false := by simp; omega
  have hmv : ∀ W, PgC W A0 c0 A1 c1 A2 c2 p → MtC W B0 d0 B2 d2 B4 d4 m → Calls Tryd.prog 111 #[.agg #[.slice A0 p.pool.length c0, .slice A1 p.classes.length c1, .slice A2 p.methods.length c2], .agg #[.slice B0 m.f0.length d0, .int .i64 m.f1, .slice B2 m.f2.length d2, .int .i64 m.f3, .slice B4 m.f4.length d4], .agg #[.int .i64 c, .int .i64 a, .int .i64 b, .int .i64 o]] W (MvPost W t u) := fun W h1 h2 => by
    have := moves_calls (w := W) c a b o (by omega) (by omega) (by omega) hn h1 h2 ha
    rw [htu] at this
    exact this
  have HMV := Lib.hid hmv
  have HP := Lib.hid hp
  have HM := Lib.hid hm
  clear hmv hp hm hn htu ha
  obtain ⟨hb5, hz5, r1, r2, r3, r4, r5⟩ := alloc5 w (obP A0 c0 A1 c1 A2 c2 p) (obM B0 d0 B2 d2 B4 d4 m) (obO c a b o) (obS S0 s.length sc h) obZ
  have HB5 := Lib.hid hb5
  have HS := Lib.hid hs
  have R1 := Lib.hid r1
  have R2 := Lib.hid r2
  have R3 := Lib.hid r3
  have R4 := Lib.hid r4
  have R5 := Lib.hid r5
  have HZ := Lib.hid hz5
  clear hb5 hz5 r1 r2 r3 r4 r5 hs
  go_enter Tryd.func60, Tryd.ntmps60
  go_wp2_with fail
  generalize ((((w.alloc (obP A0 c0 A1 c1 A2 c2 p)).alloc (obM B0 d0 B2 d2 B4 d4 m)).alloc (obO c a b o)).alloc (obS S0 s.length sc h)).alloc obZ = W at HB5 R1 R2 R3 R4 R5 HZ ⊢
  refine (clone_calls (Kd.C_below HS.out HB5.out) (by omega)).mono ?_
  rintro e w1 ⟨v1, rfl, ho1, hb1⟩
  obtain ⟨o0, o1, o2, o3⟩ := cellsV (row_kept hb1 R3.out)
  obtain ⟨s0, s1⟩ := cells2V (row_kept hb1 R4.out)
  obtain ⟨z0, z1⟩ := cells2V (row_kept hb1 R5.out)
  have HO1 := Lib.hid ho1
  have HB1 := Lib.hid hb1
  clear ho1 hb1
  obtain ⟨p0, p1, p2⟩ := cells3V (row_kept HB1.out R1.out)
  obtain ⟨m0, m1, m2, m3, m4⟩ := cells5V (row_kept HB1.out R2.out)
  go_wp2_with fail
  have HB2 := Lib.hid (HB5.out.trans (HB1.out.mono HB5.out.size))
  refine (HMV.out _ (HP.out.below HB2.out) (HM.out.below HB2.out)).mono ?_
  rintro e w2 ⟨v2, v3, rfl, ⟨T, tc, rfl, htc, hT⟩, ⟨U, uc, rfl, huc, hU⟩, hb2⟩
  obtain ⟨A, cc, rfl⟩ := own_slice HO1.out
  have hcc : s.length ≤ cc := by
    rcases HO1.out.2 with ⟨he, hn0⟩ | ⟨g, cap, cur, he, -, -, h3, -, -⟩
    · injection he with _ _ e3; omega
    · injection he with _ _ e3; omega
  have HT := Lib.hid hT
  have HU := Lib.hid hU
  have HB3 := Lib.hid (HB1.out.trans (hb2.mono HB1.out.size))
  have HO2 := Lib.hid (pw_own_below HO1.out hb2)
  have z5 := row_kept HB3.out R5.out
  have Z5 := Lib.hid z5
  have f0 := Lib.frozen_of_heap z5 0
  have f1 := Lib.frozen_of_heap z5 1
  clear o0 o1 o2 o3 s0 s1 z0 z1 p0 p1 p2 m0 m1 m2 m3 m4
  obtain ⟨z0, z1⟩ := cells2V z5
  obtain ⟨o0, o1, o2, o3⟩ := cellsV (row_kept HB3.out R3.out)
  obtain ⟨s0, s1⟩ := cells2V (row_kept HB3.out R4.out)
  clear hT hU hb2 z5
  have hz5 := HZ.out
  have hq : decide (s.drop (s.length - t.length) = t) = true := decide_eq_true heq
  clear heq
  have hsub : ((s.length : Int) - (t.length : Int)).toNat = s.length - t.length := by omega
  obtain ⟨i0, hi0, hsz0⟩ := i3E
  have hcut := cut_from (P := Tryd.prog) 33 3 .i64 Tryd.underlying33 hi0 1 hsz0 A s.length cc ((s.length : Int) - (t.length : Int)) (by omega) (by omega)
  have hC := Kd.C_drop (k := Kd.int .i64) (m := s.length - t.length) (c := cc) (RI_own HO2.out) (by omega) hcc
  have hd : (s.drop (s.length - t.length)).length = s.length - ((s.length : Int) - (t.length : Int)).toNat := by rw [List.length_drop, hsub]
  rw [← hd, hsub] at hcut
  change (Kd.int .i64).C w2 (if cc = s.length - t.length then A else Option.map (fun x => x.add ((s.length - t.length) * 1)) A) _ _ at hC
  generalize (if cc = s.length - t.length then A else Option.map (fun x => x.add ((s.length - t.length) * 1)) A) = A' at hcut hC
  have hdc : (s.drop (s.length - t.length)).length ≤ cc - (s.length - t.length) := by rw [List.length_drop]; omega
  have hEq : Calls Tryd.prog 112 #[.slice A' (s.length - (s.length - t.length)) (cc - (s.length - t.length)), .slice T t.length tc] w2 fun e w' => e = .returned (.bool true) ∧ Below w2.heap.size w2 w' := by
    have := equal_calls (c := cc - (s.length - t.length)) (d := tc) hC hdc HT.out htc (by rw [List.length_drop]; omega)
    rw [List.length_drop, hq] at this
    exact this
  have HEQ := Lib.hid hEq
  clear hC hEq hd hdc hsub hq
  have hge : decide ((s.length : Int) - (t.length : Int) < 0) = false := by simp; omega
  go_wp2_with fail
  refine HEQ.out.mono ?_
  rintro e w3 ⟨rfl, hb3⟩
  have HB4 := Lib.hid (HB3.out.trans (hb3.mono HB3.out.size))
  have HO3 := Lib.hid (pw_own_below HO2.out hb3)
  clear z0 z1 o0 o1 o2 o3 s0 s1 f0 f1
  have z5 := row_kept HB4.out R5.out
  clear Z5
  have Z5 := Lib.hid z5
  have f0 := Lib.frozen_of_heap z5 0
  have f1 := Lib.frozen_of_heap z5 1
  obtain ⟨z0, z1⟩ := cells2V z5
  obtain ⟨o0, o1, o2, o3⟩ := cellsV (row_kept HB4.out R3.out)
  obtain ⟨s0, s1⟩ := cells2V (row_kept HB4.out R4.out)
  have hU3 := HU.out
  have HU3 := Lib.hid (Kd.C_below hU3 hb3)
  clear hb3 z5 hU3 HU
  obtain ⟨i0, hi0, hsz0⟩ := i3E
  have hcut2 := cut_to (P := Tryd.prog) 33 3 .i64 Tryd.underlying33 hi0 A s.length cc ((s.length : Int) - (t.length : Int)) (by omega) (by omega) hcc
  have hsub : ((s.length : Int) - (t.length : Int)).toNat = s.length - t.length := by omega
  rw [hsub] at hcut2
  have hTK : Kd.R (Kd.int .i64) 3 w3 W.heap.size (fun _ => True) (.slice A (s.length - t.length) cc) (s.take (s.length - t.length)) := by
    have h1 := own_take HO3.out (m := s.length - t.length) (by omega)
    refine Kd.R_of_own (enc := Value.int .i64) (h1 := fun _ => rfl) ?_ (fun _ _ => trivial)
    rw [List.length_take, Nat.min_eq_left (by omega)]
    rw [Nat.mul_one] at h1
    simpa [nums, encs, List.map_take] using h1
  have HTK := Lib.hid hTK
  have hlt : ((s.take (s.length - t.length)).length + u.length) * 8 ≤ 140737488355328 := by rw [List.length_take]; omega
  have HLT := Lib.hid hlt
  have hs4 := HB4.out.size
  clear hTK hlt hsub
  go_upto_region 21 with (fail)
  go_wp2_with (at_builtin; refine Kd.R_append_rows (Kd.int .i64) W.heap.size rfl (.tmp 90) (.tmp 91) 33 3 (.int .i64 0) 8 rfl Tryd.underlying33 info3V rfl (by decide) (by decide) (.slice A (s.length - t.length) cc) (s.take (s.length - t.length)) u U u.length uc (fun _ => True) (fun k => some k ≠ (Value.slice A (s.length - t.length) cc).ownBlock) rfl rfl HTK.out HU3.out (fun _ _ h => h) (fun k h => ⟨trivial, h⟩) (fun _ _ => trivial) HB4.out hs4 HLT.out ?_; intro v5 w5 ho5 hb5 _ _; obtain ⟨A5, c5, rfl⟩ := Kd.R_slice ho5; have HO5 := Lib.hid (Kd.own_of_R ho5); have HB6 := Lib.hid hb5; clear z0 z1 o0 o1 o2 o3 s0 s1 f0 f1; have z5 := row_kept hb5 R5.out; have Z6 := Lib.hid z5; have f0 := Lib.frozen_of_heap z5 0; have f1 := Lib.frozen_of_heap z5 1; obtain ⟨z0, z1⟩ := cells2V z5; clear ho5 hb5 z5)
  have hL : (s.take (s.length - t.length) ++ u).length = s.length - t.length + u.length := by rw [List.length_append, List.length_take]; omega
  have hown : w5.ownsRow W.heap.size 3 1 (.slice A5 (s.length - t.length + u.length) c5) (s.take (s.length - t.length) ++ u).length (nums .i64 (s.take (s.length - t.length) ++ u)) := by
    have := HO5.out
    rw [hL] at this ⊢
    exact this
  exact bodyPost_ret (v := .tuple #[.agg #[.slice A5 (s.length - t.length + u.length) c5, .int .i64 (h)], .int .i64 0]) (results60 rfl rfl rfl (set2V Z6.out _ _)) rfl ⟨_, rfl, row_base (own_set2 hown (by omega) _ _) HB5.out.size, below_set2 (HB5.out.trans (HB6.out.mono HB5.out.size)) (by omega) _ _⟩
set_option maxRecDepth 100000 in
set_option maxHeartbeats 1600000 in
theorem effect_hi_few (c a b o : Int) (s : List Int) (h : Int) (hc : 8 < c ∧ c ≤ 40) (hc2 : c ≠ 36 ∧ c ≠ 37) (hn : namedS p m c a b = true) (hp : PgC w A0 c0 A1 c1 A2 c2 p) (hm : MtC w B0 d0 B2 d2 B4 d4 m) (ha : I64 a) (t u : List Int) (htu : movesS p m c a b = (t, u)) (htl : t.length ≤ 100000) (hul : u.length ≤ 100000)
    (h0 : 0 ≤ h) (h10 : h ≤ 10) (hfew : s.length < t.length) (hs : Kd.C (Kd.int .i64) w S0 s.length s) (hsc : s.length ≤ sc) (hl : s.length ≤ 100000) :
    Calls Tryd.prog 60 #[.agg #[.slice A0 p.pool.length c0, .slice A1 p.classes.length c1, .slice A2 p.methods.length c2], .agg #[.slice B0 m.f0.length d0, .int .i64 m.f1, .slice B2 m.f2.length d2, .int .i64 m.f3, .slice B4 m.f4.length d4], .agg #[.int .i64 c, .int .i64 a, .int .i64 b, .int .i64 o], .agg #[.slice S0 s.length sc, .int .i64 h]] w (EffPost w (([], 0), 22)) := by
  have hg : decide (6 ≤ c) = true := by simp; omega
  have hg2 : decide (c ≤ 8) = false := by simp; omega
  have he : (c == 36) = false := by simp; omega
  have he2 : (c == 37) = false := by simp; omega
  have hmv : ∀ W, PgC W A0 c0 A1 c1 A2 c2 p → MtC W B0 d0 B2 d2 B4 d4 m → Calls Tryd.prog 111 #[.agg #[.slice A0 p.pool.length c0, .slice A1 p.classes.length c1, .slice A2 p.methods.length c2], .agg #[.slice B0 m.f0.length d0, .int .i64 m.f1, .slice B2 m.f2.length d2, .int .i64 m.f3, .slice B4 m.f4.length d4], .agg #[.int .i64 c, .int .i64 a, .int .i64 b, .int .i64 o]] W (MvPost W t u) := fun W h1 h2 => by
    have := moves_calls (w := W) c a b o (by omega) (by omega) (by omega) hn h1 h2 ha
    rw [htu] at this
    exact this
  have HMV := Lib.hid hmv
  have HP := Lib.hid hp
  have HM := Lib.hid hm
  clear hmv hp hm hn htu ha hc2
  obtain ⟨hb5, hz5, r1, r2, r3, r4, r5⟩ := alloc5 w (obP A0 c0 A1 c1 A2 c2 p) (obM B0 d0 B2 d2 B4 d4 m) (obO c a b o) (obS S0 s.length sc h) obZ
  have HB5 := Lib.hid hb5
  have HS := Lib.hid hs
  have R1 := Lib.hid r1
  have R2 := Lib.hid r2
  have R3 := Lib.hid r3
  have R4 := Lib.hid r4
  have R5 := Lib.hid r5
  have HZ := Lib.hid hz5
  clear hb5 hz5 r1 r2 r3 r4 r5 hs
  go_enter Tryd.func60, Tryd.ntmps60
  go_wp2_with fail
  generalize ((((w.alloc (obP A0 c0 A1 c1 A2 c2 p)).alloc (obM B0 d0 B2 d2 B4 d4 m)).alloc (obO c a b o)).alloc (obS S0 s.length sc h)).alloc obZ = W at HB5 R1 R2 R3 R4 R5 HZ ⊢
  refine (clone_calls (Kd.C_below HS.out HB5.out) (by omega)).mono ?_
  rintro e w1 ⟨v1, rfl, ho1, hb1⟩
  obtain ⟨o0, o1, o2, o3⟩ := cellsV (row_kept hb1 R3.out)
  obtain ⟨s0, s1⟩ := cells2V (row_kept hb1 R4.out)
  obtain ⟨z0, z1⟩ := cells2V (row_kept hb1 R5.out)
  have HO1 := Lib.hid ho1
  have HB1 := Lib.hid hb1
  clear ho1 hb1
  obtain ⟨p0, p1, p2⟩ := cells3V (row_kept HB1.out R1.out)
  obtain ⟨m0, m1, m2, m3, m4⟩ := cells5V (row_kept HB1.out R2.out)
  go_wp2_with fail
  have HB2 := Lib.hid (HB5.out.trans (HB1.out.mono HB5.out.size))
  refine (HMV.out _ (HP.out.below HB2.out) (HM.out.below HB2.out)).mono ?_
  rintro e w2 ⟨v2, v3, rfl, ⟨T, tc, rfl, htc, hT⟩, ⟨U, uc, rfl, huc, hU⟩, hb2⟩
  obtain ⟨A, cc, rfl⟩ := own_slice HO1.out
  have hcc : s.length ≤ cc := by
    rcases HO1.out.2 with ⟨he, hn0⟩ | ⟨g, cap, cur, he, -, -, h3, -, -⟩
    · injection he with _ _ e3; omega
    · injection he with _ _ e3; omega
  have HT := Lib.hid hT
  have HU := Lib.hid hU
  have HB3 := Lib.hid (HB1.out.trans (hb2.mono HB1.out.size))
  have HO2 := Lib.hid (pw_own_below HO1.out hb2)
  have z5 := row_kept HB3.out R5.out
  have Z5 := Lib.hid z5
  have f0 := Lib.frozen_of_heap z5 0
  have f1 := Lib.frozen_of_heap z5 1
  clear o0 o1 o2 o3 s0 s1 z0 z1 p0 p1 p2 m0 m1 m2 m3 m4
  obtain ⟨z0, z1⟩ := cells2V z5
  obtain ⟨o0, o1, o2, o3⟩ := cellsV (row_kept HB3.out R3.out)
  obtain ⟨s0, s1⟩ := cells2V (row_kept HB3.out R4.out)
  clear hT hU hb2 z5
  have hz5 := HZ.out
  have hlt : ((s.length : Int) - (t.length : Int)) < 0 := by omega
  go_wp2_with fail
  exact bodyPost_ret (v := .tuple #[.agg #[.slice none 0 0, .int .i64 0], .int .i64 22]) (results60 rfl rfl rfl (set2V Z5.out _ _)) rfl ⟨_, rfl, ⟨rfl, .inl ⟨rfl, rfl⟩⟩, below_set2 (HB5.out.trans (HB3.out.mono HB5.out.size)) (by omega) _ _⟩
set_option maxRecDepth 100000 in
set_option maxHeartbeats 1600000 in
theorem effect_hi_type (c a b o : Int) (s : List Int) (h : Int) (hc : 8 < c ∧ c ≤ 40) (hc2 : c ≠ 36 ∧ c ≠ 37) (hn : namedS p m c a b = true) (hp : PgC w A0 c0 A1 c1 A2 c2 p) (hm : MtC w B0 d0 B2 d2 B4 d4 m) (ha : I64 a) (t u : List Int) (htu : movesS p m c a b = (t, u)) (htl : t.length ≤ 100000) (hul : u.length ≤ 100000)
    (h0 : 0 ≤ h) (h10 : h ≤ 10) (hlen : t.length ≤ s.length) (hne : s.drop (s.length - t.length) ≠ t) (hs : Kd.C (Kd.int .i64) w S0 s.length s) (hsc : s.length ≤ sc) (hl : s.length ≤ 100000) :
    Calls Tryd.prog 60 #[.agg #[.slice A0 p.pool.length c0, .slice A1 p.classes.length c1, .slice A2 p.methods.length c2], .agg #[.slice B0 m.f0.length d0, .int .i64 m.f1, .slice B2 m.f2.length d2, .int .i64 m.f3, .slice B4 m.f4.length d4], .agg #[.int .i64 c, .int .i64 a, .int .i64 b, .int .i64 o], .agg #[.slice S0 s.length sc, .int .i64 h]] w (EffPost w (([], 0), 21)) := by
  have hg : decide (6 ≤ c) = true := by simp; omega
  have hg2 : decide (c ≤ 8) = false := by simp; omega
  have he : (c == 36) = false := by simp; omega
  have he2 : (c == 37) = false := by simp; omega
  have hmv : ∀ W, PgC W A0 c0 A1 c1 A2 c2 p → MtC W B0 d0 B2 d2 B4 d4 m → Calls Tryd.prog 111 #[.agg #[.slice A0 p.pool.length c0, .slice A1 p.classes.length c1, .slice A2 p.methods.length c2], .agg #[.slice B0 m.f0.length d0, .int .i64 m.f1, .slice B2 m.f2.length d2, .int .i64 m.f3, .slice B4 m.f4.length d4], .agg #[.int .i64 c, .int .i64 a, .int .i64 b, .int .i64 o]] W (MvPost W t u) := fun W h1 h2 => by
    have := moves_calls (w := W) c a b o (by omega) (by omega) (by omega) hn h1 h2 ha
    rw [htu] at this
    exact this
  have HMV := Lib.hid hmv
  have HP := Lib.hid hp
  have HM := Lib.hid hm
  clear hmv hp hm hn htu ha hc2
  obtain ⟨hb5, hz5, r1, r2, r3, r4, r5⟩ := alloc5 w (obP A0 c0 A1 c1 A2 c2 p) (obM B0 d0 B2 d2 B4 d4 m) (obO c a b o) (obS S0 s.length sc h) obZ
  have HB5 := Lib.hid hb5
  have HS := Lib.hid hs
  have R1 := Lib.hid r1
  have R2 := Lib.hid r2
  have R3 := Lib.hid r3
  have R4 := Lib.hid r4
  have R5 := Lib.hid r5
  have HZ := Lib.hid hz5
  clear hb5 hz5 r1 r2 r3 r4 r5 hs
  go_enter Tryd.func60, Tryd.ntmps60
  go_wp2_with fail
  generalize ((((w.alloc (obP A0 c0 A1 c1 A2 c2 p)).alloc (obM B0 d0 B2 d2 B4 d4 m)).alloc (obO c a b o)).alloc (obS S0 s.length sc h)).alloc obZ = W at HB5 R1 R2 R3 R4 R5 HZ ⊢
  refine (clone_calls (Kd.C_below HS.out HB5.out) (by omega)).mono ?_
  rintro e w1 ⟨v1, rfl, ho1, hb1⟩
  obtain ⟨o0, o1, o2, o3⟩ := cellsV (row_kept hb1 R3.out)
  obtain ⟨s0, s1⟩ := cells2V (row_kept hb1 R4.out)
  obtain ⟨z0, z1⟩ := cells2V (row_kept hb1 R5.out)
  have HO1 := Lib.hid ho1
  have HB1 := Lib.hid hb1
  clear ho1 hb1
  obtain ⟨p0, p1, p2⟩ := cells3V (row_kept HB1.out R1.out)
  obtain ⟨m0, m1, m2, m3, m4⟩ := cells5V (row_kept HB1.out R2.out)
  go_wp2_with fail
  have HB2 := Lib.hid (HB5.out.trans (HB1.out.mono HB5.out.size))
  refine (HMV.out _ (HP.out.below HB2.out) (HM.out.below HB2.out)).mono ?_
  rintro e w2 ⟨v2, v3, rfl, ⟨T, tc, rfl, htc, hT⟩, ⟨U, uc, rfl, huc, hU⟩, hb2⟩
  obtain ⟨A, cc, rfl⟩ := own_slice HO1.out
  have hcc : s.length ≤ cc := by
    rcases HO1.out.2 with ⟨he, hn0⟩ | ⟨g, cap, cur, he, -, -, h3, -, -⟩
    · injection he with _ _ e3; omega
    · injection he with _ _ e3; omega
  have HT := Lib.hid hT
  have HU := Lib.hid hU
  have HB3 := Lib.hid (HB1.out.trans (hb2.mono HB1.out.size))
  have HO2 := Lib.hid (pw_own_below HO1.out hb2)
  have z5 := row_kept HB3.out R5.out
  have Z5 := Lib.hid z5
  have f0 := Lib.frozen_of_heap z5 0
  have f1 := Lib.frozen_of_heap z5 1
  clear o0 o1 o2 o3 s0 s1 z0 z1 p0 p1 p2 m0 m1 m2 m3 m4
  obtain ⟨z0, z1⟩ := cells2V z5
  obtain ⟨o0, o1, o2, o3⟩ := cellsV (row_kept HB3.out R3.out)
  obtain ⟨s0, s1⟩ := cells2V (row_kept HB3.out R4.out)
  clear hT hU hb2 z5
  have hz5 := HZ.out
  have hq : decide (s.drop (s.length - t.length) = t) = false := decide_eq_false hne
  clear hne
  have hsub : ((s.length : Int) - (t.length : Int)).toNat = s.length - t.length := by omega
  obtain ⟨i0, hi0, hsz0⟩ := i3E
  have hcut := cut_from (P := Tryd.prog) 33 3 .i64 Tryd.underlying33 hi0 1 hsz0 A s.length cc ((s.length : Int) - (t.length : Int)) (by omega) (by omega)
  have hC := Kd.C_drop (k := Kd.int .i64) (m := s.length - t.length) (c := cc) (RI_own HO2.out) (by omega) hcc
  have hd : (s.drop (s.length - t.length)).length = s.length - ((s.length : Int) - (t.length : Int)).toNat := by rw [List.length_drop, hsub]
  rw [← hd, hsub] at hcut
  change (Kd.int .i64).C w2 (if cc = s.length - t.length then A else Option.map (fun x => x.add ((s.length - t.length) * 1)) A) _ _ at hC
  generalize (if cc = s.length - t.length then A else Option.map (fun x => x.add ((s.length - t.length) * 1)) A) = A' at hcut hC
  have hdc : (s.drop (s.length - t.length)).length ≤ cc - (s.length - t.length) := by rw [List.length_drop]; omega
  have hEq : Calls Tryd.prog 112 #[.slice A' (s.length - (s.length - t.length)) (cc - (s.length - t.length)), .slice T t.length tc] w2 fun e w' => e = .returned (.bool false) ∧ Below w2.heap.size w2 w' := by
    have := equal_calls (c := cc - (s.length - t.length)) (d := tc) hC hdc HT.out htc (by rw [List.length_drop]; omega)
    rw [List.length_drop, hq] at this
    exact this
  have HEQ := Lib.hid hEq
  clear hC hEq hd hdc hsub hq
  have hge : decide ((s.length : Int) - (t.length : Int) < 0) = false := by simp; omega
  go_wp2_with fail
  refine HEQ.out.mono ?_
  rintro e w3 ⟨rfl, hb3⟩
  have HB4 := Lib.hid (HB3.out.trans (hb3.mono HB3.out.size))
  have HO3 := Lib.hid (pw_own_below HO2.out hb3)
  clear z0 z1 o0 o1 o2 o3 s0 s1 f0 f1
  have z5 := row_kept HB4.out R5.out
  clear Z5
  have Z5 := Lib.hid z5
  have f0 := Lib.frozen_of_heap z5 0
  have f1 := Lib.frozen_of_heap z5 1
  obtain ⟨z0, z1⟩ := cells2V z5
  obtain ⟨o0, o1, o2, o3⟩ := cellsV (row_kept HB4.out R3.out)
  obtain ⟨s0, s1⟩ := cells2V (row_kept HB4.out R4.out)
  have hU3 := HU.out
  have HU3 := Lib.hid (Kd.C_below hU3 hb3)
  clear hb3 z5 hU3 HU
  go_wp2_with fail
  exact bodyPost_ret (v := .tuple #[.agg #[.slice none 0 0, .int .i64 0], .int .i64 21]) (results60 rfl rfl rfl (set2V Z5.out _ _)) rfl ⟨_, rfl, ⟨rfl, .inl ⟨rfl, rfl⟩⟩, below_set2 (HB5.out.trans (HB4.out.mono HB5.out.size)) (by omega) _ _⟩
set_option maxRecDepth 100000 in
set_option maxHeartbeats 1600000 in
theorem effect_hi_ok (c a b o : Int) (s : List Int) (h : Int) (hc : 8 < c ∧ c ≤ 40) (hc2 : c ≠ 36 ∧ c ≠ 37) (hn : namedS p m c a b = true) (hp : PgC w A0 c0 A1 c1 A2 c2 p) (hm : MtC w B0 d0 B2 d2 B4 d4 m) (ha : I64 a) (t u : List Int) (htu : movesS p m c a b = (t, u)) (htl : t.length ≤ 100000) (hul : u.length ≤ 100000)
    (h0 : 0 ≤ h) (h10 : h ≤ 10) (hlen : t.length ≤ s.length) (heq : s.drop (s.length - t.length) = t) (hs : Kd.C (Kd.int .i64) w S0 s.length s) (hsc : s.length ≤ sc) (hl : s.length ≤ 100000) :
    Calls Tryd.prog 60 #[.agg #[.slice A0 p.pool.length c0, .slice A1 p.classes.length c1, .slice A2 p.methods.length c2], .agg #[.slice B0 m.f0.length d0, .int .i64 m.f1, .slice B2 m.f2.length d2, .int .i64 m.f3, .slice B4 m.f4.length d4], .agg #[.int .i64 c, .int .i64 a, .int .i64 b, .int .i64 o], .agg #[.slice S0 s.length sc, .int .i64 h]] w (EffPost w ((s.take (s.length - t.length) ++ u, h), 0)) := by
  have hg : decide (6 ≤ c) = true := by simp; omega
  have hg2 : decide (c ≤ 8) = false := by simp; omega
  have he : (c == 36) = false := by simp; omega
  have he2 : (c == 37) = false := by simp; omega
  have hmv : ∀ W, PgC W A0 c0 A1 c1 A2 c2 p → MtC W B0 d0 B2 d2 B4 d4 m → Calls Tryd.prog 111 #[.agg #[.slice A0 p.pool.length c0, .slice A1 p.classes.length c1, .slice A2 p.methods.length c2], .agg #[.slice B0 m.f0.length d0, .int .i64 m.f1, .slice B2 m.f2.length d2, .int .i64 m.f3, .slice B4 m.f4.length d4], .agg #[.int .i64 c, .int .i64 a, .int .i64 b, .int .i64 o]] W (MvPost W t u) := fun W h1 h2 => by
    have := moves_calls (w := W) c a b o (by omega) (by omega) (by omega) hn h1 h2 ha
    rw [htu] at this
    exact this
  have HMV := Lib.hid hmv
  have HP := Lib.hid hp
  have HM := Lib.hid hm
  clear hmv hp hm hn htu ha hc2
  obtain ⟨hb5, hz5, r1, r2, r3, r4, r5⟩ := alloc5 w (obP A0 c0 A1 c1 A2 c2 p) (obM B0 d0 B2 d2 B4 d4 m) (obO c a b o) (obS S0 s.length sc h) obZ
  have HB5 := Lib.hid hb5
  have HS := Lib.hid hs
  have R1 := Lib.hid r1
  have R2 := Lib.hid r2
  have R3 := Lib.hid r3
  have R4 := Lib.hid r4
  have R5 := Lib.hid r5
  have HZ := Lib.hid hz5
  clear hb5 hz5 r1 r2 r3 r4 r5 hs
  go_enter Tryd.func60, Tryd.ntmps60
  go_wp2_with fail
  generalize ((((w.alloc (obP A0 c0 A1 c1 A2 c2 p)).alloc (obM B0 d0 B2 d2 B4 d4 m)).alloc (obO c a b o)).alloc (obS S0 s.length sc h)).alloc obZ = W at HB5 R1 R2 R3 R4 R5 HZ ⊢
  refine (clone_calls (Kd.C_below HS.out HB5.out) (by omega)).mono ?_
  rintro e w1 ⟨v1, rfl, ho1, hb1⟩
  obtain ⟨o0, o1, o2, o3⟩ := cellsV (row_kept hb1 R3.out)
  obtain ⟨s0, s1⟩ := cells2V (row_kept hb1 R4.out)
  obtain ⟨z0, z1⟩ := cells2V (row_kept hb1 R5.out)
  have HO1 := Lib.hid ho1
  have HB1 := Lib.hid hb1
  clear ho1 hb1
  obtain ⟨p0, p1, p2⟩ := cells3V (row_kept HB1.out R1.out)
  obtain ⟨m0, m1, m2, m3, m4⟩ := cells5V (row_kept HB1.out R2.out)
  go_wp2_with fail
  have HB2 := Lib.hid (HB5.out.trans (HB1.out.mono HB5.out.size))
  refine (HMV.out _ (HP.out.below HB2.out) (HM.out.below HB2.out)).mono ?_
  rintro e w2 ⟨v2, v3, rfl, ⟨T, tc, rfl, htc, hT⟩, ⟨U, uc, rfl, huc, hU⟩, hb2⟩
  obtain ⟨A, cc, rfl⟩ := own_slice HO1.out
  have hcc : s.length ≤ cc := by
    rcases HO1.out.2 with ⟨he, hn0⟩ | ⟨g, cap, cur, he, -, -, h3, -, -⟩
    · injection he with _ _ e3; omega
    · injection he with _ _ e3; omega
  have HT := Lib.hid hT
  have HU := Lib.hid hU
  have HB3 := Lib.hid (HB1.out.trans (hb2.mono HB1.out.size))
  have HO2 := Lib.hid (pw_own_below HO1.out hb2)
  have z5 := row_kept HB3.out R5.out
  have Z5 := Lib.hid z5
  have f0 := Lib.frozen_of_heap z5 0
  have f1 := Lib.frozen_of_heap z5 1
  clear o0 o1 o2 o3 s0 s1 z0 z1 p0 p1 p2 m0 m1 m2 m3 m4
  obtain ⟨z0, z1⟩ := cells2V z5
  obtain ⟨o0, o1, o2, o3⟩ := cellsV (row_kept HB3.out R3.out)
  obtain ⟨s0, s1⟩ := cells2V (row_kept HB3.out R4.out)
  clear hT hU hb2 z5
  have hz5 := HZ.out
  have hq : decide (s.drop (s.length - t.length) = t) = true := decide_eq_true heq
  clear heq
  have hsub : ((s.length : Int) - (t.length : Int)).toNat = s.length - t.length := by omega
  obtain ⟨i0, hi0, hsz0⟩ := i3E
  have hcut := cut_from (P := Tryd.prog) 33 3 .i64 Tryd.underlying33 hi0 1 hsz0 A s.length cc ((s.length : Int) - (t.length : Int)) (by omega) (by omega)
  have hC := Kd.C_drop (k := Kd.int .i64) (m := s.length - t.length) (c := cc) (RI_own HO2.out) (by omega) hcc
  have hd : (s.drop (s.length - t.length)).length = s.length - ((s.length : Int) - (t.length : Int)).toNat := by rw [List.length_drop, hsub]
  rw [← hd, hsub] at hcut
  change (Kd.int .i64).C w2 (if cc = s.length - t.length then A else Option.map (fun x => x.add ((s.length - t.length) * 1)) A) _ _ at hC
  generalize (if cc = s.length - t.length then A else Option.map (fun x => x.add ((s.length - t.length) * 1)) A) = A' at hcut hC
  have hdc : (s.drop (s.length - t.length)).length ≤ cc - (s.length - t.length) := by rw [List.length_drop]; omega
  have hEq : Calls Tryd.prog 112 #[.slice A' (s.length - (s.length - t.length)) (cc - (s.length - t.length)), .slice T t.length tc] w2 fun e w' => e = .returned (.bool true) ∧ Below w2.heap.size w2 w' := by
    have := equal_calls (c := cc - (s.length - t.length)) (d := tc) hC hdc HT.out htc (by rw [List.length_drop]; omega)
    rw [List.length_drop, hq] at this
    exact this
  have HEQ := Lib.hid hEq
  clear hC hEq hd hdc hsub hq
  have hge : decide ((s.length : Int) - (t.length : Int) < 0) = false := by simp; omega
  go_wp2_with fail
  refine HEQ.out.mono ?_
  rintro e w3 ⟨rfl, hb3⟩
  have HB4 := Lib.hid (HB3.out.trans (hb3.mono HB3.out.size))
  have HO3 := Lib.hid (pw_own_below HO2.out hb3)
  clear z0 z1 o0 o1 o2 o3 s0 s1 f0 f1
  have z5 := row_kept HB4.out R5.out
  clear Z5
  have Z5 := Lib.hid z5
  have f0 := Lib.frozen_of_heap z5 0
  have f1 := Lib.frozen_of_heap z5 1
  obtain ⟨z0, z1⟩ := cells2V z5
  obtain ⟨o0, o1, o2, o3⟩ := cellsV (row_kept HB4.out R3.out)
  obtain ⟨s0, s1⟩ := cells2V (row_kept HB4.out R4.out)
  have hU3 := HU.out
  have HU3 := Lib.hid (Kd.C_below hU3 hb3)
  clear hb3 z5 hU3 HU
  obtain ⟨i0, hi0, hsz0⟩ := i3E
  have hcut2 := cut_to (P := Tryd.prog) 33 3 .i64 Tryd.underlying33 hi0 A s.length cc ((s.length : Int) - (t.length : Int)) (by omega) (by omega) hcc
  have hsub : ((s.length : Int) - (t.length : Int)).toNat = s.length - t.length := by omega
  rw [hsub] at hcut2
  have hTK : Kd.R (Kd.int .i64) 3 w3 W.heap.size (fun _ => True) (.slice A (s.length - t.length) cc) (s.take (s.length - t.length)) := by
    have h1 := own_take HO3.out (m := s.length - t.length) (by omega)
    refine Kd.R_of_own (enc := Value.int .i64) (h1 := fun _ => rfl) ?_ (fun _ _ => trivial)
    rw [List.length_take, Nat.min_eq_left (by omega)]
    rw [Nat.mul_one] at h1
    simpa [nums, encs, List.map_take] using h1
  have HTK := Lib.hid hTK
  have hlt : ((s.take (s.length - t.length)).length + u.length) * 8 ≤ 140737488355328 := by rw [List.length_take]; omega
  have HLT := Lib.hid hlt
  have hs4 := HB4.out.size
  clear hTK hlt hsub
  go_upto_region 21 with (fail)
  go_wp2_with (at_builtin; refine Kd.R_append_rows (Kd.int .i64) W.heap.size rfl (.tmp 90) (.tmp 91) 33 3 (.int .i64 0) 8 rfl Tryd.underlying33 info3V rfl (by decide) (by decide) (.slice A (s.length - t.length) cc) (s.take (s.length - t.length)) u U u.length uc (fun _ => True) (fun k => some k ≠ (Value.slice A (s.length - t.length) cc).ownBlock) rfl rfl HTK.out HU3.out (fun _ _ h => h) (fun k h => ⟨trivial, h⟩) (fun _ _ => trivial) HB4.out hs4 HLT.out ?_; intro v5 w5 ho5 hb5 _ _; obtain ⟨A5, c5, rfl⟩ := Kd.R_slice ho5; have HO5 := Lib.hid (Kd.own_of_R ho5); have HB6 := Lib.hid hb5; clear z0 z1 o0 o1 o2 o3 s0 s1 f0 f1; have z5 := row_kept hb5 R5.out; have Z6 := Lib.hid z5; have f0 := Lib.frozen_of_heap z5 0; have f1 := Lib.frozen_of_heap z5 1; obtain ⟨z0, z1⟩ := cells2V z5; clear ho5 hb5 z5)
  have hL : (s.take (s.length - t.length) ++ u).length = s.length - t.length + u.length := by rw [List.length_append, List.length_take]; omega
  have hown : w5.ownsRow W.heap.size 3 1 (.slice A5 (s.length - t.length + u.length) c5) (s.take (s.length - t.length) ++ u).length (nums .i64 (s.take (s.length - t.length) ++ u)) := by
    have := HO5.out
    rw [hL] at this ⊢
    exact this
  exact bodyPost_ret (v := .tuple #[.agg #[.slice A5 (s.length - t.length + u.length) c5, .int .i64 (h)], .int .i64 0]) (results60 rfl rfl rfl (set2V Z6.out _ _)) rfl ⟨_, rfl, row_base (own_set2 hown (by omega) _ _) HB5.out.size, below_set2 (HB5.out.trans (HB6.out.mono HB5.out.size)) (by omega) _ _⟩
set_option maxRecDepth 100000 in
set_option maxHeartbeats 1600000 in
theorem effect_en_few (a b o : Int) (s : List Int) (h : Int)  (hn : namedS p m 36 a b = true) (hp : PgC w A0 c0 A1 c1 A2 c2 p) (hm : MtC w B0 d0 B2 d2 B4 d4 m) (ha : I64 a) (t u : List Int) (htu : movesS p m 36 a b = (t, u)) (htl : t.length ≤ 100000) (hul : u.length ≤ 100000)
    (h0 : 0 ≤ h) (h10 : h ≤ 10) (hfew : s.length < t.length) (hs : Kd.C (Kd.int .i64) w S0 s.length s) (hsc : s.length ≤ sc) (hl : s.length ≤ 100000) :
    Calls Tryd.prog 60 #[.agg #[.slice A0 p.pool.length c0, .slice A1 p.classes.length c1, .slice A2 p.methods.length c2], .agg #[.slice B0 m.f0.length d0, .int .i64 m.f1, .slice B2 m.f2.length d2, .int .i64 m.f3, .slice B4 m.f4.length d4], .agg #[.int .i64 36, .int .i64 a, .int .i64 b, .int .i64 o], .agg #[.slice S0 s.length sc, .int .i64 h]] w (EffPost w (([], 0), 22)) := by
  have hmv : ∀ W, PgC W A0 c0 A1 c1 A2 c2 p → MtC W B0 d0 B2 d2 B4 d4 m → Calls Tryd.prog 111 #[.agg #[.slice A0 p.pool.length c0, .slice A1 p.classes.length c1, .slice A2 p.methods.length c2], .agg #[.slice B0 m.f0.length d0, .int .i64 m.f1, .slice B2 m.f2.length d2, .int .i64 m.f3, .slice B4 m.f4.length d4], .agg #[.int .i64 36, .int .i64 a, .int .i64 b, .int .i64 o]] W (MvPost W t u) := fun W h1 h2 => by
    have := moves_calls (w := W) 36 a b o (by decide) (by decide) (by decide) hn h1 h2 ha
    rw [htu] at this
    exact this
  have HMV := Lib.hid hmv
  have HP := Lib.hid hp
  have HM := Lib.hid hm
  clear hmv hp hm hn htu ha
  obtain ⟨hb5, hz5, r1, r2, r3, r4, r5⟩ := alloc5 w (obP A0 c0 A1 c1 A2 c2 p) (obM B0 d0 B2 d2 B4 d4 m) (obO 36 a b o) (obS S0 s.length sc h) obZ
  have HB5 := Lib.hid hb5
  have HS := Lib.hid hs
  have R1 := Lib.hid r1
  have R2 := Lib.hid r2
  have R3 := Lib.hid r3
  have R4 := Lib.hid r4
  have R5 := Lib.hid r5
  have HZ := Lib.hid hz5
  clear hb5 hz5 r1 r2 r3 r4 r5 hs
  go_enter Tryd.func60, Tryd.ntmps60
  go_wp2_with fail
  generalize ((((w.alloc (obP A0 c0 A1 c1 A2 c2 p)).alloc (obM B0 d0 B2 d2 B4 d4 m)).alloc (obO 36 a b o)).alloc (obS S0 s.length sc h)).alloc obZ = W at HB5 R1 R2 R3 R4 R5 HZ ⊢
  refine (clone_calls (Kd.C_below HS.out HB5.out) (by omega)).mono ?_
  rintro e w1 ⟨v1, rfl, ho1, hb1⟩
  obtain ⟨o0, o1, o2, o3⟩ := cellsV (row_kept hb1 R3.out)
  obtain ⟨s0, s1⟩ := cells2V (row_kept hb1 R4.out)
  obtain ⟨z0, z1⟩ := cells2V (row_kept hb1 R5.out)
  have HO1 := Lib.hid ho1
  have HB1 := Lib.hid hb1
  clear ho1 hb1
  obtain ⟨p0, p1, p2⟩ := cells3V (row_kept HB1.out R1.out)
  obtain ⟨m0, m1, m2, m3, m4⟩ := cells5V (row_kept HB1.out R2.out)
  go_wp2_with fail
  have HB2 := Lib.hid (HB5.out.trans (HB1.out.mono HB5.out.size))
  refine (HMV.out _ (HP.out.below HB2.out) (HM.out.below HB2.out)).mono ?_
  rintro e w2 ⟨v2, v3, rfl, ⟨T, tc, rfl, htc, hT⟩, ⟨U, uc, rfl, huc, hU⟩, hb2⟩
  obtain ⟨A, cc, rfl⟩ := own_slice HO1.out
  have hcc : s.length ≤ cc := by
    rcases HO1.out.2 with ⟨he, hn0⟩ | ⟨g, cap, cur, he, -, -, h3, -, -⟩
    · injection he with _ _ e3; omega
    · injection he with _ _ e3; omega
  have HT := Lib.hid hT
  have HU := Lib.hid hU
  have HB3 := Lib.hid (HB1.out.trans (hb2.mono HB1.out.size))
  have HO2 := Lib.hid (pw_own_below HO1.out hb2)
  have z5 := row_kept HB3.out R5.out
  have Z5 := Lib.hid z5
  have f0 := Lib.frozen_of_heap z5 0
  have f1 := Lib.frozen_of_heap z5 1
  clear o0 o1 o2 o3 s0 s1 z0 z1 p0 p1 p2 m0 m1 m2 m3 m4
  obtain ⟨z0, z1⟩ := cells2V z5
  obtain ⟨o0, o1, o2, o3⟩ := cellsV (row_kept HB3.out R3.out)
  obtain ⟨s0, s1⟩ := cells2V (row_kept HB3.out R4.out)
  clear hT hU hb2 z5
  have hz5 := HZ.out
  have hlt : ((s.length : Int) - (t.length : Int)) < 0 := by omega
  go_wp2_with fail
  exact bodyPost_ret (v := .tuple #[.agg #[.slice none 0 0, .int .i64 0], .int .i64 22]) (results60 rfl rfl rfl (set2V Z5.out _ _)) rfl ⟨_, rfl, ⟨rfl, .inl ⟨rfl, rfl⟩⟩, below_set2 (HB5.out.trans (HB3.out.mono HB5.out.size)) (by omega) _ _⟩
set_option maxRecDepth 100000 in
set_option maxHeartbeats 1600000 in
theorem effect_en_type (a b o : Int) (s : List Int) (h : Int)  (hn : namedS p m 36 a b = true) (hp : PgC w A0 c0 A1 c1 A2 c2 p) (hm : MtC w B0 d0 B2 d2 B4 d4 m) (ha : I64 a) (t u : List Int) (htu : movesS p m 36 a b = (t, u)) (htl : t.length ≤ 100000) (hul : u.length ≤ 100000)
    (h0 : 0 ≤ h) (h10 : h ≤ 10) (hlen : t.length ≤ s.length) (hne : s.drop (s.length - t.length) ≠ t) (hs : Kd.C (Kd.int .i64) w S0 s.length s) (hsc : s.length ≤ sc) (hl : s.length ≤ 100000) :
    Calls Tryd.prog 60 #[.agg #[.slice A0 p.pool.length c0, .slice A1 p.classes.length c1, .slice A2 p.methods.length c2], .agg #[.slice B0 m.f0.length d0, .int .i64 m.f1, .slice B2 m.f2.length d2, .int .i64 m.f3, .slice B4 m.f4.length d4], .agg #[.int .i64 36, .int .i64 a, .int .i64 b, .int .i64 o], .agg #[.slice S0 s.length sc, .int .i64 h]] w (EffPost w (([], 0), 21)) := by
  have hmv : ∀ W, PgC W A0 c0 A1 c1 A2 c2 p → MtC W B0 d0 B2 d2 B4 d4 m → Calls Tryd.prog 111 #[.agg #[.slice A0 p.pool.length c0, .slice A1 p.classes.length c1, .slice A2 p.methods.length c2], .agg #[.slice B0 m.f0.length d0, .int .i64 m.f1, .slice B2 m.f2.length d2, .int .i64 m.f3, .slice B4 m.f4.length d4], .agg #[.int .i64 36, .int .i64 a, .int .i64 b, .int .i64 o]] W (MvPost W t u) := fun W h1 h2 => by
    have := moves_calls (w := W) 36 a b o (by decide) (by decide) (by decide) hn h1 h2 ha
    rw [htu] at this
    exact this
  have HMV := Lib.hid hmv
  have HP := Lib.hid hp
  have HM := Lib.hid hm
  clear hmv hp hm hn htu ha
  obtain ⟨hb5, hz5, r1, r2, r3, r4, r5⟩ := alloc5 w (obP A0 c0 A1 c1 A2 c2 p) (obM B0 d0 B2 d2 B4 d4 m) (obO 36 a b o) (obS S0 s.length sc h) obZ
  have HB5 := Lib.hid hb5
  have HS := Lib.hid hs
  have R1 := Lib.hid r1
  have R2 := Lib.hid r2
  have R3 := Lib.hid r3
  have R4 := Lib.hid r4
  have R5 := Lib.hid r5
  have HZ := Lib.hid hz5
  clear hb5 hz5 r1 r2 r3 r4 r5 hs
  go_enter Tryd.func60, Tryd.ntmps60
  go_wp2_with fail
  generalize ((((w.alloc (obP A0 c0 A1 c1 A2 c2 p)).alloc (obM B0 d0 B2 d2 B4 d4 m)).alloc (obO 36 a b o)).alloc (obS S0 s.length sc h)).alloc obZ = W at HB5 R1 R2 R3 R4 R5 HZ ⊢
  refine (clone_calls (Kd.C_below HS.out HB5.out) (by omega)).mono ?_
  rintro e w1 ⟨v1, rfl, ho1, hb1⟩
  obtain ⟨o0, o1, o2, o3⟩ := cellsV (row_kept hb1 R3.out)
  obtain ⟨s0, s1⟩ := cells2V (row_kept hb1 R4.out)
  obtain ⟨z0, z1⟩ := cells2V (row_kept hb1 R5.out)
  have HO1 := Lib.hid ho1
  have HB1 := Lib.hid hb1
  clear ho1 hb1
  obtain ⟨p0, p1, p2⟩ := cells3V (row_kept HB1.out R1.out)
  obtain ⟨m0, m1, m2, m3, m4⟩ := cells5V (row_kept HB1.out R2.out)
  go_wp2_with fail
  have HB2 := Lib.hid (HB5.out.trans (HB1.out.mono HB5.out.size))
  refine (HMV.out _ (HP.out.below HB2.out) (HM.out.below HB2.out)).mono ?_
  rintro e w2 ⟨v2, v3, rfl, ⟨T, tc, rfl, htc, hT⟩, ⟨U, uc, rfl, huc, hU⟩, hb2⟩
  obtain ⟨A, cc, rfl⟩ := own_slice HO1.out
  have hcc : s.length ≤ cc := by
    rcases HO1.out.2 with ⟨he, hn0⟩ | ⟨g, cap, cur, he, -, -, h3, -, -⟩
    · injection he with _ _ e3; omega
    · injection he with _ _ e3; omega
  have HT := Lib.hid hT
  have HU := Lib.hid hU
  have HB3 := Lib.hid (HB1.out.trans (hb2.mono HB1.out.size))
  have HO2 := Lib.hid (pw_own_below HO1.out hb2)
  have z5 := row_kept HB3.out R5.out
  have Z5 := Lib.hid z5
  have f0 := Lib.frozen_of_heap z5 0
  have f1 := Lib.frozen_of_heap z5 1
  clear o0 o1 o2 o3 s0 s1 z0 z1 p0 p1 p2 m0 m1 m2 m3 m4
  obtain ⟨z0, z1⟩ := cells2V z5
  obtain ⟨o0, o1, o2, o3⟩ := cellsV (row_kept HB3.out R3.out)
  obtain ⟨s0, s1⟩ := cells2V (row_kept HB3.out R4.out)
  clear hT hU hb2 z5
  have hz5 := HZ.out
  have hq : decide (s.drop (s.length - t.length) = t) = false := decide_eq_false hne
  clear hne
  have hsub : ((s.length : Int) - (t.length : Int)).toNat = s.length - t.length := by omega
  obtain ⟨i0, hi0, hsz0⟩ := i3E
  have hcut := cut_from (P := Tryd.prog) 33 3 .i64 Tryd.underlying33 hi0 1 hsz0 A s.length cc ((s.length : Int) - (t.length : Int)) (by omega) (by omega)
  have hC := Kd.C_drop (k := Kd.int .i64) (m := s.length - t.length) (c := cc) (RI_own HO2.out) (by omega) hcc
  have hd : (s.drop (s.length - t.length)).length = s.length - ((s.length : Int) - (t.length : Int)).toNat := by rw [List.length_drop, hsub]
  rw [← hd, hsub] at hcut
  change (Kd.int .i64).C w2 (if cc = s.length - t.length then A else Option.map (fun x => x.add ((s.length - t.length) * 1)) A) _ _ at hC
  generalize (if cc = s.length - t.length then A else Option.map (fun x => x.add ((s.length - t.length) * 1)) A) = A' at hcut hC
  have hdc : (s.drop (s.length - t.length)).length ≤ cc - (s.length - t.length) := by rw [List.length_drop]; omega
  have hEq : Calls Tryd.prog 112 #[.slice A' (s.length - (s.length - t.length)) (cc - (s.length - t.length)), .slice T t.length tc] w2 fun e w' => e = .returned (.bool false) ∧ Below w2.heap.size w2 w' := by
    have := equal_calls (c := cc - (s.length - t.length)) (d := tc) hC hdc HT.out htc (by rw [List.length_drop]; omega)
    rw [List.length_drop, hq] at this
    exact this
  have HEQ := Lib.hid hEq
  clear hC hEq hd hdc hsub hq
  have hge : decide ((s.length : Int) - (t.length : Int) < 0) = false := by simp; omega
  go_wp2_with fail
  refine HEQ.out.mono ?_
  rintro e w3 ⟨rfl, hb3⟩
  have HB4 := Lib.hid (HB3.out.trans (hb3.mono HB3.out.size))
  have HO3 := Lib.hid (pw_own_below HO2.out hb3)
  clear z0 z1 o0 o1 o2 o3 s0 s1 f0 f1
  have z5 := row_kept HB4.out R5.out
  clear Z5
  have Z5 := Lib.hid z5
  have f0 := Lib.frozen_of_heap z5 0
  have f1 := Lib.frozen_of_heap z5 1
  obtain ⟨z0, z1⟩ := cells2V z5
  obtain ⟨o0, o1, o2, o3⟩ := cellsV (row_kept HB4.out R3.out)
  obtain ⟨s0, s1⟩ := cells2V (row_kept HB4.out R4.out)
  have hU3 := HU.out
  have HU3 := Lib.hid (Kd.C_below hU3 hb3)
  clear hb3 z5 hU3 HU
  go_wp2_with fail
  exact bodyPost_ret (v := .tuple #[.agg #[.slice none 0 0, .int .i64 0], .int .i64 21]) (results60 rfl rfl rfl (set2V Z5.out _ _)) rfl ⟨_, rfl, ⟨rfl, .inl ⟨rfl, rfl⟩⟩, below_set2 (HB5.out.trans (HB4.out.mono HB5.out.size)) (by omega) _ _⟩
set_option maxRecDepth 100000 in
set_option maxHeartbeats 1600000 in
theorem effect_en_ok (a b o : Int) (s : List Int) (h : Int)  (hn : namedS p m 36 a b = true) (hp : PgC w A0 c0 A1 c1 A2 c2 p) (hm : MtC w B0 d0 B2 d2 B4 d4 m) (ha : I64 a) (t u : List Int) (htu : movesS p m 36 a b = (t, u)) (htl : t.length ≤ 100000) (hul : u.length ≤ 100000)
    (h0 : 0 ≤ h) (h10 : h ≤ 10) (hlen : t.length ≤ s.length) (heq : s.drop (s.length - t.length) = t) (hx : h < 10) (hs : Kd.C (Kd.int .i64) w S0 s.length s) (hsc : s.length ≤ sc) (hl : s.length ≤ 100000) :
    Calls Tryd.prog 60 #[.agg #[.slice A0 p.pool.length c0, .slice A1 p.classes.length c1, .slice A2 p.methods.length c2], .agg #[.slice B0 m.f0.length d0, .int .i64 m.f1, .slice B2 m.f2.length d2, .int .i64 m.f3, .slice B4 m.f4.length d4], .agg #[.int .i64 36, .int .i64 a, .int .i64 b, .int .i64 o], .agg #[.slice S0 s.length sc, .int .i64 h]] w (EffPost w ((s.take (s.length - t.length) ++ u, h + 1), 0)) := by
  have hmv : ∀ W, PgC W A0 c0 A1 c1 A2 c2 p → MtC W B0 d0 B2 d2 B4 d4 m → Calls Tryd.prog 111 #[.agg #[.slice A0 p.pool.length c0, .slice A1 p.classes.length c1, .slice A2 p.methods.length c2], .agg #[.slice B0 m.f0.length d0, .int .i64 m.f1, .slice B2 m.f2.length d2, .int .i64 m.f3, .slice B4 m.f4.length d4], .agg #[.int .i64 36, .int .i64 a, .int .i64 b, .int .i64 o]] W (MvPost W t u) := fun W h1 h2 => by
    have := moves_calls (w := W) 36 a b o (by decide) (by decide) (by decide) hn h1 h2 ha
    rw [htu] at this
    exact this
  have HMV := Lib.hid hmv
  have HP := Lib.hid hp
  have HM := Lib.hid hm
  have g1 : (h + 1 != h) = true := by rw [bne_iff_ne]; omega
  have g2 : decide (10 < h + 1) = false := by simp; omega
  have g3 : decide (h + 1 < 0) = false := by simp; omega
  clear hmv hp hm hn htu ha
  obtain ⟨hb5, hz5, r1, r2, r3, r4, r5⟩ := alloc5 w (obP A0 c0 A1 c1 A2 c2 p) (obM B0 d0 B2 d2 B4 d4 m) (obO 36 a b o) (obS S0 s.length sc h) obZ
  have HB5 := Lib.hid hb5
  have HS := Lib.hid hs
  have R1 := Lib.hid r1
  have R2 := Lib.hid r2
  have R3 := Lib.hid r3
  have R4 := Lib.hid r4
  have R5 := Lib.hid r5
  have HZ := Lib.hid hz5
  clear hb5 hz5 r1 r2 r3 r4 r5 hs
  go_enter Tryd.func60, Tryd.ntmps60
  go_wp2_with fail
  generalize ((((w.alloc (obP A0 c0 A1 c1 A2 c2 p)).alloc (obM B0 d0 B2 d2 B4 d4 m)).alloc (obO 36 a b o)).alloc (obS S0 s.length sc h)).alloc obZ = W at HB5 R1 R2 R3 R4 R5 HZ ⊢
  refine (clone_calls (Kd.C_below HS.out HB5.out) (by omega)).mono ?_
  rintro e w1 ⟨v1, rfl, ho1, hb1⟩
  obtain ⟨o0, o1, o2, o3⟩ := cellsV (row_kept hb1 R3.out)
  obtain ⟨s0, s1⟩ := cells2V (row_kept hb1 R4.out)
  obtain ⟨z0, z1⟩ := cells2V (row_kept hb1 R5.out)
  have HO1 := Lib.hid ho1
  have HB1 := Lib.hid hb1
  clear ho1 hb1
  obtain ⟨p0, p1, p2⟩ := cells3V (row_kept HB1.out R1.out)
  obtain ⟨m0, m1, m2, m3, m4⟩ := cells5V (row_kept HB1.out R2.out)
  go_wp2_with fail
  have HB2 := Lib.hid (HB5.out.trans (HB1.out.mono HB5.out.size))
  refine (HMV.out _ (HP.out.below HB2.out) (HM.out.below HB2.out)).mono ?_
  rintro e w2 ⟨v2, v3, rfl, ⟨T, tc, rfl, htc, hT⟩, ⟨U, uc, rfl, huc, hU⟩, hb2⟩
  obtain ⟨A, cc, rfl⟩ := own_slice HO1.out
  have hcc : s.length ≤ cc := by
    rcases HO1.out.2 with ⟨he, hn0⟩ | ⟨g, cap, cur, he, -, -, h3, -, -⟩
    · injection he with _ _ e3; omega
    · injection he with _ _ e3; omega
  have HT := Lib.hid hT
  have HU := Lib.hid hU
  have HB3 := Lib.hid (HB1.out.trans (hb2.mono HB1.out.size))
  have HO2 := Lib.hid (pw_own_below HO1.out hb2)
  have z5 := row_kept HB3.out R5.out
  have Z5 := Lib.hid z5
  have f0 := Lib.frozen_of_heap z5 0
  have f1 := Lib.frozen_of_heap z5 1
  clear o0 o1 o2 o3 s0 s1 z0 z1 p0 p1 p2 m0 m1 m2 m3 m4
  obtain ⟨z0, z1⟩ := cells2V z5
  obtain ⟨o0, o1, o2, o3⟩ := cellsV (row_kept HB3.out R3.out)
  obtain ⟨s0, s1⟩ := cells2V (row_kept HB3.out R4.out)
  clear hT hU hb2 z5
  have hz5 := HZ.out
  have hq : decide (s.drop (s.length - t.length) = t) = true := decide_eq_true heq
  clear heq
  have hsub : ((s.length : Int) - (t.length : Int)).toNat = s.length - t.length := by omega
  obtain ⟨i0, hi0, hsz0⟩ := i3E
  have hcut := cut_from (P := Tryd.prog) 33 3 .i64 Tryd.underlying33 hi0 1 hsz0 A s.length cc ((s.length : Int) - (t.length : Int)) (by omega) (by omega)
  have hC := Kd.C_drop (k := Kd.int .i64) (m := s.length - t.length) (c := cc) (RI_own HO2.out) (by omega) hcc
  have hd : (s.drop (s.length - t.length)).length = s.length - ((s.length : Int) - (t.length : Int)).toNat := by rw [List.length_drop, hsub]
  rw [← hd, hsub] at hcut
  change (Kd.int .i64).C w2 (if cc = s.length - t.length then A else Option.map (fun x => x.add ((s.length - t.length) * 1)) A) _ _ at hC
  generalize (if cc = s.length - t.length then A else Option.map (fun x => x.add ((s.length - t.length) * 1)) A) = A' at hcut hC
  have hdc : (s.drop (s.length - t.length)).length ≤ cc - (s.length - t.length) := by rw [List.length_drop]; omega
  have hEq : Calls Tryd.prog 112 #[.slice A' (s.length - (s.length - t.length)) (cc - (s.length - t.length)), .slice T t.length tc] w2 fun e w' => e = .returned (.bool true) ∧ Below w2.heap.size w2 w' := by
    have := equal_calls (c := cc - (s.length - t.length)) (d := tc) hC hdc HT.out htc (by rw [List.length_drop]; omega)
    rw [List.length_drop, hq] at this
    exact this
  have HEQ := Lib.hid hEq
  clear hC hEq hd hdc hsub hq
  have hge : decide ((s.length : Int) - (t.length : Int) < 0) = false := by simp; omega
  go_wp2_with fail
  refine HEQ.out.mono ?_
  rintro e w3 ⟨rfl, hb3⟩
  have HB4 := Lib.hid (HB3.out.trans (hb3.mono HB3.out.size))
  have HO3 := Lib.hid (pw_own_below HO2.out hb3)
  clear z0 z1 o0 o1 o2 o3 s0 s1 f0 f1
  have z5 := row_kept HB4.out R5.out
  clear Z5
  have Z5 := Lib.hid z5
  have f0 := Lib.frozen_of_heap z5 0
  have f1 := Lib.frozen_of_heap z5 1
  obtain ⟨z0, z1⟩ := cells2V z5
  obtain ⟨o0, o1, o2, o3⟩ := cellsV (row_kept HB4.out R3.out)
  obtain ⟨s0, s1⟩ := cells2V (row_kept HB4.out R4.out)
  have hU3 := HU.out
  have HU3 := Lib.hid (Kd.C_below hU3 hb3)
  clear hb3 z5 hU3 HU
  obtain ⟨i0, hi0, hsz0⟩ := i3E
  have hcut2 := cut_to (P := Tryd.prog) 33 3 .i64 Tryd.underlying33 hi0 A s.length cc ((s.length : Int) - (t.length : Int)) (by omega) (by omega) hcc
  have hsub : ((s.length : Int) - (t.length : Int)).toNat = s.length - t.length := by omega
  rw [hsub] at hcut2
  have hTK : Kd.R (Kd.int .i64) 3 w3 W.heap.size (fun _ => True) (.slice A (s.length - t.length) cc) (s.take (s.length - t.length)) := by
    have h1 := own_take HO3.out (m := s.length - t.length) (by omega)
    refine Kd.R_of_own (enc := Value.int .i64) (h1 := fun _ => rfl) ?_ (fun _ _ => trivial)
    rw [List.length_take, Nat.min_eq_left (by omega)]
    rw [Nat.mul_one] at h1
    simpa [nums, encs, List.map_take] using h1
  have HTK := Lib.hid hTK
  have hlt : ((s.take (s.length - t.length)).length + u.length) * 8 ≤ 140737488355328 := by rw [List.length_take]; omega
  have HLT := Lib.hid hlt
  have hs4 := HB4.out.size
  clear hTK hlt hsub
  go_upto_region 21 with (fail)
  go_wp2_with (at_builtin; refine Kd.R_append_rows (Kd.int .i64) W.heap.size rfl (.tmp 90) (.tmp 91) 33 3 (.int .i64 0) 8 rfl Tryd.underlying33 info3V rfl (by decide) (by decide) (.slice A (s.length - t.length) cc) (s.take (s.length - t.length)) u U u.length uc (fun _ => True) (fun k => some k ≠ (Value.slice A (s.length - t.length) cc).ownBlock) rfl rfl HTK.out HU3.out (fun _ _ h => h) (fun k h => ⟨trivial, h⟩) (fun _ _ => trivial) HB4.out hs4 HLT.out ?_; intro v5 w5 ho5 hb5 _ _; obtain ⟨A5, c5, rfl⟩ := Kd.R_slice ho5; have HO5 := Lib.hid (Kd.own_of_R ho5); have HB6 := Lib.hid hb5; clear z0 z1 o0 o1 o2 o3 s0 s1 f0 f1; have z5 := row_kept hb5 R5.out; have Z6 := Lib.hid z5; have f0 := Lib.frozen_of_heap z5 0; have f1 := Lib.frozen_of_heap z5 1; obtain ⟨z0, z1⟩ := cells2V z5; clear ho5 hb5 z5)
  have hL : (s.take (s.length - t.length) ++ u).length = s.length - t.length + u.length := by rw [List.length_append, List.length_take]; omega
  have hown : w5.ownsRow W.heap.size 3 1 (.slice A5 (s.length - t.length + u.length) c5) (s.take (s.length - t.length) ++ u).length (nums .i64 (s.take (s.length - t.length) ++ u)) := by
    have := HO5.out
    rw [hL] at this ⊢
    exact this
  exact bodyPost_ret (v := .tuple #[.agg #[.slice A5 (s.length - t.length + u.length) c5, .int .i64 (h + 1)], .int .i64 0]) (results60 rfl rfl rfl (set2V Z6.out _ _)) rfl ⟨_, rfl, row_base (own_set2 hown (by omega) _ _) HB5.out.size, below_set2 (HB5.out.trans (HB6.out.mono HB5.out.size)) (by omega) _ _⟩
set_option maxRecDepth 100000 in
set_option maxHeartbeats 1600000 in
theorem effect_ex_few (a b o : Int) (s : List Int) (h : Int)  (hn : namedS p m 37 a b = true) (hp : PgC w A0 c0 A1 c1 A2 c2 p) (hm : MtC w B0 d0 B2 d2 B4 d4 m) (ha : I64 a) (t u : List Int) (htu : movesS p m 37 a b = (t, u)) (htl : t.length ≤ 100000) (hul : u.length ≤ 100000)
    (h0 : 0 ≤ h) (h10 : h ≤ 10) (hfew : s.length < t.length) (hs : Kd.C (Kd.int .i64) w S0 s.length s) (hsc : s.length ≤ sc) (hl : s.length ≤ 100000) :
    Calls Tryd.prog 60 #[.agg #[.slice A0 p.pool.length c0, .slice A1 p.classes.length c1, .slice A2 p.methods.length c2], .agg #[.slice B0 m.f0.length d0, .int .i64 m.f1, .slice B2 m.f2.length d2, .int .i64 m.f3, .slice B4 m.f4.length d4], .agg #[.int .i64 37, .int .i64 a, .int .i64 b, .int .i64 o], .agg #[.slice S0 s.length sc, .int .i64 h]] w (EffPost w (([], 0), 22)) := by
  have hmv : ∀ W, PgC W A0 c0 A1 c1 A2 c2 p → MtC W B0 d0 B2 d2 B4 d4 m → Calls Tryd.prog 111 #[.agg #[.slice A0 p.pool.length c0, .slice A1 p.classes.length c1, .slice A2 p.methods.length c2], .agg #[.slice B0 m.f0.length d0, .int .i64 m.f1, .slice B2 m.f2.length d2, .int .i64 m.f3, .slice B4 m.f4.length d4], .agg #[.int .i64 37, .int .i64 a, .int .i64 b, .int .i64 o]] W (MvPost W t u) := fun W h1 h2 => by
    have := moves_calls (w := W) 37 a b o (by decide) (by decide) (by decide) hn h1 h2 ha
    rw [htu] at this
    exact this
  have HMV := Lib.hid hmv
  have HP := Lib.hid hp
  have HM := Lib.hid hm
  clear hmv hp hm hn htu ha
  obtain ⟨hb5, hz5, r1, r2, r3, r4, r5⟩ := alloc5 w (obP A0 c0 A1 c1 A2 c2 p) (obM B0 d0 B2 d2 B4 d4 m) (obO 37 a b o) (obS S0 s.length sc h) obZ
  have HB5 := Lib.hid hb5
  have HS := Lib.hid hs
  have R1 := Lib.hid r1
  have R2 := Lib.hid r2
  have R3 := Lib.hid r3
  have R4 := Lib.hid r4
  have R5 := Lib.hid r5
  have HZ := Lib.hid hz5
  clear hb5 hz5 r1 r2 r3 r4 r5 hs
  go_enter Tryd.func60, Tryd.ntmps60
  go_wp2_with fail
  generalize ((((w.alloc (obP A0 c0 A1 c1 A2 c2 p)).alloc (obM B0 d0 B2 d2 B4 d4 m)).alloc (obO 37 a b o)).alloc (obS S0 s.length sc h)).alloc obZ = W at HB5 R1 R2 R3 R4 R5 HZ ⊢
  refine (clone_calls (Kd.C_below HS.out HB5.out) (by omega)).mono ?_
  rintro e w1 ⟨v1, rfl, ho1, hb1⟩
  obtain ⟨o0, o1, o2, o3⟩ := cellsV (row_kept hb1 R3.out)
  obtain ⟨s0, s1⟩ := cells2V (row_kept hb1 R4.out)
  obtain ⟨z0, z1⟩ := cells2V (row_kept hb1 R5.out)
  have HO1 := Lib.hid ho1
  have HB1 := Lib.hid hb1
  clear ho1 hb1
  obtain ⟨p0, p1, p2⟩ := cells3V (row_kept HB1.out R1.out)
  obtain ⟨m0, m1, m2, m3, m4⟩ := cells5V (row_kept HB1.out R2.out)
  go_wp2_with fail
  have HB2 := Lib.hid (HB5.out.trans (HB1.out.mono HB5.out.size))
  refine (HMV.out _ (HP.out.below HB2.out) (HM.out.below HB2.out)).mono ?_
  rintro e w2 ⟨v2, v3, rfl, ⟨T, tc, rfl, htc, hT⟩, ⟨U, uc, rfl, huc, hU⟩, hb2⟩
  obtain ⟨A, cc, rfl⟩ := own_slice HO1.out
  have hcc : s.length ≤ cc := by
    rcases HO1.out.2 with ⟨he, hn0⟩ | ⟨g, cap, cur, he, -, -, h3, -, -⟩
    · injection he with _ _ e3; omega
    · injection he with _ _ e3; omega
  have HT := Lib.hid hT
  have HU := Lib.hid hU
  have HB3 := Lib.hid (HB1.out.trans (hb2.mono HB1.out.size))
  have HO2 := Lib.hid (pw_own_below HO1.out hb2)
  have z5 := row_kept HB3.out R5.out
  have Z5 := Lib.hid z5
  have f0 := Lib.frozen_of_heap z5 0
  have f1 := Lib.frozen_of_heap z5 1
  clear o0 o1 o2 o3 s0 s1 z0 z1 p0 p1 p2 m0 m1 m2 m3 m4
  obtain ⟨z0, z1⟩ := cells2V z5
  obtain ⟨o0, o1, o2, o3⟩ := cellsV (row_kept HB3.out R3.out)
  obtain ⟨s0, s1⟩ := cells2V (row_kept HB3.out R4.out)
  clear hT hU hb2 z5
  have hz5 := HZ.out
  have hlt : ((s.length : Int) - (t.length : Int)) < 0 := by omega
  go_wp2_with fail
  exact bodyPost_ret (v := .tuple #[.agg #[.slice none 0 0, .int .i64 0], .int .i64 22]) (results60 rfl rfl rfl (set2V Z5.out _ _)) rfl ⟨_, rfl, ⟨rfl, .inl ⟨rfl, rfl⟩⟩, below_set2 (HB5.out.trans (HB3.out.mono HB5.out.size)) (by omega) _ _⟩
set_option maxRecDepth 100000 in
set_option maxHeartbeats 1600000 in
theorem effect_ex_type (a b o : Int) (s : List Int) (h : Int)  (hn : namedS p m 37 a b = true) (hp : PgC w A0 c0 A1 c1 A2 c2 p) (hm : MtC w B0 d0 B2 d2 B4 d4 m) (ha : I64 a) (t u : List Int) (htu : movesS p m 37 a b = (t, u)) (htl : t.length ≤ 100000) (hul : u.length ≤ 100000)
    (h0 : 0 ≤ h) (h10 : h ≤ 10) (hlen : t.length ≤ s.length) (hne : s.drop (s.length - t.length) ≠ t) (hs : Kd.C (Kd.int .i64) w S0 s.length s) (hsc : s.length ≤ sc) (hl : s.length ≤ 100000) :
    Calls Tryd.prog 60 #[.agg #[.slice A0 p.pool.length c0, .slice A1 p.classes.length c1, .slice A2 p.methods.length c2], .agg #[.slice B0 m.f0.length d0, .int .i64 m.f1, .slice B2 m.f2.length d2, .int .i64 m.f3, .slice B4 m.f4.length d4], .agg #[.int .i64 37, .int .i64 a, .int .i64 b, .int .i64 o], .agg #[.slice S0 s.length sc, .int .i64 h]] w (EffPost w (([], 0), 21)) := by
  have hmv : ∀ W, PgC W A0 c0 A1 c1 A2 c2 p → MtC W B0 d0 B2 d2 B4 d4 m → Calls Tryd.prog 111 #[.agg #[.slice A0 p.pool.length c0, .slice A1 p.classes.length c1, .slice A2 p.methods.length c2], .agg #[.slice B0 m.f0.length d0, .int .i64 m.f1, .slice B2 m.f2.length d2, .int .i64 m.f3, .slice B4 m.f4.length d4], .agg #[.int .i64 37, .int .i64 a, .int .i64 b, .int .i64 o]] W (MvPost W t u) := fun W h1 h2 => by
    have := moves_calls (w := W) 37 a b o (by decide) (by decide) (by decide) hn h1 h2 ha
    rw [htu] at this
    exact this
  have HMV := Lib.hid hmv
  have HP := Lib.hid hp
  have HM := Lib.hid hm
  clear hmv hp hm hn htu ha
  obtain ⟨hb5, hz5, r1, r2, r3, r4, r5⟩ := alloc5 w (obP A0 c0 A1 c1 A2 c2 p) (obM B0 d0 B2 d2 B4 d4 m) (obO 37 a b o) (obS S0 s.length sc h) obZ
  have HB5 := Lib.hid hb5
  have HS := Lib.hid hs
  have R1 := Lib.hid r1
  have R2 := Lib.hid r2
  have R3 := Lib.hid r3
  have R4 := Lib.hid r4
  have R5 := Lib.hid r5
  have HZ := Lib.hid hz5
  clear hb5 hz5 r1 r2 r3 r4 r5 hs
  go_enter Tryd.func60, Tryd.ntmps60
  go_wp2_with fail
  generalize ((((w.alloc (obP A0 c0 A1 c1 A2 c2 p)).alloc (obM B0 d0 B2 d2 B4 d4 m)).alloc (obO 37 a b o)).alloc (obS S0 s.length sc h)).alloc obZ = W at HB5 R1 R2 R3 R4 R5 HZ ⊢
  refine (clone_calls (Kd.C_below HS.out HB5.out) (by omega)).mono ?_
  rintro e w1 ⟨v1, rfl, ho1, hb1⟩
  obtain ⟨o0, o1, o2, o3⟩ := cellsV (row_kept hb1 R3.out)
  obtain ⟨s0, s1⟩ := cells2V (row_kept hb1 R4.out)
  obtain ⟨z0, z1⟩ := cells2V (row_kept hb1 R5.out)
  have HO1 := Lib.hid ho1
  have HB1 := Lib.hid hb1
  clear ho1 hb1
  obtain ⟨p0, p1, p2⟩ := cells3V (row_kept HB1.out R1.out)
  obtain ⟨m0, m1, m2, m3, m4⟩ := cells5V (row_kept HB1.out R2.out)
  go_wp2_with fail
  have HB2 := Lib.hid (HB5.out.trans (HB1.out.mono HB5.out.size))
  refine (HMV.out _ (HP.out.below HB2.out) (HM.out.below HB2.out)).mono ?_
  rintro e w2 ⟨v2, v3, rfl, ⟨T, tc, rfl, htc, hT⟩, ⟨U, uc, rfl, huc, hU⟩, hb2⟩
  obtain ⟨A, cc, rfl⟩ := own_slice HO1.out
  have hcc : s.length ≤ cc := by
    rcases HO1.out.2 with ⟨he, hn0⟩ | ⟨g, cap, cur, he, -, -, h3, -, -⟩
    · injection he with _ _ e3; omega
    · injection he with _ _ e3; omega
  have HT := Lib.hid hT
  have HU := Lib.hid hU
  have HB3 := Lib.hid (HB1.out.trans (hb2.mono HB1.out.size))
  have HO2 := Lib.hid (pw_own_below HO1.out hb2)
  have z5 := row_kept HB3.out R5.out
  have Z5 := Lib.hid z5
  have f0 := Lib.frozen_of_heap z5 0
  have f1 := Lib.frozen_of_heap z5 1
  clear o0 o1 o2 o3 s0 s1 z0 z1 p0 p1 p2 m0 m1 m2 m3 m4
  obtain ⟨z0, z1⟩ := cells2V z5
  obtain ⟨o0, o1, o2, o3⟩ := cellsV (row_kept HB3.out R3.out)
  obtain ⟨s0, s1⟩ := cells2V (row_kept HB3.out R4.out)
  clear hT hU hb2 z5
  have hz5 := HZ.out
  have hq : decide (s.drop (s.length - t.length) = t) = false := decide_eq_false hne
  clear hne
  have hsub : ((s.length : Int) - (t.length : Int)).toNat = s.length - t.length := by omega
  obtain ⟨i0, hi0, hsz0⟩ := i3E
  have hcut := cut_from (P := Tryd.prog) 33 3 .i64 Tryd.underlying33 hi0 1 hsz0 A s.length cc ((s.length : Int) - (t.length : Int)) (by omega) (by omega)
  have hC := Kd.C_drop (k := Kd.int .i64) (m := s.length - t.length) (c := cc) (RI_own HO2.out) (by omega) hcc
  have hd : (s.drop (s.length - t.length)).length = s.length - ((s.length : Int) - (t.length : Int)).toNat := by rw [List.length_drop, hsub]
  rw [← hd, hsub] at hcut
  change (Kd.int .i64).C w2 (if cc = s.length - t.length then A else Option.map (fun x => x.add ((s.length - t.length) * 1)) A) _ _ at hC
  generalize (if cc = s.length - t.length then A else Option.map (fun x => x.add ((s.length - t.length) * 1)) A) = A' at hcut hC
  have hdc : (s.drop (s.length - t.length)).length ≤ cc - (s.length - t.length) := by rw [List.length_drop]; omega
  have hEq : Calls Tryd.prog 112 #[.slice A' (s.length - (s.length - t.length)) (cc - (s.length - t.length)), .slice T t.length tc] w2 fun e w' => e = .returned (.bool false) ∧ Below w2.heap.size w2 w' := by
    have := equal_calls (c := cc - (s.length - t.length)) (d := tc) hC hdc HT.out htc (by rw [List.length_drop]; omega)
    rw [List.length_drop, hq] at this
    exact this
  have HEQ := Lib.hid hEq
  clear hC hEq hd hdc hsub hq
  have hge : decide ((s.length : Int) - (t.length : Int) < 0) = false := by simp; omega
  go_wp2_with fail
  refine HEQ.out.mono ?_
  rintro e w3 ⟨rfl, hb3⟩
  have HB4 := Lib.hid (HB3.out.trans (hb3.mono HB3.out.size))
  have HO3 := Lib.hid (pw_own_below HO2.out hb3)
  clear z0 z1 o0 o1 o2 o3 s0 s1 f0 f1
  have z5 := row_kept HB4.out R5.out
  clear Z5
  have Z5 := Lib.hid z5
  have f0 := Lib.frozen_of_heap z5 0
  have f1 := Lib.frozen_of_heap z5 1
  obtain ⟨z0, z1⟩ := cells2V z5
  obtain ⟨o0, o1, o2, o3⟩ := cellsV (row_kept HB4.out R3.out)
  obtain ⟨s0, s1⟩ := cells2V (row_kept HB4.out R4.out)
  have hU3 := HU.out
  have HU3 := Lib.hid (Kd.C_below hU3 hb3)
  clear hb3 z5 hU3 HU
  go_wp2_with fail
  exact bodyPost_ret (v := .tuple #[.agg #[.slice none 0 0, .int .i64 0], .int .i64 21]) (results60 rfl rfl rfl (set2V Z5.out _ _)) rfl ⟨_, rfl, ⟨rfl, .inl ⟨rfl, rfl⟩⟩, below_set2 (HB5.out.trans (HB4.out.mono HB5.out.size)) (by omega) _ _⟩
set_option maxRecDepth 100000 in
set_option maxHeartbeats 1600000 in
theorem effect_ex_ok (a b o : Int) (s : List Int) (h : Int)  (hn : namedS p m 37 a b = true) (hp : PgC w A0 c0 A1 c1 A2 c2 p) (hm : MtC w B0 d0 B2 d2 B4 d4 m) (ha : I64 a) (t u : List Int) (htu : movesS p m 37 a b = (t, u)) (htl : t.length ≤ 100000) (hul : u.length ≤ 100000)
    (h0 : 0 ≤ h) (h10 : h ≤ 10) (hlen : t.length ≤ s.length) (heq : s.drop (s.length - t.length) = t) (hx : 0 < h) (hs : Kd.C (Kd.int .i64) w S0 s.length s) (hsc : s.length ≤ sc) (hl : s.length ≤ 100000) :
    Calls Tryd.prog 60 #[.agg #[.slice A0 p.pool.length c0, .slice A1 p.classes.length c1, .slice A2 p.methods.length c2], .agg #[.slice B0 m.f0.length d0, .int .i64 m.f1, .slice B2 m.f2.length d2, .int .i64 m.f3, .slice B4 m.f4.length d4], .agg #[.int .i64 37, .int .i64 a, .int .i64 b, .int .i64 o], .agg #[.slice S0 s.length sc, .int .i64 h]] w (EffPost w ((s.take (s.length - t.length) ++ u, h - 1), 0)) := by
  have hmv : ∀ W, PgC W A0 c0 A1 c1 A2 c2 p → MtC W B0 d0 B2 d2 B4 d4 m → Calls Tryd.prog 111 #[.agg #[.slice A0 p.pool.length c0, .slice A1 p.classes.length c1, .slice A2 p.methods.length c2], .agg #[.slice B0 m.f0.length d0, .int .i64 m.f1, .slice B2 m.f2.length d2, .int .i64 m.f3, .slice B4 m.f4.length d4], .agg #[.int .i64 37, .int .i64 a, .int .i64 b, .int .i64 o]] W (MvPost W t u) := fun W h1 h2 => by
    have := moves_calls (w := W) 37 a b o (by decide) (by decide) (by decide) hn h1 h2 ha
    rw [htu] at this
    exact this
  have HMV := Lib.hid hmv
  have HP := Lib.hid hp
  have HM := Lib.hid hm
  have g1 : (h - 1 != h) = true := by rw [bne_iff_ne]; omega
  have g2 : decide (10 < h - 1) = false := by simp; omega
  have g3 : decide (h - 1 < 0) = false := by simp; omega
  clear hmv hp hm hn htu ha
  obtain ⟨hb5, hz5, r1, r2, r3, r4, r5⟩ := alloc5 w (obP A0 c0 A1 c1 A2 c2 p) (obM B0 d0 B2 d2 B4 d4 m) (obO 37 a b o) (obS S0 s.length sc h) obZ
  have HB5 := Lib.hid hb5
  have HS := Lib.hid hs
  have R1 := Lib.hid r1
  have R2 := Lib.hid r2
  have R3 := Lib.hid r3
  have R4 := Lib.hid r4
  have R5 := Lib.hid r5
  have HZ := Lib.hid hz5
  clear hb5 hz5 r1 r2 r3 r4 r5 hs
  go_enter Tryd.func60, Tryd.ntmps60
  go_wp2_with fail
  generalize ((((w.alloc (obP A0 c0 A1 c1 A2 c2 p)).alloc (obM B0 d0 B2 d2 B4 d4 m)).alloc (obO 37 a b o)).alloc (obS S0 s.length sc h)).alloc obZ = W at HB5 R1 R2 R3 R4 R5 HZ ⊢
  refine (clone_calls (Kd.C_below HS.out HB5.out) (by omega)).mono ?_
  rintro e w1 ⟨v1, rfl, ho1, hb1⟩
  obtain ⟨o0, o1, o2, o3⟩ := cellsV (row_kept hb1 R3.out)
  obtain ⟨s0, s1⟩ := cells2V (row_kept hb1 R4.out)
  obtain ⟨z0, z1⟩ := cells2V (row_kept hb1 R5.out)
  have HO1 := Lib.hid ho1
  have HB1 := Lib.hid hb1
  clear ho1 hb1
  obtain ⟨p0, p1, p2⟩ := cells3V (row_kept HB1.out R1.out)
  obtain ⟨m0, m1, m2, m3, m4⟩ := cells5V (row_kept HB1.out R2.out)
  go_wp2_with fail
  have HB2 := Lib.hid (HB5.out.trans (HB1.out.mono HB5.out.size))
  refine (HMV.out _ (HP.out.below HB2.out) (HM.out.below HB2.out)).mono ?_
  rintro e w2 ⟨v2, v3, rfl, ⟨T, tc, rfl, htc, hT⟩, ⟨U, uc, rfl, huc, hU⟩, hb2⟩
  obtain ⟨A, cc, rfl⟩ := own_slice HO1.out
  have hcc : s.length ≤ cc := by
    rcases HO1.out.2 with ⟨he, hn0⟩ | ⟨g, cap, cur, he, -, -, h3, -, -⟩
    · injection he with _ _ e3; omega
    · injection he with _ _ e3; omega
  have HT := Lib.hid hT
  have HU := Lib.hid hU
  have HB3 := Lib.hid (HB1.out.trans (hb2.mono HB1.out.size))
  have HO2 := Lib.hid (pw_own_below HO1.out hb2)
  have z5 := row_kept HB3.out R5.out
  have Z5 := Lib.hid z5
  have f0 := Lib.frozen_of_heap z5 0
  have f1 := Lib.frozen_of_heap z5 1
  clear o0 o1 o2 o3 s0 s1 z0 z1 p0 p1 p2 m0 m1 m2 m3 m4
  obtain ⟨z0, z1⟩ := cells2V z5
  obtain ⟨o0, o1, o2, o3⟩ := cellsV (row_kept HB3.out R3.out)
  obtain ⟨s0, s1⟩ := cells2V (row_kept HB3.out R4.out)
  clear hT hU hb2 z5
  have hz5 := HZ.out
  have hq : decide (s.drop (s.length - t.length) = t) = true := decide_eq_true heq
  clear heq
  have hsub : ((s.length : Int) - (t.length : Int)).toNat = s.length - t.length := by omega
  obtain ⟨i0, hi0, hsz0⟩ := i3E
  have hcut := cut_from (P := Tryd.prog) 33 3 .i64 Tryd.underlying33 hi0 1 hsz0 A s.length cc ((s.length : Int) - (t.length : Int)) (by omega) (by omega)
  have hC := Kd.C_drop (k := Kd.int .i64) (m := s.length - t.length) (c := cc) (RI_own HO2.out) (by omega) hcc
  have hd : (s.drop (s.length - t.length)).length = s.length - ((s.length : Int) - (t.length : Int)).toNat := by rw [List.length_drop, hsub]
  rw [← hd, hsub] at hcut
  change (Kd.int .i64).C w2 (if cc = s.length - t.length then A else Option.map (fun x => x.add ((s.length - t.length) * 1)) A) _ _ at hC
  generalize (if cc = s.length - t.length then A else Option.map (fun x => x.add ((s.length - t.length) * 1)) A) = A' at hcut hC
  have hdc : (s.drop (s.length - t.length)).length ≤ cc - (s.length - t.length) := by rw [List.length_drop]; omega
  have hEq : Calls Tryd.prog 112 #[.slice A' (s.length - (s.length - t.length)) (cc - (s.length - t.length)), .slice T t.length tc] w2 fun e w' => e = .returned (.bool true) ∧ Below w2.heap.size w2 w' := by
    have := equal_calls (c := cc - (s.length - t.length)) (d := tc) hC hdc HT.out htc (by rw [List.length_drop]; omega)
    rw [List.length_drop, hq] at this
    exact this
  have HEQ := Lib.hid hEq
  clear hC hEq hd hdc hsub hq
  have hge : decide ((s.length : Int) - (t.length : Int) < 0) = false := by simp; omega
  go_wp2_with fail
  refine HEQ.out.mono ?_
  rintro e w3 ⟨rfl, hb3⟩
  have HB4 := Lib.hid (HB3.out.trans (hb3.mono HB3.out.size))
  have HO3 := Lib.hid (pw_own_below HO2.out hb3)
  clear z0 z1 o0 o1 o2 o3 s0 s1 f0 f1
  have z5 := row_kept HB4.out R5.out
  clear Z5
  have Z5 := Lib.hid z5
  have f0 := Lib.frozen_of_heap z5 0
  have f1 := Lib.frozen_of_heap z5 1
  obtain ⟨z0, z1⟩ := cells2V z5
  obtain ⟨o0, o1, o2, o3⟩ := cellsV (row_kept HB4.out R3.out)
  obtain ⟨s0, s1⟩ := cells2V (row_kept HB4.out R4.out)
  have hU3 := HU.out
  have HU3 := Lib.hid (Kd.C_below hU3 hb3)
  clear hb3 z5 hU3 HU
  obtain ⟨i0, hi0, hsz0⟩ := i3E
  have hcut2 := cut_to (P := Tryd.prog) 33 3 .i64 Tryd.underlying33 hi0 A s.length cc ((s.length : Int) - (t.length : Int)) (by omega) (by omega) hcc
  have hsub : ((s.length : Int) - (t.length : Int)).toNat = s.length - t.length := by omega
  rw [hsub] at hcut2
  have hTK : Kd.R (Kd.int .i64) 3 w3 W.heap.size (fun _ => True) (.slice A (s.length - t.length) cc) (s.take (s.length - t.length)) := by
    have h1 := own_take HO3.out (m := s.length - t.length) (by omega)
    refine Kd.R_of_own (enc := Value.int .i64) (h1 := fun _ => rfl) ?_ (fun _ _ => trivial)
    rw [List.length_take, Nat.min_eq_left (by omega)]
    rw [Nat.mul_one] at h1
    simpa [nums, encs, List.map_take] using h1
  have HTK := Lib.hid hTK
  have hlt : ((s.take (s.length - t.length)).length + u.length) * 8 ≤ 140737488355328 := by rw [List.length_take]; omega
  have HLT := Lib.hid hlt
  have hs4 := HB4.out.size
  clear hTK hlt hsub
  go_upto_region 21 with (fail)
  go_wp2_with (at_builtin; refine Kd.R_append_rows (Kd.int .i64) W.heap.size rfl (.tmp 90) (.tmp 91) 33 3 (.int .i64 0) 8 rfl Tryd.underlying33 info3V rfl (by decide) (by decide) (.slice A (s.length - t.length) cc) (s.take (s.length - t.length)) u U u.length uc (fun _ => True) (fun k => some k ≠ (Value.slice A (s.length - t.length) cc).ownBlock) rfl rfl HTK.out HU3.out (fun _ _ h => h) (fun k h => ⟨trivial, h⟩) (fun _ _ => trivial) HB4.out hs4 HLT.out ?_; intro v5 w5 ho5 hb5 _ _; obtain ⟨A5, c5, rfl⟩ := Kd.R_slice ho5; have HO5 := Lib.hid (Kd.own_of_R ho5); have HB6 := Lib.hid hb5; clear z0 z1 o0 o1 o2 o3 s0 s1 f0 f1; have z5 := row_kept hb5 R5.out; have Z6 := Lib.hid z5; have f0 := Lib.frozen_of_heap z5 0; have f1 := Lib.frozen_of_heap z5 1; obtain ⟨z0, z1⟩ := cells2V z5; clear ho5 hb5 z5)
  have hL : (s.take (s.length - t.length) ++ u).length = s.length - t.length + u.length := by rw [List.length_append, List.length_take]; omega
  have hown : w5.ownsRow W.heap.size 3 1 (.slice A5 (s.length - t.length + u.length) c5) (s.take (s.length - t.length) ++ u).length (nums .i64 (s.take (s.length - t.length) ++ u)) := by
    have := HO5.out
    rw [hL] at this ⊢
    exact this
  exact bodyPost_ret (v := .tuple #[.agg #[.slice A5 (s.length - t.length + u.length) c5, .int .i64 (h - 1)], .int .i64 0]) (results60 rfl rfl rfl (set2V Z6.out _ _)) rfl ⟨_, rfl, row_base (own_set2 hown (by omega) _ _) HB5.out.size, below_set2 (HB5.out.trans (HB6.out.mono HB5.out.size)) (by omega) _ _⟩
set_option maxRecDepth 100000 in
set_option maxHeartbeats 1600000 in
theorem effect_en_held (a b o : Int) (s : List Int) (h : Int)  (hn : namedS p m 36 a b = true) (hp : PgC w A0 c0 A1 c1 A2 c2 p) (hm : MtC w B0 d0 B2 d2 B4 d4 m) (ha : I64 a) (t u : List Int) (htu : movesS p m 36 a b = (t, u)) (htl : t.length ≤ 100000) (hul : u.length ≤ 100000)
    (h0 : 0 ≤ h) (h10 : h ≤ 10) (hlen : t.length ≤ s.length) (heq : s.drop (s.length - t.length) = t) (hx : 10 ≤ h) (hs : Kd.C (Kd.int .i64) w S0 s.length s) (hsc : s.length ≤ sc) (hl : s.length ≤ 100000) :
    Calls Tryd.prog 60 #[.agg #[.slice A0 p.pool.length c0, .slice A1 p.classes.length c1, .slice A2 p.methods.length c2], .agg #[.slice B0 m.f0.length d0, .int .i64 m.f1, .slice B2 m.f2.length d2, .int .i64 m.f3, .slice B4 m.f4.length d4], .agg #[.int .i64 36, .int .i64 a, .int .i64 b, .int .i64 o], .agg #[.slice S0 s.length sc, .int .i64 h]] w (EffPost w (([], 0), 25)) := by
  have hmv : ∀ W, PgC W A0 c0 A1 c1 A2 c2 p → MtC W B0 d0 B2 d2 B4 d4 m → Calls Tryd.prog 111 #[.agg #[.slice A0 p.pool.length c0, .slice A1 p.classes.length c1, .slice A2 p.methods.length c2], .agg #[.slice B0 m.f0.length d0, .int .i64 m.f1, .slice B2 m.f2.length d2, .int .i64 m.f3, .slice B4 m.f4.length d4], .agg #[.int .i64 36, .int .i64 a, .int .i64 b, .int .i64 o]] W (MvPost W t u) := fun W h1 h2 => by
    have := moves_calls (w := W) 36 a b o (by decide) (by decide) (by decide) hn h1 h2 ha
    rw [htu] at this
    exact this
  have HMV := Lib.hid hmv
  have HP := Lib.hid hp
  have HM := Lib.hid hm
  have g1 : (h + 1 != h) = true := by rw [bne_iff_ne]; omega
  have g2 : decide (10 < h + 1) = true := by simp; omega
  clear hmv hp hm hn htu ha
  obtain ⟨hb5, hz5, r1, r2, r3, r4, r5⟩ := alloc5 w (obP A0 c0 A1 c1 A2 c2 p) (obM B0 d0 B2 d2 B4 d4 m) (obO 36 a b o) (obS S0 s.length sc h) obZ
  have HB5 := Lib.hid hb5
  have HS := Lib.hid hs
  have R1 := Lib.hid r1
  have R2 := Lib.hid r2
  have R3 := Lib.hid r3
  have R4 := Lib.hid r4
  have R5 := Lib.hid r5
  have HZ := Lib.hid hz5
  clear hb5 hz5 r1 r2 r3 r4 r5 hs
  go_enter Tryd.func60, Tryd.ntmps60
  go_wp2_with fail
  generalize ((((w.alloc (obP A0 c0 A1 c1 A2 c2 p)).alloc (obM B0 d0 B2 d2 B4 d4 m)).alloc (obO 36 a b o)).alloc (obS S0 s.length sc h)).alloc obZ = W at HB5 R1 R2 R3 R4 R5 HZ ⊢
  refine (clone_calls (Kd.C_below HS.out HB5.out) (by omega)).mono ?_
  rintro e w1 ⟨v1, rfl, ho1, hb1⟩
  obtain ⟨o0, o1, o2, o3⟩ := cellsV (row_kept hb1 R3.out)
  obtain ⟨s0, s1⟩ := cells2V (row_kept hb1 R4.out)
  obtain ⟨z0, z1⟩ := cells2V (row_kept hb1 R5.out)
  have HO1 := Lib.hid ho1
  have HB1 := Lib.hid hb1
  clear ho1 hb1
  obtain ⟨p0, p1, p2⟩ := cells3V (row_kept HB1.out R1.out)
  obtain ⟨m0, m1, m2, m3, m4⟩ := cells5V (row_kept HB1.out R2.out)
  go_wp2_with fail
  have HB2 := Lib.hid (HB5.out.trans (HB1.out.mono HB5.out.size))
  refine (HMV.out _ (HP.out.below HB2.out) (HM.out.below HB2.out)).mono ?_
  rintro e w2 ⟨v2, v3, rfl, ⟨T, tc, rfl, htc, hT⟩, ⟨U, uc, rfl, huc, hU⟩, hb2⟩
  obtain ⟨A, cc, rfl⟩ := own_slice HO1.out
  have hcc : s.length ≤ cc := by
    rcases HO1.out.2 with ⟨he, hn0⟩ | ⟨g, cap, cur, he, -, -, h3, -, -⟩
    · injection he with _ _ e3; omega
    · injection he with _ _ e3; omega
  have HT := Lib.hid hT
  have HU := Lib.hid hU
  have HB3 := Lib.hid (HB1.out.trans (hb2.mono HB1.out.size))
  have HO2 := Lib.hid (pw_own_below HO1.out hb2)
  have z5 := row_kept HB3.out R5.out
  have Z5 := Lib.hid z5
  have f0 := Lib.frozen_of_heap z5 0
  have f1 := Lib.frozen_of_heap z5 1
  clear o0 o1 o2 o3 s0 s1 z0 z1 p0 p1 p2 m0 m1 m2 m3 m4
  obtain ⟨z0, z1⟩ := cells2V z5
  obtain ⟨o0, o1, o2, o3⟩ := cellsV (row_kept HB3.out R3.out)
  obtain ⟨s0, s1⟩ := cells2V (row_kept HB3.out R4.out)
  clear hT hU hb2 z5
  have hz5 := HZ.out
  have hq : decide (s.drop (s.length - t.length) = t) = true := decide_eq_true heq
  clear heq
  have hsub : ((s.length : Int) - (t.length : Int)).toNat = s.length - t.length := by omega
  obtain ⟨i0, hi0, hsz0⟩ := i3E
  have hcut := cut_from (P := Tryd.prog) 33 3 .i64 Tryd.underlying33 hi0 1 hsz0 A s.length cc ((s.length : Int) - (t.length : Int)) (by omega) (by omega)
  have hC := Kd.C_drop (k := Kd.int .i64) (m := s.length - t.length) (c := cc) (RI_own HO2.out) (by omega) hcc
  have hd : (s.drop (s.length - t.length)).length = s.length - ((s.length : Int) - (t.length : Int)).toNat := by rw [List.length_drop, hsub]
  rw [← hd, hsub] at hcut
  change (Kd.int .i64).C w2 (if cc = s.length - t.length then A else Option.map (fun x => x.add ((s.length - t.length) * 1)) A) _ _ at hC
  generalize (if cc = s.length - t.length then A else Option.map (fun x => x.add ((s.length - t.length) * 1)) A) = A' at hcut hC
  have hdc : (s.drop (s.length - t.length)).length ≤ cc - (s.length - t.length) := by rw [List.length_drop]; omega
  have hEq : Calls Tryd.prog 112 #[.slice A' (s.length - (s.length - t.length)) (cc - (s.length - t.length)), .slice T t.length tc] w2 fun e w' => e = .returned (.bool true) ∧ Below w2.heap.size w2 w' := by
    have := equal_calls (c := cc - (s.length - t.length)) (d := tc) hC hdc HT.out htc (by rw [List.length_drop]; omega)
    rw [List.length_drop, hq] at this
    exact this
  have HEQ := Lib.hid hEq
  clear hC hEq hd hdc hsub hq
  have hge : decide ((s.length : Int) - (t.length : Int) < 0) = false := by simp; omega
  go_wp2_with fail
  refine HEQ.out.mono ?_
  rintro e w3 ⟨rfl, hb3⟩
  have HB4 := Lib.hid (HB3.out.trans (hb3.mono HB3.out.size))
  have HO3 := Lib.hid (pw_own_below HO2.out hb3)
  clear z0 z1 o0 o1 o2 o3 s0 s1 f0 f1
  have z5 := row_kept HB4.out R5.out
  clear Z5
  have Z5 := Lib.hid z5
  have f0 := Lib.frozen_of_heap z5 0
  have f1 := Lib.frozen_of_heap z5 1
  obtain ⟨z0, z1⟩ := cells2V z5
  obtain ⟨o0, o1, o2, o3⟩ := cellsV (row_kept HB4.out R3.out)
  obtain ⟨s0, s1⟩ := cells2V (row_kept HB4.out R4.out)
  have hU3 := HU.out
  have HU3 := Lib.hid (Kd.C_below hU3 hb3)
  clear hb3 z5 hU3 HU
  obtain ⟨i0, hi0, hsz0⟩ := i3E
  have _hcut2 := cut_to (P := Tryd.prog) 33 3 .i64 Tryd.underlying33 hi0 A s.length cc ((s.length : Int) - (t.length : Int)) (by omega) (by omega) hcc
  have hsub : ((s.length : Int) - (t.length : Int)).toNat = s.length - t.length := by omega
  clear hsub _hcut2
  go_wp2_with fail
  exact bodyPost_ret (v := .tuple #[.agg #[.slice none 0 0, .int .i64 0], .int .i64 25]) (results60 rfl rfl rfl (set2V Z5.out _ _)) rfl ⟨_, rfl, ⟨rfl, .inl ⟨rfl, rfl⟩⟩, below_set2 (HB5.out.trans (HB4.out.mono HB5.out.size)) (by omega) _ _⟩
set_option maxRecDepth 100000 in
set_option maxHeartbeats 1600000 in
theorem effect_ex_held (a b o : Int) (s : List Int) (h : Int)  (hn : namedS p m 37 a b = true) (hp : PgC w A0 c0 A1 c1 A2 c2 p) (hm : MtC w B0 d0 B2 d2 B4 d4 m) (ha : I64 a) (t u : List Int) (htu : movesS p m 37 a b = (t, u)) (htl : t.length ≤ 100000) (hul : u.length ≤ 100000)
    (h0 : 0 ≤ h) (h10 : h ≤ 10) (hlen : t.length ≤ s.length) (heq : s.drop (s.length - t.length) = t) (hx : h ≤ 0) (hs : Kd.C (Kd.int .i64) w S0 s.length s) (hsc : s.length ≤ sc) (hl : s.length ≤ 100000) :
    Calls Tryd.prog 60 #[.agg #[.slice A0 p.pool.length c0, .slice A1 p.classes.length c1, .slice A2 p.methods.length c2], .agg #[.slice B0 m.f0.length d0, .int .i64 m.f1, .slice B2 m.f2.length d2, .int .i64 m.f3, .slice B4 m.f4.length d4], .agg #[.int .i64 37, .int .i64 a, .int .i64 b, .int .i64 o], .agg #[.slice S0 s.length sc, .int .i64 h]] w (EffPost w (([], 0), 25)) := by
  have hmv : ∀ W, PgC W A0 c0 A1 c1 A2 c2 p → MtC W B0 d0 B2 d2 B4 d4 m → Calls Tryd.prog 111 #[.agg #[.slice A0 p.pool.length c0, .slice A1 p.classes.length c1, .slice A2 p.methods.length c2], .agg #[.slice B0 m.f0.length d0, .int .i64 m.f1, .slice B2 m.f2.length d2, .int .i64 m.f3, .slice B4 m.f4.length d4], .agg #[.int .i64 37, .int .i64 a, .int .i64 b, .int .i64 o]] W (MvPost W t u) := fun W h1 h2 => by
    have := moves_calls (w := W) 37 a b o (by decide) (by decide) (by decide) hn h1 h2 ha
    rw [htu] at this
    exact this
  have HMV := Lib.hid hmv
  have HP := Lib.hid hp
  have HM := Lib.hid hm
  have g1 : (h - 1 != h) = true := by rw [bne_iff_ne]; omega
  have g2 : decide (10 < h - 1) = false := by simp; omega
  have g3 : decide (h - 1 < 0) = true := by simp; omega
  clear hmv hp hm hn htu ha
  obtain ⟨hb5, hz5, r1, r2, r3, r4, r5⟩ := alloc5 w (obP A0 c0 A1 c1 A2 c2 p) (obM B0 d0 B2 d2 B4 d4 m) (obO 37 a b o) (obS S0 s.length sc h) obZ
  have HB5 := Lib.hid hb5
  have HS := Lib.hid hs
  have R1 := Lib.hid r1
  have R2 := Lib.hid r2
  have R3 := Lib.hid r3
  have R4 := Lib.hid r4
  have R5 := Lib.hid r5
  have HZ := Lib.hid hz5
  clear hb5 hz5 r1 r2 r3 r4 r5 hs
  go_enter Tryd.func60, Tryd.ntmps60
  go_wp2_with fail
  generalize ((((w.alloc (obP A0 c0 A1 c1 A2 c2 p)).alloc (obM B0 d0 B2 d2 B4 d4 m)).alloc (obO 37 a b o)).alloc (obS S0 s.length sc h)).alloc obZ = W at HB5 R1 R2 R3 R4 R5 HZ ⊢
  refine (clone_calls (Kd.C_below HS.out HB5.out) (by omega)).mono ?_
  rintro e w1 ⟨v1, rfl, ho1, hb1⟩
  obtain ⟨o0, o1, o2, o3⟩ := cellsV (row_kept hb1 R3.out)
  obtain ⟨s0, s1⟩ := cells2V (row_kept hb1 R4.out)
  obtain ⟨z0, z1⟩ := cells2V (row_kept hb1 R5.out)
  have HO1 := Lib.hid ho1
  have HB1 := Lib.hid hb1
  clear ho1 hb1
  obtain ⟨p0, p1, p2⟩ := cells3V (row_kept HB1.out R1.out)
  obtain ⟨m0, m1, m2, m3, m4⟩ := cells5V (row_kept HB1.out R2.out)
  go_wp2_with fail
  have HB2 := Lib.hid (HB5.out.trans (HB1.out.mono HB5.out.size))
  refine (HMV.out _ (HP.out.below HB2.out) (HM.out.below HB2.out)).mono ?_
  rintro e w2 ⟨v2, v3, rfl, ⟨T, tc, rfl, htc, hT⟩, ⟨U, uc, rfl, huc, hU⟩, hb2⟩
  obtain ⟨A, cc, rfl⟩ := own_slice HO1.out
  have hcc : s.length ≤ cc := by
    rcases HO1.out.2 with ⟨he, hn0⟩ | ⟨g, cap, cur, he, -, -, h3, -, -⟩
    · injection he with _ _ e3; omega
    · injection he with _ _ e3; omega
  have HT := Lib.hid hT
  have HU := Lib.hid hU
  have HB3 := Lib.hid (HB1.out.trans (hb2.mono HB1.out.size))
  have HO2 := Lib.hid (pw_own_below HO1.out hb2)
  have z5 := row_kept HB3.out R5.out
  have Z5 := Lib.hid z5
  have f0 := Lib.frozen_of_heap z5 0
  have f1 := Lib.frozen_of_heap z5 1
  clear o0 o1 o2 o3 s0 s1 z0 z1 p0 p1 p2 m0 m1 m2 m3 m4
  obtain ⟨z0, z1⟩ := cells2V z5
  obtain ⟨o0, o1, o2, o3⟩ := cellsV (row_kept HB3.out R3.out)
  obtain ⟨s0, s1⟩ := cells2V (row_kept HB3.out R4.out)
  clear hT hU hb2 z5
  have hz5 := HZ.out
  have hq : decide (s.drop (s.length - t.length) = t) = true := decide_eq_true heq
  clear heq
  have hsub : ((s.length : Int) - (t.length : Int)).toNat = s.length - t.length := by omega
  obtain ⟨i0, hi0, hsz0⟩ := i3E
  have hcut := cut_from (P := Tryd.prog) 33 3 .i64 Tryd.underlying33 hi0 1 hsz0 A s.length cc ((s.length : Int) - (t.length : Int)) (by omega) (by omega)
  have hC := Kd.C_drop (k := Kd.int .i64) (m := s.length - t.length) (c := cc) (RI_own HO2.out) (by omega) hcc
  have hd : (s.drop (s.length - t.length)).length = s.length - ((s.length : Int) - (t.length : Int)).toNat := by rw [List.length_drop, hsub]
  rw [← hd, hsub] at hcut
  change (Kd.int .i64).C w2 (if cc = s.length - t.length then A else Option.map (fun x => x.add ((s.length - t.length) * 1)) A) _ _ at hC
  generalize (if cc = s.length - t.length then A else Option.map (fun x => x.add ((s.length - t.length) * 1)) A) = A' at hcut hC
  have hdc : (s.drop (s.length - t.length)).length ≤ cc - (s.length - t.length) := by rw [List.length_drop]; omega
  have hEq : Calls Tryd.prog 112 #[.slice A' (s.length - (s.length - t.length)) (cc - (s.length - t.length)), .slice T t.length tc] w2 fun e w' => e = .returned (.bool true) ∧ Below w2.heap.size w2 w' := by
    have := equal_calls (c := cc - (s.length - t.length)) (d := tc) hC hdc HT.out htc (by rw [List.length_drop]; omega)
    rw [List.length_drop, hq] at this
    exact this
  have HEQ := Lib.hid hEq
  clear hC hEq hd hdc hsub hq
  have hge : decide ((s.length : Int) - (t.length : Int) < 0) = false := by simp; omega
  go_wp2_with fail
  refine HEQ.out.mono ?_
  rintro e w3 ⟨rfl, hb3⟩
  have HB4 := Lib.hid (HB3.out.trans (hb3.mono HB3.out.size))
  have HO3 := Lib.hid (pw_own_below HO2.out hb3)
  clear z0 z1 o0 o1 o2 o3 s0 s1 f0 f1
  have z5 := row_kept HB4.out R5.out
  clear Z5
  have Z5 := Lib.hid z5
  have f0 := Lib.frozen_of_heap z5 0
  have f1 := Lib.frozen_of_heap z5 1
  obtain ⟨z0, z1⟩ := cells2V z5
  obtain ⟨o0, o1, o2, o3⟩ := cellsV (row_kept HB4.out R3.out)
  obtain ⟨s0, s1⟩ := cells2V (row_kept HB4.out R4.out)
  have hU3 := HU.out
  have HU3 := Lib.hid (Kd.C_below hU3 hb3)
  clear hb3 z5 hU3 HU
  obtain ⟨i0, hi0, hsz0⟩ := i3E
  have _hcut2 := cut_to (P := Tryd.prog) 33 3 .i64 Tryd.underlying33 hi0 A s.length cc ((s.length : Int) - (t.length : Int)) (by omega) (by omega) hcc
  have hsub : ((s.length : Int) - (t.length : Int)).toNat = s.length - t.length := by omega
  clear hsub _hcut2
  go_wp2_with fail
  exact bodyPost_ret (v := .tuple #[.agg #[.slice none 0 0, .int .i64 0], .int .i64 25]) (results60 rfl rfl rfl (set2V Z5.out _ _)) rfl ⟨_, rfl, ⟨rfl, .inl ⟨rfl, rfl⟩⟩, below_set2 (HB5.out.trans (HB4.out.mono HB5.out.size)) (by omega) _ _⟩
end
end Go.Proofs.YtkphijabhoppnaaDoor
