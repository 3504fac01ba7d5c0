/- The shape behind a bytecode, by the reference (brazierref15.Effect). -/
import Derived.Test.YtkphijabhoppnaaDoorAYd
import Derived.Test.YtkphijabhoppnaaDoorAYc
import Derived.Test.YtkphijabhoppnaaDoorAYg
import Derived.Deep.LoopGhost
namespace Go.Proofs.YtkphijabhoppnaaDoor
open Go.RowKit Go.Proofs.YtkphijabhoppnaaDoorW.PrintWords
set_option linter.unusedSimpArgs false
set_option linter.unusedVariables false
theorem results138 {tmps : Array Value} {W : World} {g : Nat} {fr : Nat × Nat} {v : Value} {h e : Int} (h8 : tmps.getD 8 undef = .pointer (some ⟨g, 0, none⟩)) (h9 : tmps.getD 9 undef = .int .i64 e) (hv : v.oneCell' = true)
    (hrow : W.heap[g]? = some (.cells #[v, .int .i64 h] 82 fr)) : (results Tryd.f138 tmps).run Tryd.prog W = .ok (.tuple #[.agg #[v, .int .i64 h], .int .i64 e]) W := by
  rw [results_cell_tmp (fn := Tryd.f138) rfl, h8, h9]
  simp only [asAddr, Sem.run_pure, Result.andThen_ok, run_loadVar_row W g 82 82 _ fr _ hrow Tryd.underlying82 rfl (by kernel_rfl)]
theorem own_other {W : World} {base g n : Nat} {v : Value} {xs : List Value} {cs : Array Value} {fr : Nat × Nat} (h : W.ownsRow base 3 1 v n xs) (hr : W.heap[g]? = some (.cells cs 82 fr)) (i : Nat) (u : Value) : (W.setCell ⟨g, i, none⟩ u).ownsRow base 3 1 v n xs :=
  own_move h fun k hk => Below.heap_setCell _ ⟨g, i, none⟩ _ k fun e => by
    obtain ⟨cells, hc⟩ := own_typed h k hk
    have e : k = g := e
    rw [e, hr] at hc
    simp at hc
theorem own_ne {W : World} {base g n : Nat} {v : Value} {xs : List Value} {cs : Array Value} {fr : Nat × Nat} (h : W.ownsRow base 3 1 v n xs) (hr : W.heap[g]? = some (.cells cs 82 fr)) : some g ≠ v.ownBlock := fun e => by
  obtain ⟨cells, hc⟩ := own_typed h g e.symm
  rw [hr] at hc
  simp at hc
abbrev obZ2 : Obj := .cells #[.slice none 0 0, .int .i64 0] 82
theorem cell_set2 {W : World} {g k i : Nat} {u v x : Value} (h : W.cell? ⟨k, i, none⟩ = some x) (hne : k ≠ g) : ((W.setCell ⟨g, 0, none⟩ u).setCell ⟨g, 1, none⟩ v).cell? ⟨k, i, none⟩ = some x :=
  (cell_far (p := ⟨g, 1, none⟩) hne _).trans ((cell_far (p := ⟨g, 0, none⟩) hne _).trans h)
def Fin17 (X : World) (h : Int) (r : List Int) (s16 : Value) (Y : World) : Prop :=
  ∃ g v, s16 = .pointer (some ⟨g, 0, none⟩) ∧ X.heap.size ≤ g ∧ v.oneCell' = true ∧ Y.heap[g]? = some (.cells #[v, .int .i64 h] 82 (0, 0)) ∧ Y.ownsRow X.heap.size 3 1 v r.length (nums .i64 r) ∧ Below X.heap.size X Y
theorem fin17 {X Z : World} {g : Nat} {v : Value} {r : List Int} {h : Int} (hz : Z.heap[g]? = some obZ2) (hg : X.heap.size ≤ g) (ho : Z.ownsRow X.heap.size 3 1 v r.length (nums .i64 r)) (hb : Below X.heap.size X Z) :
    Fin17 X h r (.pointer (some ⟨g, 0, none⟩)) ((Z.setCell ⟨g, 0, none⟩ v).setCell ⟨g, 1, none⟩ (.int .i64 h)) := by
  obtain ⟨A, c, rfl⟩ := own_slice ho
  exact ⟨g, _, rfl, hg, rfl, set2V hz _ _, own_other (own_other ho hz _ _) (set2a hz _) _ _, below_set2 hb hg _ _⟩
theorem fin17b {X Z : World} {v : Value} {r : List Int} {h : Int} (ho : Z.ownsRow X.heap.size 3 1 v r.length (nums .i64 r)) (hb : Below X.heap.size X Z) :
    Fin17 X h r (.pointer (some ⟨Z.heap.size, 0, none⟩)) (Z.alloc (.cells #[v, .int .i64 h] 82)) := by
  obtain ⟨A, c, rfl⟩ := own_slice ho
  exact ⟨_, _, rfl, hb.size, rfl, heap_alloc_new _ _, ho.alloc _, hb.alloc hb.size _⟩
theorem fin138 {w Y : World} {g8 : Nat} {a b v : Value} {fr : Nat × Nat} {r : List Int} (hh : Int) (hr : Y.heap[g8]? = some (.cells #[a, b] 82 fr)) (hw : w.heap.size ≤ g8) (ho : Y.ownsRow w.heap.size 3 1 v r.length (nums .i64 r)) (hb : Below w.heap.size w Y) :
    EffPost w ((r, hh), 0) (.returned (.tuple #[.agg #[v, .int .i64 hh], .int .i64 0])) ((Y.setCell ⟨g8, 0, none⟩ v).setCell ⟨g8, 1, none⟩ (.int .i64 hh)) :=
  ⟨v, rfl, own_other (own_other ho hr _ _) (set2a hr _) _ _, below_set2 hb hw _ _⟩
theorem fin138e {w Y : World} {g8 : Nat} (e : Int) (hw : w.heap.size ≤ g8) (hb : Below w.heap.size w Y) :
    EffPost w (([], 0), e) (.returned (.tuple #[.agg #[.slice none 0 0, .int .i64 0], .int .i64 e])) ((Y.setCell ⟨g8, 0, none⟩ (.slice none 0 0)).setCell ⟨g8, 1, none⟩ (.int .i64 0)) :=
  ⟨_, rfl, ⟨rfl, .inl ⟨rfl, rfl⟩⟩, below_set2 hb hw _ _⟩
abbrev obO2 (c a b o : Int) : Obj := .cells #[.int .i64 c, .int .i64 a, .int .i64 b, .int .i64 o] 29
theorem alloc4 (w : World) (o1 o2 o3 o4 : Obj) : Below w.heap.size w ((((w.alloc o1).alloc o2).alloc o3).alloc o4) ∧ ((((w.alloc o1).alloc o2).alloc o3).alloc o4).heap.size = w.heap.size + 4 ∧
    ((((w.alloc o1).alloc o2).alloc o3).alloc o4).heap[w.heap.size]? = some o1 ∧ ((((w.alloc o1).alloc o2).alloc o3).alloc o4).heap[w.heap.size + 1]? = some o2 ∧
    ((((w.alloc o1).alloc o2).alloc o3).alloc o4).heap[w.heap.size + 1 + 1]? = some o3 ∧ ((((w.alloc o1).alloc o2).alloc o3).alloc o4).heap[w.heap.size + 1 + 1 + 1]? = some o4 := by
  have s1 : (w.alloc o1).heap.size = w.heap.size + 1 := by simp
  have s2 : ((w.alloc o1).alloc o2).heap.size = w.heap.size + 1 + 1 := by simp
  have s3 : (((w.alloc o1).alloc o2).alloc o3).heap.size = w.heap.size + 1 + 1 + 1 := by simp
  have r1 := heap_alloc_new w o1
  have r2 := heap_alloc_new (w.alloc o1) o2
  have r3 := heap_alloc_new ((w.alloc o1).alloc o2) o3
  have r4 := heap_alloc_new (((w.alloc o1).alloc o2).alloc o3) o4
  rw [s1] at r2; rw [s2] at r3; rw [s3] at r4
  exact ⟨((((Below.refl _ w).alloc (Nat.le_refl _) _).alloc (by omega) _).alloc (by omega) _).alloc (by omega) _, by simp, row_alloc (row_alloc (row_alloc r1 _) _) _, row_alloc (row_alloc r2 _) _, row_alloc r3 _, r4⟩
section
variable {w : World} {A0 A1 A2 S0 : Option Addr} {c0 c1 c2 sc : Nat} {p : Pg}
set_option maxRecDepth 100000 in
set_option maxHeartbeats 6400000 in
theorem rEffect_calls (hp : PgX w A0 c0 A1 c1 A2 c2 p) (hf : FewPar p) (k : Nat) (hk : k < p.methods.length) (hlm : (methS p k).f0.length ≤ 1000000 ∧ (methS p k).f2.length ≤ 1000000) (c a b o : Int) (s : Shp) (hc0 : 0 ≤ c) (hc1 : c ≤ 40) (hn : namedS p (methS p k) c a b = true)
    (h0 : 0 ≤ s.2) (h10 : s.2 ≤ 10) (hs : Kd.C (Kd.int .i64) w S0 s.1.length s.1) (hsc : s.1.length ≤ sc) (hl : s.1.length ≤ 100000) :
    Calls Tryd.prog 138 #[.agg #[.slice A0 p.pool.length c0, .slice A1 p.classes.length c1, .slice A2 p.methods.length c2], .int .i64 k, .agg #[.int .i64 c, .int .i64 a, .int .i64 b, .int .i64 o], .agg #[.slice S0 s.1.length sc, .int .i64 s.2]] w (EffPost w (effectS p (methS p k) c a b s)) := by
  have hIn := fun V => in_callsB (k : Int) p.methods.length V
  rw [inS_true (by omega) (by omega)] at hIn
  have hNm : ∀ V, Below w.heap.size w V → Calls Tryd.prog 100 #[.agg #[.slice A0 p.pool.length c0, .slice A1 p.classes.length c1, .slice A2 p.methods.length c2], .int .i64 k, .agg #[.int .i64 c, .int .i64 a, .int .i64 b, .int .i64 o]] V fun e w' => e = .returned (.bool true) ∧ Below V.heap.size V w' := fun V hV => by
    have := rnamed_calls (hp.below hV) k hk hlm c a b o
    rwa [hn] at this
  obtain ⟨s, h⟩ := s
  dsimp only at h0 h10 hs hsc hl ⊢
  obtain ⟨f, hfe⟩ : ∃ f, effectS p (methS p k) c a b (s, h) = f := ⟨_, rfl⟩
  rw [hfe]
  obtain ⟨hb4, hz4, r1, r2, r3, r4⟩ := alloc4 w (obP A0 c0 A1 c1 A2 c2 p) (obO2 c a b o) (obR S0 s.length sc h) obZ2
  have u1 : decide (c < 0) = false := decide_eq_false (by omega)
  have u2 : decide (40 < c) = false := decide_eq_false (by omega)
  have HIn := Lib.hid hIn
  have HNm := Lib.hid hNm
  have HP := Lib.hid hp
  have HF := Lib.hid hf
  have HK := Lib.hid hk
  have HLM := Lib.hid hlm
  have HC := Lib.hid (And.intro hc0 hc1)
  have HN := Lib.hid hn
  have HH := Lib.hid (And.intro h0 h10)
  have HS := Lib.hid hs
  have HL := Lib.hid (And.intro hsc hl)
  have HFE := Lib.hid hfe
  have HB4 := Lib.hid hb4
  have HZ := Lib.hid hz4
  have R1 := Lib.hid r1
  have R2 := Lib.hid r2
  have R3 := Lib.hid r3
  have R4 := Lib.hid r4
  clear hIn hNm hp hf hk hlm hc0 hc1 hn h0 h10 hs hsc hl hfe hb4 hz4 r1 r2 r3 r4
  go_enter Tryd.func138, Tryd.ntmps138
  go_upto_region 1 with fail
  generalize (((w.alloc (obP A0 c0 A1 c1 A2 c2 p)).alloc (obO2 c a b o)).alloc (obR S0 s.length sc h)).alloc obZ2 = V at HB4 HZ R1 R2 R3 R4 ⊢
  obtain ⟨y0, y1, y2⟩ := cells3V R1.out
  go_cut [39] from 145 (fun s Y => s = .bool false ∧ Below V.heap.size V Y)
  case first =>
    go_wp2_with (first | (go_at_call 99; refine (HIn.out _).mono ?_; rintro e w1 ⟨rfl, hb1⟩; clear y0 y1 y2; obtain ⟨y0, y1, y2⟩ := cells3V (row_kept hb1 R1.out); obtain ⟨o0, o1, o2, o3⟩ := cellsV (row_kept hb1 R2.out); have B1 := Lib.hid hb1; clear hb1) | (go_at_call 100; refine (HNm.out _ (HB4.out.trans (B1.out.mono HB4.out.size))).mono ?_; rintro e w2 ⟨rfl, hb2⟩))
    go_meet
    case rel => exact ⟨rfl, B1.out.trans (hb2.mono B1.out.size)⟩
  case rest =>
    obtain ⟨rfl, hbY⟩ := hcut
    clear y0 y1 y2 u1 u2
    have hBw := HB4.out.trans (hbY.mono HB4.out.size)
    have q1 := row_kept hbY R1.out
    have q2 := row_kept hbY R2.out
    have q3 := row_kept hbY R3.out
    have q4 := row_kept hbY R4.out
    have hzY : w.heap.size + 4 ≤ wc.heap.size := by have h1 := HZ.out; have h2 := hbY.size; omega
    clear HB4 HZ R1 R2 R3 R4 hbY HIn HNm
    have HBw := Lib.hid hBw
    have R1 := Lib.hid q1
    have R2 := Lib.hid q2
    have R3 := Lib.hid q3
    have R4 := Lib.hid q4
    have HZ := Lib.hid hzY
    have HSc := Lib.hid (Kd.C_below HS.out hBw)
    obtain ⟨y0, y1, y2⟩ := cells3V q1
    obtain ⟨o0, o1, o2, o3⟩ := cellsV q2
    obtain ⟨s0, s1⟩ := cells2V q3
    clear hBw q1 q2 q3 q4 hzY
    by_cases h6 : c = 6 ∨ c = 7 ∨ c = 8
    · have v1 : decide (6 ≤ c) = true := decide_eq_true (by omega)
      have v2 : decide (c ≤ 8) = true := decide_eq_true (by omega)
      have hany := rany_calls c h6 s HSc.out HL.out.1 HL.out.2
      have hfe := HFE.out
      unfold effectS at hfe
      rw [if_pos h6] at hfe
      dsimp only at hfe
      cases hsh : shuffleS c s with
      | none =>
        rw [hsh] at hany hfe
        dsimp only at hany hfe
        subst hfe
        clear h6 hsh
        go_wp2_with (first | (go_at_call 164; refine hany.mono ?_; rintro e w2 ⟨v, rfl, ho, hb⟩; have z4 := row_kept hb R4.out; have fz0 := Lib.frozen_of_heap z4 0; have fz1 := Lib.frozen_of_heap z4 1; obtain ⟨z0, z1⟩ := cells2V z4; have Z4 := Lib.hid z4; have HB2 := Lib.hid hb; clear z4 hb ho))
        have hz := HZ.out
        exact bodyPost_ret (v := .tuple #[.agg #[.slice none 0 0, .int .i64 0], .int .i64 22]) (results138 rfl rfl rfl (set2V Z4.out _ _)) rfl ⟨_, rfl, ⟨rfl, .inl ⟨rfl, rfl⟩⟩, below_set2 (HBw.out.trans (HB2.out.mono HBw.out.size)) (by omega) _ _⟩
      | some r =>
        rw [hsh] at hany hfe
        dsimp only at hany hfe
        subst hfe
        clear h6 hsh
        go_wp2_with (first | (go_at_call 164; refine hany.mono ?_; rintro e w2 ⟨v, rfl, ho, hb⟩; obtain ⟨A, cq, rfl⟩ := own_slice ho; have z4 := row_kept hb R4.out; have fz0 := Lib.frozen_of_heap z4 0; have fz1 := Lib.frozen_of_heap z4 1; obtain ⟨z0, z1⟩ := cells2V z4; clear s0 s1; obtain ⟨s0, s1⟩ := cells2V (row_kept hb R3.out); have Z4 := Lib.hid z4; have HB2 := Lib.hid hb; have HO := Lib.hid ho; clear z4 hb ho))
        have hz := HZ.out
        exact bodyPost_ret (v := .tuple #[.agg #[.slice A r.length cq, .int .i64 h], .int .i64 0]) (results138 rfl rfl rfl (set2V Z4.out _ _)) rfl ⟨_, rfl, own_other (own_other (row_base HO.out (by omega)) Z4.out _ _) (set2a Z4.out _) _ _, below_set2 (HBw.out.trans (HB2.out.mono HBw.out.size)) (by omega) _ _⟩
    · go_upto_region 3 with fail
      go_cut [48] from 145 (fun s Y => s = .bool false ∧ Y = wc)
      case first =>
        by_cases hlo : c < 6
        · have v1 : decide (6 ≤ c) = false := decide_eq_false (by omega)
          go_wp2_with fail
          go_meet
          case rel => exact ⟨rfl, rfl⟩
        · have v1 : decide (6 ≤ c) = true := decide_eq_true (by omega)
          have v2 : decide (c ≤ 8) = false := decide_eq_false (by omega)
          go_wp2_with fail
          go_meet
          case rel => exact ⟨rfl, rfl⟩
      case rest =>
        obtain ⟨rfl, rfl⟩ := hcut
        rename_i wc
        have hre := reff_calls (HP.out.below HBw.out) k HK.out HLM.out c a b o HC.out.1 HC.out.2 (by omega) HN.out
        have hml := moves_len p (methS p k) c a b HF.out
        have hfe := HFE.out
        unfold effectS at hfe
        rw [if_neg h6] at hfe
        obtain ⟨⟨t, u⟩, htu⟩ : ∃ q, movesS p (methS p k) c a b = q := ⟨_, rfl⟩
        rw [htu] at hre hml hfe
        dsimp only at hre hml hfe
        obtain ⟨N, hN⟩ : ∃ N, s.length = N := ⟨_, rfl⟩
        obtain ⟨M, hM⟩ : ∃ M, t.length = M := ⟨_, rfl⟩
        have hl := HL.out
        rw [hN] at hl hfe s0 R3 HSc
        rw [hM] at hml hfe
        by_cases hfew : N < M
        · obtain ⟨d, hd⟩ : ∃ d : Int, (N : Int) - (M : Int) = d := ⟨_, rfl⟩
          have e9 : wrap64 d = d := w64v _ (by omega)
          have e9' : wrap64 ((N : Int) - (M : Int)) = d := by rw [hd]; exact e9
          have t10 : decide (d < 0) = true := decide_eq_true (by omega)
          rw [if_pos hfew] at hfe
          subst hfe
          have HRE := Lib.hid hre
          have HMM := Lib.hid hM
          clear h6 hml htu hN hfew hl hd hre hM
          go_wp2_with (first | (go_at_call 165; refine HRE.out.mono ?_; rintro e w2 ⟨v2, v3, rfl, ⟨T, tc, rfl, htc, hT⟩, ⟨U, uc, rfl, huc, hU⟩, hb⟩; have z4 := row_kept hb R4.out; have fz0 := Lib.frozen_of_heap z4 0; have fz1 := Lib.frozen_of_heap z4 1; obtain ⟨z0, z1⟩ := cells2V z4; clear s0 s1; obtain ⟨s0, s1⟩ := cells2V (row_kept hb R3.out); have Z4 := Lib.hid z4; have HB2 := Lib.hid hb; clear z4 hb hT hU htc huc; simp only [HMM.out]))
          have hz := HZ.out
          exact bodyPost_ret (v := .tuple #[.agg #[.slice none 0 0, .int .i64 0], .int .i64 22]) (results138 rfl rfl rfl (set2V Z4.out _ _)) rfl ⟨_, rfl, ⟨rfl, .inl ⟨rfl, rfl⟩⟩, below_set2 (HBw.out.trans (HB2.out.mono HBw.out.size)) (by omega) _ _⟩
        · rw [if_neg hfew] at hfe
          obtain ⟨D, hD⟩ : ∃ D, N - M = D := ⟨_, rfl⟩
          rw [hD] at hfe
          have e9 : wrap64 ((N : Int) - (M : Int)) = (D : Int) := by unfold wrap64; omega
          have t10 : decide ((D : Int) < 0) = false := decide_eq_false (by omega)
          have HRE := Lib.hid hre
          have HMM := Lib.hid hM
          have HNN := Lib.hid hN
          have HDD := Lib.hid (And.intro hD hfew)
          have HFF := Lib.hid hfe
          have HML := Lib.hid hml
          have HL2 := Lib.hid hl
          have H6 := Lib.hid h6
          clear h6 hml htu hN hfew hl hre hM hD hfe
          go_wp2_with (first | (go_at_call 165; refine HRE.out.mono ?_; rintro e w2 ⟨v2, v3, rfl, ⟨T, tc, rfl, htc, hT⟩, ⟨U, uc, rfl, huc, hU⟩, hb⟩; clear s0 s1; obtain ⟨s0, s1⟩ := cells2V (row_kept hb R3.out); have HB2 := Lib.hid hb; have HT := Lib.hid hT; have HU := Lib.hid hU; clear hb hT hU htc huc; rw [HMM.out] at HT; simp only [HMM.out]))
          simp only [e9]
          clear t10 y0 y1 y2 o0 o1 o2 o3 s0 s1 e9
          go_loopg [15] M (fun g s15 wx => ∃ j : Nat, j + g = M ∧ s15 = .int .i64 j ∧ Hid ((s.drop D).take j = t.take j ∧ Below w2.heap.size w2 wx))
          case atStart => exact ⟨0, by omega, rfl, Lib.hid ⟨by simp, Below.refl _ _⟩⟩
          case round =>
            obtain ⟨j, hjg, rfl, HJ⟩ := hrel
            have HBX := Lib.hid (HB2.out.trans (HJ.out.2.mono HB2.out.size))
            have hl := HL2.out
            have hml := HML.out
            have hdd := HDD.out
            cases gk with
            | succ g =>
              have ht : decide ((j : Int) < (M : Int)) = true := decide_eq_true (by omega)
              obtain ⟨s0, s1⟩ := cells2V (row_kept HBX.out R3.out)
              obtain ⟨as1, es, hs⟩ := Kd.at_int (Kd.C_below HSc.out HBX.out) (D + j : Nat) (by omega) (by omega)
              obtain ⟨at', et, htt⟩ := Kd.at_int (Kd.C_below HT.out HJ.out.2) j (by omega) (by omega)
              subst es
              subst et
              rw [Int.toNat_natCast] at hs htt
              have hwd : wrap64 ((D : Int) + (j : Int)) = ((D + j : Nat) : Int) := by unfold wrap64; omega
              obtain ⟨Q, hQ⟩ : ∃ Q, D + j = Q := ⟨_, rfl⟩
              rw [hQ] at hs hwd
              have hwd' : IntKind.i64.wrap ((D : Int) + (j : Int)) = (Q : Int) := by unfold wrap64 at hwd; exact (IntKind.wrap_i64 _).trans hwd
              have j0 : (0 : Int) ≤ (j : Int) := by omega
              have j1 : (j : Int) < (M : Int) := by omega
              have q0 : (0 : Int) ≤ (Q : Int) := by omega
              have q1 : (Q : Int) < (N : Int) := by omega
              obtain ⟨x, hx⟩ : ∃ x, rd s Q = x := ⟨_, rfl⟩
              obtain ⟨y, hy⟩ : ∃ y, rd t j = y := ⟨_, rfl⟩
              rw [hx] at hs
              rw [hy] at htt
              have hx' : (s.drop D)[j]? = some x := by
                rw [List.getElem?_drop, hQ, List.getElem?_eq_getElem (by have := HNN.out; omega), ← hx]
                simp only [rd, Int.toNat_natCast, List.getD_eq_getElem?_getD]
                rw [List.getElem?_eq_getElem (by have := HNN.out; omega)]
                rfl
              have hy' : t[j]? = some y := by
                rw [List.getElem?_eq_getElem (by have := HMM.out; omega), ← hy]
                simp only [rd, Int.toNat_natCast, List.getD_eq_getElem?_getD]
                rw [List.getElem?_eq_getElem (by have := HMM.out; omega)]
                rfl
              have HX := Lib.hid (And.intro hx' hy')
              clear hx hy hx' hy' hdd hQ hl
              by_cases hxy : x = y
              · have t2 : (x != y) = false := by rw [bne_eq_false_iff_eq]; exact hxy
                have HN2 : Hid ((s.drop D).take (j + 1) = t.take (j + 1)) := Lib.hid (by rw [List.take_add_one, List.take_add_one, HJ.out.1, HX.out.1, HX.out.2, hxy])
                clear hxy
                go_upto_region 15 with fail
                go_quiet (fail)
                all_goals go_wp2_with fail
                go_roundg g
                case measure => omega
                case rel => exact ⟨j + 1, by omega, by first | rfl | simp, Lib.hid ⟨HN2.out, below_drewN0 HJ.out.2 _⟩⟩
              · have t2 : (x != y) = true := by rw [bne_iff_ne]; exact hxy
                have hne : s.drop D ≠ t := fun e => by
                  have h1 := HX.out.1
                  rw [e, HX.out.2] at h1
                  exact hxy (Option.some.inj h1).symm
                have hfe := HFF.out
                rw [if_neg hne] at hfe
                subst hfe
                clear hxy hne
                have z4 := row_kept HBX.out R4.out
                have fz0 := Lib.frozen_of_heap z4 0
                have fz1 := Lib.frozen_of_heap z4 1
                obtain ⟨z0, z1⟩ := cells2V z4
                have Z4 := Lib.hid z4
                clear z4
                go_upto_region 15 with fail
                go_quiet (fail)
                all_goals go_wp2_with fail
                have hz := HZ.out
                try rw [Exit.noGoto_ret]
                exact bodyPost_ret (v := .tuple #[.agg #[.slice none 0 0, .int .i64 0], .int .i64 21]) (results138 rfl rfl rfl (set2V Z4.out _ _)) rfl ⟨_, rfl, ⟨rfl, .inl ⟨rfl, rfl⟩⟩, below_set2 (below_drewN0 (HBw.out.trans (HBX.out.mono HBw.out.size)) _) (by omega) _ _⟩
            | zero =>
              have ht : decide ((j : Int) < (M : Int)) = false := decide_eq_false (by omega)
              have htn : decide (j < M) = false := decide_eq_false (by omega)
              have heq : s.drop D = t := by
                have h := HJ.out.1
                have h1 := HNN.out
                have h2 := HMM.out
                rwa [List.take_of_length_le (by rw [List.length_drop]; omega), List.take_of_length_le (by omega)] at h
              have hfe := HFF.out
              rw [if_pos heq] at hfe
              have hT := Kd.C_take (m := D) (by rw [HNN.out]; exact HSc.out : Kd.C (Kd.int .i64) _ S0 s.length s) (by have := HNN.out; omega)
              have hTl : (s.take D).length = D := by rw [List.length_take]; have := HNN.out; omega
              rw [hTl] at hT
              obtain ⟨sT, hsT⟩ : ∃ sT, s.take D = sT := ⟨_, rfl⟩
              rw [hsT] at hT hTl hfe
              obtain ⟨r, hr⟩ : ∃ r, sT ++ u = r := ⟨_, rfl⟩
              rw [hr] at hfe
              obtain ⟨X, hX⟩ : ∃ X, X = wr := ⟨_, rfl⟩
              have hBX : Below wc.heap.size wc X := by rw [hX]; exact HBX.out
              have hUX : Kd.C (Kd.int .i64) X U u.length u := by rw [hX]; exact Kd.C_below HU.out HJ.out.2
              have hBXw := HBw.out.trans (hBX.mono HBw.out.size)
              have HTX := Lib.hid (Kd.C_below hT hBX)
              have HUX := Lib.hid hUX
              have HXw := Lib.hid hBXw
              have q2 := row_kept hBX R2.out
              have q3 := row_kept hBX R3.out
              have q4 := row_kept hBX R4.out
              have hXs : w.heap.size + 4 ≤ X.heap.size := by have h1 := HZ.out; have h2 := hBX.size; omega
              have hD : (D : Int) ≤ (sc : Int) := by omega
              have hD0 : (0 : Int) ≤ (D : Int) := by omega
              have hln : sT.length + u.length ≤ 1000000 := by omega
              have HFE2 := Lib.hid hfe
              have HR := Lib.hid hr
              have Q2 := Lib.hid q2
              have Q4 := Lib.hid q4
              have HXS := Lib.hid hXs
              have HTL := Lib.hid (And.intro hTl hln)
              have HHH := Lib.hid HH.out
              subst hX
              clear heq hfe hT hTl hsT hr hBX hUX hBXw q2 q4 hXs hln hl hml hdd HJ HB2 HT HU HBX
              go_upto_region 17 with fail
              obtain ⟨s0, s1⟩ := cells2V q3
              go_cut [16] from 145 (fun s16 Y => Fin17 X h r s16 Y)
              case first =>
                go_region_held3 (fun w' => w'.cell? ⟨w.heap.size + 1 + 1, 0, none⟩ = some (.slice S0 N sc) ∧ w'.cell? ⟨w.heap.size + 1 + 1, 1, none⟩ = some (.int .i64 h))
                    (first | (refine ⟨cell_set2 (cell_be hb2 s0) ?_, cell_set2 (cell_be hb2 s1) ?_⟩ <;> (have h1 := HXS.out; have h2 := hb1.size; omega)) | (exact ⟨cell_be hb2 s0, cell_be hb2 s1⟩) | (exact ⟨cell_al (cell_be hb2 s0) _, cell_al (cell_be hb2 s1) _⟩) | (exact ⟨cell_be hb1 s0, cell_be hb1 s1⟩) | (exact ⟨cell_al (cell_be hb1 s0) _, cell_al (cell_be hb1 s1) _⟩) | go_keep)
                    (first
                      | (refine app_step (w0 := X) (.tmp 105) (.tmp 106) (by rfl) (by rfl) X.heap.size v1 sT u U u.length uc (by rfl) (by rfl) ?bO ?bR ?bB ?bS ?bL ?_
                         (case bO => first | exact ho1 | exact ho1.alloc _)
                         (case bR => first | exact Kd.C_below HUX.out hb1 | exact Kd.C_below HUX.out (hb1.alloc hb1.size _))
                         (case bB => first | exact hb1 | exact hb1.alloc hb1.size _)
                         (case bS => first | exact hb1.size | (have := hb1.size; simp; omega))
                         (case bL => exact HTL.out.2)
                         intro v2 x2 ho2 hb2 hg2
                         rw [HR.out] at ho2
                         obtain ⟨A9, c9, rfl⟩ := own_slice ho2
                         first
                         | (have z1 : x1.heap[X.heap.size]? = some obZ2 := row_gr hg1 (by intro e; first | (have e2 : some (X.heap.size + 1) = some X.heap.size := e; simp at e2; done) | (have e2 : some X.heap.size = some (X.heap.size + 1) := e; simp at e2; done)) (row_drewV (row_alloc (heap_alloc_new X obZ2) _))
                            have z2 := row_gr hg2 (own_ne ho1 z1) z1
                            have fa := Lib.frozen_of_heap z2 0
                            have fb := Lib.frozen_of_heap z2 1
                            obtain ⟨ca, cb⟩ := cells2V z2)
                         | (have z1 : x1.heap[X.heap.size + 1]? = some obZ2 := row_gr hg1 (by intro e; first | (have e2 : some (X.heap.size + 1) = some X.heap.size := e; simp at e2; done) | (have e2 : some X.heap.size = some (X.heap.size + 1) := e; simp at e2; done)) (row_drewV (heap_alloc2 X _ obZ2))
                            have z2 := row_gr hg2 (own_ne ho1 z1) z1
                            have fa := Lib.frozen_of_heap z2 0
                            have fb := Lib.frozen_of_heap z2 1
                            obtain ⟨ca, cb⟩ := cells2V z2)
                         | (have z2 : x2.heap[x1.heap.size]? = some obZ2 := row_gr hg2 (own_ne (ho1.alloc _) (heap_alloc_new x1 obZ2)) (heap_alloc_new x1 obZ2)
                            have fa := Lib.frozen_of_heap z2 0
                            have fb := Lib.frozen_of_heap z2 1
                            obtain ⟨ca, cb⟩ := cells2V z2)
                         | skip)
                      | (refine app_step (w0 := X) (.tmp 100) (.tmp 104) (by rfl) (by rfl) X.heap.size _ [] sT S0 D _ (by rfl) (by rfl) ?aO ?aR ?aB ?aS ?aL ?_
                         (case aO => first | exact own_nil (heap_alloc_new _ _) (Nat.le_refl _) | exact own_nil (row_drewV (heap_alloc_new _ _)) (Nat.le_refl _) | exact own_nil (row_drewV (row_alloc (heap_alloc_new _ _) _)) (Nat.le_refl _) | exact own_nil (row_alloc (heap_alloc_new _ _) _) (Nat.le_refl _) | exact own_nil (row_drewV (heap_alloc2 _ _ _)) (by omega) | exact own_nil (heap_alloc2 _ _ _) (by omega))
                         (case aR => refine Kd.C_below HTX.out ?_; (repeat (first | exact Below.refl _ _ | refine Below.drew ?_ | refine Below.alloc ?_ ?_ _ | exact Nat.le_refl _ | (simp; done) | (simp; omega))))
                         (case aB => (repeat (first | exact Below.refl _ _ | refine Below.drew ?_ | refine Below.alloc ?_ ?_ _ | exact Nat.le_refl _ | (simp; done) | (simp; omega))))
                         (case aS => (first | exact Nat.le_refl _ | (simp; done) | (simp; omega)))
                         (case aL => have := HTL.out; simp; omega)
                         intro v1 x1 ho1 hb1 hg1
                         rw [List.nil_append] at ho1))
                all_goals
                  go_wp2_with fail
                  go_meet
                  case rel =>
                    have hz1 := hb1.size
                    first
                    | exact fin17b ho2 hb2
                    | exact fin17 z2 hz1 ho2 hb2
                    | exact fin17 z2 (Nat.le_refl _) ho2 hb2
                    | exact fin17 z2 (Nat.le_succ _) ho2 hb2
              case rest =>
                obtain ⟨g, v, rfl, hgX, hv1, hrow, hown, hbY⟩ := hcut
                obtain ⟨A9, c9, rfl⟩ := own_slice hown
                have z4 := row_kept hbY Q4.out
                have hXs := HXS.out
                have hne : w.heap.size + 1 + 1 + 1 ≠ g := by omega
                have hne2 : w.heap.size + 1 ≠ g := by omega
                have hng : g ≠ w.heap.size + 1 + 1 + 1 := by omega
                have hne8 : w.heap.size ≤ w.heap.size + 1 + 1 + 1 := by omega
                have hbw := HXw.out.trans (hbY.mono HXw.out.size)
                have how := row_base hown HXw.out.size
                obtain ⟨o0, o1, o2, o3⟩ := cellsV (row_kept hbY Q2.out)
                have fz0 := Lib.frozen_of_heap z4 0
                have fz1 := Lib.frozen_of_heap z4 1
                have fg1 := Lib.frozen_of_heap hrow 1
                obtain ⟨z0, z1⟩ := cells2V z4
                obtain ⟨g0, g1⟩ := cells2V hrow
                have HZ4 := Lib.hid z4
                have HRW := Lib.hid hrow
                have HBw2 := Lib.hid hbw
                have HOW := Lib.hid how
                have HV1 := Lib.hid hv1
                have HGX := Lib.hid (And.intro hgX (And.intro hne8 hXs))
                clear z4 hrow hbw how hv1 hgX hne8 hXs hown hbY s0 s1 hD hD0 ht htn
                obtain ⟨hh0, hh10⟩ := HHH.out
                have hfe := HFE2.out
                by_cases h36 : c = 36
                · subst h36
                  rw [show heldS 36 h = h + 1 from rfl] at hfe
                  by_cases hx : h < 10
                  · rw [if_neg (by omega)] at hfe
                    subst hfe
                    have t1 : decide (10 < h + 1) = false := decide_eq_false (by omega)
                    go_wp2_with fail
                    try rw [Exit.noGoto_ret]
                    refine bodyPost_ret (v := .tuple #[.agg #[.slice A9 r.length c9, .int .i64 (h + 1)], .int .i64 0]) (results138 rfl rfl HV1.out (set2V ((Below.heap_setCell _ ⟨g, 1, none⟩ _ _ hne).trans HZ4.out) _ _)) rfl ?_
                    exact fin138 (h + 1) ((Below.heap_setCell _ ⟨g, 1, none⟩ _ _ hne).trans HZ4.out) HGX.out.2.1 (own_other HOW.out HRW.out _ _) (HBw2.out.setCell (p := ⟨g, 1, none⟩) (by have := HGX.out; show w.heap.size ≤ g; omega) _)
                  · rw [if_pos (by omega)] at hfe
                    subst hfe
                    have t1 : decide (10 < h + 1) = true := decide_eq_true (by omega)
                    go_wp2_with fail
                    try rw [Exit.noGoto_ret]
                    refine bodyPost_ret (v := .tuple #[.agg #[.slice none 0 0, .int .i64 0], .int .i64 25]) (results138 rfl rfl rfl (set2V ((Below.heap_setCell _ ⟨g, 1, none⟩ _ _ hne).trans HZ4.out) _ _)) rfl ?_
                    exact fin138e 25 HGX.out.2.1 (HBw2.out.setCell (p := ⟨g, 1, none⟩) (by have := HGX.out; show w.heap.size ≤ g; omega) _)
                · have e36 : (c == 36) = false := by simpa using h36
                  by_cases h37 : c = 37
                  · subst h37
                    rw [show heldS 37 h = h - 1 from rfl] at hfe
                    by_cases hx : 0 < h
                    · rw [if_neg (by omega)] at hfe
                      subst hfe
                      have t1 : decide (h - 1 < 0) = false := decide_eq_false (by omega)
                      have t2 : decide (h < 1) = false := decide_eq_false (by omega)
                      have t3 : decide (h ≤ 0) = false := decide_eq_false (by omega)
                      go_wp2_with fail
                      try rw [Exit.noGoto_ret]
                      refine bodyPost_ret (v := .tuple #[.agg #[.slice A9 r.length c9, .int .i64 (h - 1)], .int .i64 0]) (results138 rfl rfl HV1.out (set2V ((Below.heap_setCell _ ⟨g, 1, none⟩ _ _ hne).trans HZ4.out) _ _)) rfl ?_
                      exact fin138 (h - 1) ((Below.heap_setCell _ ⟨g, 1, none⟩ _ _ hne).trans HZ4.out) HGX.out.2.1 (own_other HOW.out HRW.out _ _) (HBw2.out.setCell (p := ⟨g, 1, none⟩) (by have := HGX.out; show w.heap.size ≤ g; omega) _)
                    · rw [if_pos (by omega)] at hfe
                      subst hfe
                      have t1 : decide (h - 1 < 0) = true := decide_eq_true (by omega)
                      have t2 : decide (h < 1) = true := decide_eq_true (by omega)
                      have t3 : decide (h ≤ 0) = true := decide_eq_true (by omega)
                      go_wp2_with fail
                      try rw [Exit.noGoto_ret]
                      refine bodyPost_ret (v := .tuple #[.agg #[.slice none 0 0, .int .i64 0], .int .i64 25]) (results138 rfl rfl rfl (set2V ((Below.heap_setCell _ ⟨g, 1, none⟩ _ _ hne).trans HZ4.out) _ _)) rfl ?_
                      exact fin138e 25 HGX.out.2.1 (HBw2.out.setCell (p := ⟨g, 1, none⟩) (by have := HGX.out; show w.heap.size ≤ g; omega) _)
                  · have e37 : (c == 37) = false := by simpa using h37
                    rw [show heldS c h = h by unfold heldS; rw [if_neg h36, if_neg h37], if_neg (by simp)] at hfe
                    subst hfe
                    clear h36 h37
                    go_wp2_with fail
                    try rw [Exit.noGoto_ret]
                    refine bodyPost_ret (v := .tuple #[.agg #[.slice A9 r.length c9, .int .i64 h], .int .i64 0]) (results138 rfl rfl HV1.out (set2V HZ4.out _ _)) rfl ?_
                    exact fin138 h HZ4.out HGX.out.2.1 HOW.out HBw2.out
end
end Go.Proofs.YtkphijabhoppnaaDoor
