/- What is wrong with a program (brazier/verify.Program); the chapter's examples (brazierlaw15.known). -/
import Derived.Test.YtkphijabhoppnaaDoorAVw
import Derived.Deep.LoopGhost
namespace Go.Proofs.YtkphijabhoppnaaDoor
open Go.RowKit Go.Proofs.YtkphijabhoppnaaDoorW.PrintWords
set_option linter.unusedSimpArgs false
set_option linter.unusedVariables false
def progFrom (p : Pg) : List Meth → Int → Int × Int × Int
  | [], _ => (0, 0, 0)
  | m :: ms, k => if (methodS p m).1.2 ≠ 0 then (k, (methodS p m).1.1, (methodS p m).1.2) else progFrom p ms (k + 1)
def progS (p : Pg) : Int × Int × Int := if checkS p ≠ 0 then (0, 0, checkS p) else progFrom p p.methods 0
def PrPost (w : World) (r : Int × Int × Int) (e : Ending) (w' : World) : Prop := e = .returned (.tuple #[.int .i64 r.1, .int .i64 r.2.1, .int .i64 r.2.2]) ∧ Below w.heap.size w w'
section
variable {w : World} {A0 A1 A2 : Option Addr} {c0 c1 c2 : Nat} {p : Pg}
set_option maxRecDepth 100000 in
set_option maxHeartbeats 1600000 in
theorem Program_calls (hp : PgX w A0 c0 A1 c1 A2 c2 p) (hG : Glob w) (hf : FewPar p) :
    Calls Tryd.prog 31 #[.agg #[.slice A0 p.pool.length c0, .slice A1 p.classes.length c1, .slice A2 p.methods.length c2]] w (PrPost w (progS p)) := by
  have hA : Below w.heap.size w (w.alloc (obP A0 c0 A1 c1 A2 c2 p)) := (Below.refl _ w).alloc (Nat.le_refl _) _
  have hrow := heap_alloc_new w (obP A0 c0 A1 c1 A2 c2 p)
  have hC := check_calls (hp.below hA).pg hp.small
  obtain ⟨r, hr⟩ : ∃ r, progS p = r := ⟨_, rfl⟩
  rw [hr]
  unfold progS at hr
  obtain ⟨ch, hch⟩ : ∃ ch, checkS p = ch := ⟨_, rfl⟩
  rw [hch] at hC hr
  have HA := Lib.hid hA
  have HR := Lib.hid hrow
  have HC := Lib.hid hC
  clear hA hrow hC
  by_cases h0 : ch = 0
  · subst h0
    rw [if_neg (by simp)] at hr
    have hk : p.methods.length ≤ 100 := (check_sizes hch).2.2.2.2
    have hme : ∀ (k : Nat) (V : World), k < p.methods.length → Below w.heap.size w V → Calls Tryd.prog 56 #[.agg #[.slice A0 p.pool.length c0, .slice A1 p.classes.length c1, .slice A2 p.methods.length c2], .int .i64 k] V fun e w' => ∃ v, e = .returned (.tuple #[v, .int .i64 (methodS p (methS p k)).1.1, .int .i64 (methodS p (methS p k)).1.2]) ∧ Below V.heap.size V w' := fun k V hk hV => by
      have hsz : sizesS (methS p k) = 0 := (check_sizes hch).2.1 _ (getD_in (by simpa using hk))
      refine (method_calls (hp.below hV) (hG.below hV) k hk hsz hf).mono ?_
      rintro e w' ⟨v, rfl, hb, -⟩
      exact ⟨v, rfl, hb⟩
    have HM := Lib.hid hme
    have HRR := Lib.hid hr
    have HK := Lib.hid hk
    clear hme hr hp hG hf hch hk
    go_enter Tryd.func31, Tryd.ntmps31
    go_wp2_with (first | (go_at_call 55; refine HC.out.mono ?_; rintro e w1 ⟨rfl, hb1⟩; obtain ⟨y0, y1, y2⟩ := cells3V (row_kept hb1 HR.out); have B1 := Lib.hid (HA.out.trans (hb1.mono HA.out.size)); have R1 := Lib.hid (row_kept hb1 HR.out); clear hb1))
    clear y0 y1 y2
    go_loopg [18] p.methods.length (fun g s18 wx => ∃ j : Nat, j + g = p.methods.length ∧ s18 = .int .i64 j ∧ Hid (progFrom p (p.methods.drop j) j = r ∧ Below w.heap.size w wx ∧ wx.heap[w.heap.size]? = some (obP A0 c0 A1 c1 A2 c2 p)))
    case atStart => exact ⟨0, by omega, rfl, Lib.hid ⟨HRR.out, B1.out, R1.out⟩⟩
    case round =>
      obtain ⟨j, hjg, rfl, HJ⟩ := hrel
      have hk := HK.out
      cases gk with
      | zero =>
        have ht : decide ((j : Int) < (p.methods.length : Int)) = false := by simp; omega
        have hans := HJ.out.1
        rw [List.drop_eq_nil_of_le (by omega), progFrom] at hans
        subst hans
        go_wp2_with fail
        try rw [Exit.noGoto_ret]
        refine bodyPost_ret (results_tmp3 (fn := Tryd.f31) rfl _ _ _) rfl ?_
        exact ⟨rfl, HJ.out.2.1⟩
      | succ g =>
        have hj : j < p.methods.length := by omega
        have ht : decide ((j : Int) < (p.methods.length : Int)) = true := by simp; omega
        have hans := HJ.out.1
        rw [List.drop_eq_getElem_cons hj, progFrom] at hans
        have em : methS p j = p.methods[j] := meth_at p j hj
        rw [← em] at hans
        have hM := HM.out j _ hj HJ.out.2.1
        obtain ⟨y0, y1, y2⟩ := cells3V HJ.out.2.2
        obtain ⟨⟨⟨ra, re⟩, rs⟩, hq⟩ : ∃ q, methodS p (methS p j) = q := ⟨_, rfl⟩
        rw [hq] at hM hans
        dsimp only at hM hans
        have HMM := Lib.hid hM
        clear hM em hq
        by_cases h1 : re = 0
        · subst h1
          rw [if_neg (by simp)] at hans
          have HAN := Lib.hid hans
          clear hans
          go_wp2_with (first | (go_at_call 56; refine HMM.out.mono ?_; rintro e w2 ⟨v, rfl, hb2⟩))
          go_roundg g
          case measure => omega
          case rel => exact ⟨j + 1, by omega, by first | rfl | simp, Lib.hid ⟨by rw [← HAN.out]; rfl, HJ.out.2.1.trans (hb2.mono HJ.out.2.1.size), row_kept hb2 HJ.out.2.2⟩⟩
        · rw [if_pos h1] at hans
          subst hans
          have t1 : (re != 0) = true := by simpa using h1
          clear h1
          go_wp2_with (first | (go_at_call 56; refine HMM.out.mono ?_; rintro e w2 ⟨v, rfl, hb2⟩))
          try rw [Exit.noGoto_ret]
          refine bodyPost_ret (results_tmp3 (fn := Tryd.f31) rfl _ _ _) rfl ?_
          exact ⟨rfl, HJ.out.2.1.trans (hb2.mono HJ.out.2.1.size)⟩
  · rw [if_pos h0] at hr
    subst hr
    have t1 : (ch != 0) = true := by simpa using h0
    clear h0 hp hG hf hch
    go_enter Tryd.func31, Tryd.ntmps31
    go_wp2_with (first | (go_at_call 55; refine HC.out.mono ?_; rintro e w1 ⟨rfl, hb1⟩))
    refine bodyPost_ret (results_tmp3 (fn := Tryd.f31) rfl _ _ _) rfl ?_
    exact ⟨rfl, HA.out.trans (hb1.mono HA.out.size)⟩
end
theorem addr_lit (g k : Nat) : (⟨g, 0, none⟩ : Addr).add k = ⟨g, k, none⟩ := by unfold Addr.add; split <;> simp_all
theorem row_C {k : IntKind} {W : World} {g : Nat} {t : TypeId} {l : List Int} (h : W.heap[g]? = some (.cells (l.map (Value.int k)).toArray t (0, 0))) (hl : l.length ≤ 9223372036854775807) : Kd.C (Kd.int k) W (some ⟨g, 0, none⟩) l.length l :=
  ⟨rfl, hl, fun _ => ⟨_, rfl, fun j x hj => ⟨[.int k x], rfl, rfl, fun i u hi => by
    cases i with
    | zero =>
      cases hi
      rw [addr_lit]
      show W.cell? ⟨g, j * 1 + 0, none⟩ = _
      rw [show j * 1 + 0 = j by omega, cell_of_row _ _ _ _ _ _ h]
      simp [hj]
    | succ i => simp at hi⟩⟩⟩
def oneP (s : Int) (code : List Int) : Pg := ⟨[], [], [⟨[], 0, [], s, code⟩]⟩
theorem one_pgx {W : World} {gc gm cc : Nat} {s : Int} {code : List Int} (hc : W.heap[gc]? = some (.cells (code.map (Value.int .u8)).toArray 5 (0, 0))) (hm : W.heap[gm]? = some (.cells #[.slice none 0 0, .int .i64 0, .slice none 0 0, .int .i64 s, .slice (some ⟨gc, 0, none⟩) code.length cc] 64 (0, 0)))
    (hl : code.length ≤ cc) (hcc : cc ≤ 1000000) (hb : ∀ x ∈ code, 0 ≤ x ∧ x ≤ 255) : PgX W none 0 none 0 (some ⟨gm, 0, none⟩) 1 (oneP s code) := by
  have h4 : W.cell? ⟨gm, 4, none⟩ = some (.slice (some ⟨gc, 0, none⟩) code.length cc) := (cell_of_row _ _ 4 _ _ _ hm).trans rfl
  refine ⟨⟨Kd.C_nil _ _, Nat.le_refl _, Kd.C_nil _ _, Nat.le_refl _, ⟨rfl, by simp [oneP], fun _ => ⟨_, rfl, fun j x hj => ?_⟩⟩, Nat.le_refl _⟩, ?_, ?_, ?_⟩
  · have hj0 : j = 0 := by
      have := (List.getElem?_eq_some_iff.1 hj).1
      simp [oneP] at this
      exact this
    subst hj0
    simp [oneP] at hj
    subst hj
    refine ⟨_, rfl, PVerifyMethods.k64_mk W ⟨[], 0, [], s, code⟩ (Nat.le_refl 0) (Kd.C_nil _ _) (Nat.le_refl 0) (Kd.C_nil _ _) hl (row_C hc (show code.length ≤ 9223372036854775807 by omega)), fun i u hi => ?_⟩
    rw [addr_lit, cell_of_row _ _ _ _ _ _ hm]
    rcases i with _ | _ | _ | _ | _ | i <;> simp at hi ⊢ <;> exact hi
  · intro k ad A l c hk e hcell
    have hk0 : k = 0 := by simp [oneP] at hk; exact hk
    subst hk0
    cases e
    have e2 : (⟨((⟨gm, 0, none⟩ : Addr).add (0 * 5)).block, ((⟨gm, 0, none⟩ : Addr).add (0 * 5)).off + 4, none⟩ : Addr) = ⟨gm, 4, none⟩ := by rw [addr_lit]
    rw [e2, h4] at hcell
    injection hcell with hcell
    injection hcell with q1 q2 q3
    omega
  · intro m hm
    simp [oneP] at hm
    subst hm
    exact hb
  · refine ⟨by simp [oneP], by simp [oneP], by simp [oneP], fun m hm => ?_, by simp [oneP]⟩
    simp [oneP] at hm
    subst hm
    simp
    omega
theorem one_few (s : Int) (code : List Int) : FewPar (oneP s code) := fun n => by
  unfold methS PVerifyMethods.rd_T64 oneP
  cases h : n.toNat with
  | zero => simp
  | succ k => simp [PVerifyMethods.z64]
theorem known_a : mthS (oneP 2 [2, 1, 26, 254, 255]) 0 = (2, 26) := by decide +kernel
theorem known_b : progS (oneP 2 [2, 1, 40, 28]) = (0, 0, 0) := by decide +kernel
set_option maxRecDepth 100000 in
set_option maxHeartbeats 1600000 in
theorem known15 (w : World) (hG : Glob w) : Calls Tryd.prog 27 #[] w fun e w' => e = .returned (.bool true) ∧ Below w.heap.size w w' := by
  have HG := Lib.hid hG
  clear hG
  go_enter Tryd.func27, Tryd.ntmps27
  go_wp2_with fail
  have r0 := row_alloc (row_alloc (heap_alloc_new w (.cells #[.int .u8 2, .int .u8 1, .int .u8 26, .int .u8 254, .int .u8 255] 5)) (.cells #[.slice none 0 0, .int .i64 0, .slice none 0 0, .int .i64 2, .slice (some ⟨w.heap.size, 0, none⟩) 5 5] 64)) (.cells #[.slice none 0 0, .slice none 0 0, .slice (some ⟨w.heap.size + 1, 0, none⟩) 1 1] 59)
  have r1 := row_alloc (heap_alloc_new (w.alloc (.cells #[.int .u8 2, .int .u8 1, .int .u8 26, .int .u8 254, .int .u8 255] 5)) (.cells #[.slice none 0 0, .int .i64 0, .slice none 0 0, .int .i64 2, .slice (some ⟨w.heap.size, 0, none⟩) 5 5] 64)) (.cells #[.slice none 0 0, .slice none 0 0, .slice (some ⟨w.heap.size + 1, 0, none⟩) 1 1] 59)
  simp only [World.size_alloc] at r1
  have hB : Below w.heap.size w (((w.alloc (.cells #[.int .u8 2, .int .u8 1, .int .u8 26, .int .u8 254, .int .u8 255] 5)).alloc (.cells #[.slice none 0 0, .int .i64 0, .slice none 0 0, .int .i64 2, .slice (some ⟨w.heap.size, 0, none⟩) 5 5] 64)).alloc (.cells #[.slice none 0 0, .slice none 0 0, .slice (some ⟨w.heap.size + 1, 0, none⟩) 1 1] 59)) :=
    (((Below.refl _ w).alloc (Nat.le_refl _) _).alloc (by simp) _).alloc (by simp; omega) _
  obtain ⟨V, hV⟩ : ∃ V, ((w.alloc (.cells #[.int .u8 2, .int .u8 1, .int .u8 26, .int .u8 254, .int .u8 255] 5)).alloc (.cells #[.slice none 0 0, .int .i64 0, .slice none 0 0, .int .i64 2, .slice (some ⟨w.heap.size, 0, none⟩) 5 5] 64)).alloc (.cells #[.slice none 0 0, .slice none 0 0, .slice (some ⟨w.heap.size + 1, 0, none⟩) 1 1] 59) = V := ⟨_, rfl⟩
  rw [hV] at r0 r1 hB ⊢
  have hm1 := Method_calls (one_pgx (s := 2) (code := [2, 1, 26, 254, 255]) r0 r1 (by decide) (by decide) (by decide)) (HG.out.below hB) (one_few _ _) 0
  rw [known_a] at hm1
  have HB := Lib.hid hB
  clear r0 r1 hV hB
  refine hm1.mono ?_
  rintro e w1 ⟨rfl, hb1⟩
  have HB1 := Lib.hid (HB.out.trans (hb1.mono HB.out.size))
  clear hb1 hm1
  go_wp2_with fail
  have r0 := row_alloc (row_alloc (heap_alloc_new w1 (.cells #[.int .u8 2, .int .u8 1, .int .u8 40, .int .u8 28] 5)) (.cells #[.slice none 0 0, .int .i64 0, .slice none 0 0, .int .i64 2, .slice (some ⟨w1.heap.size, 0, none⟩) 4 4] 64)) (.cells #[.slice none 0 0, .slice none 0 0, .slice (some ⟨w1.heap.size + 1, 0, none⟩) 1 1] 59)
  have r1 := row_alloc (heap_alloc_new (w1.alloc (.cells #[.int .u8 2, .int .u8 1, .int .u8 40, .int .u8 28] 5)) (.cells #[.slice none 0 0, .int .i64 0, .slice none 0 0, .int .i64 2, .slice (some ⟨w1.heap.size, 0, none⟩) 4 4] 64)) (.cells #[.slice none 0 0, .slice none 0 0, .slice (some ⟨w1.heap.size + 1, 0, none⟩) 1 1] 59)
  simp only [World.size_alloc] at r1
  have hs1 := HB1.out.size
  have hB : Below w.heap.size w (((w1.alloc (.cells #[.int .u8 2, .int .u8 1, .int .u8 40, .int .u8 28] 5)).alloc (.cells #[.slice none 0 0, .int .i64 0, .slice none 0 0, .int .i64 2, .slice (some ⟨w1.heap.size, 0, none⟩) 4 4] 64)).alloc (.cells #[.slice none 0 0, .slice none 0 0, .slice (some ⟨w1.heap.size + 1, 0, none⟩) 1 1] 59)) :=
    ((HB1.out.alloc hs1 _).alloc (by simp; omega) _).alloc (by simp; omega) _
  obtain ⟨V, hV⟩ : ∃ V, ((w1.alloc (.cells #[.int .u8 2, .int .u8 1, .int .u8 40, .int .u8 28] 5)).alloc (.cells #[.slice none 0 0, .int .i64 0, .slice none 0 0, .int .i64 2, .slice (some ⟨w1.heap.size, 0, none⟩) 4 4] 64)).alloc (.cells #[.slice none 0 0, .slice none 0 0, .slice (some ⟨w1.heap.size + 1, 0, none⟩) 1 1] 59) = V := ⟨_, rfl⟩
  rw [hV] at r0 r1 hB ⊢
  have hm2 := Program_calls (one_pgx (s := 2) (code := [2, 1, 40, 28]) r0 r1 (by decide) (by decide) (by decide)) (HG.out.below hB) (one_few _ _)
  rw [known_b] at hm2
  have HB := Lib.hid hB
  clear r0 r1 hV hB
  refine hm2.mono ?_
  rintro e w2 ⟨rfl, hb2⟩
  go_wp2_with fail
  go_ret
  exact ⟨rfl, HB.out.trans (hb2.mono HB.out.size)⟩
end Go.Proofs.YtkphijabhoppnaaDoor
