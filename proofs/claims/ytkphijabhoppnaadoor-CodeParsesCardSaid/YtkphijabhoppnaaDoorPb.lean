/- CodePlaces, walked: it returns true, whatever the bytes. -/
import Derived.Test.YtkphijabhoppnaaDoorPa
import Derived.Test.YtkphijabhoppnaaDoorBe
import Derived.Deep.QuietTactic
import Derived.BigQuiet
import Derived.Laws.BytesArg
namespace Go.Proofs.YtkphijabhoppnaaDoor
open Go.RowKit Go.Proofs.YtkphijabhoppnaaDoorW.PrintWords
set_option linter.unusedSimpArgs false
set_option linter.unusedVariables false

def TruePost (w : World) (e : Ending) (w' : World) : Prop := e = .returned (.bool true) ∧ Below w.heap.size w w'

theorem placesLaw_long (A : Option Addr) (n c : Nat) (w : World) (hn : 4000 < n) (hG : Glob w) : Calls Tryd.prog 4 #[.slice A n c] w (TruePost w) := by
  have HK := Lib.hid (known_calls w hG)
  clear hG
  have ht : decide (4000 < (n : Int)) = true := by simp; omega
  go_enter Tryd.func4, Tryd.ntmps4
  go_wp2_with (first | (go_at_call 12; refine HK.out.mono ?_; rintro e w1 ⟨rfl, hb1⟩) | fail)
  go_ret
  exact ⟨rfl, hb1⟩

theorem placesLaw_err (v : Value) (l : List Int) (w : World) (hl : l.length ≤ 4000) (hb : Byt w v l) (hG : Glob w) (he : (placesS l).2 ≠ 0) : Calls Tryd.prog 4 #[v] w (TruePost w) := by
  obtain ⟨er, her⟩ : ∃ er, (placesS l).2 = er := ⟨_, rfl⟩
  have hnil : (placesS l).1 = [] := by
    unfold placesS at he ⊢
    split
    · rfl
    · rename_i h; rw [if_neg h] at he; exact absurd rfl he
  have hP : ∀ w1, Below w.heap.size w w1 → Calls Tryd.prog 16 #[v] w1 fun e w' => ∃ A c, e = .returned (.tuple #[.slice A (0 : Nat) c, .int .i64 er]) ∧ Below w1.heap.size w1 w' := by
    intro w1 h1
    refine (places_calls v l w1 (by omega) (hb.below h1) (hG.below h1)).mono ?_
    rintro e w' ⟨v', rfl, ho, hbl⟩
    rw [hnil] at ho
    obtain ⟨A, c, rfl⟩ := own_slice ho
    rw [her]
    exact ⟨A, c, rfl, hbl⟩
  have HP := Lib.hid hP
  have HK := Lib.hid (known_calls w hG)
  obtain ⟨A, c, rfl, _⟩ := hb
  rw [her] at he
  have ht : decide (4000 < (l.length : Int)) = false := by simp; omega
  have hb1 : (er != 0) = true := by simpa using he
  clear hP hG hnil her he
  go_enter Tryd.func4, Tryd.ntmps4
  go_wp2_with (first | (go_at_call 12; refine HK.out.mono ?_; rintro e w1 ⟨rfl, hb1⟩) | (go_at_call 16; refine (HP.out _ hb1).mono ?_; rintro e w2 ⟨A2, c2, rfl, hb2⟩) | fail)
  go_ret
  exact ⟨rfl, hb1.trans (hb2.mono hb1.size)⟩

theorem places_round {l : List Int} {k p s N : Nat} {v : Value} {xs : List Value} (w : World) {w4 : World} (e : stI l (k + 1) = p + s) (hlt : k < N) (hm : N ≤ 9223372036854775807)
    (hB : Below w.heap.size w w4) (ho : w4.ownsRow w.heap.size 3 1 v N xs) (nq : Nat) :
    (∃ k_1, k_1 ≤ N ∧ Value.int IntKind.i64 (wrap64 ((k : Int) + 1)) = Value.int IntKind.i64 (k_1 : Nat) ∧ Value.int IntKind.i64 ((p : Int) + s) = Value.int IntKind.i64 (stI l k_1) ∧ (w4.drewN nq).ownsRow w.heap.size 3 1 v N xs ∧ Below w.heap.size w (w4.drewN nq)) ∧
    N - (intOf (Value.int IntKind.i64 (wrap64 ((k : Int) + 1)))).toNat < N - (intOf (Value.int IntKind.i64 (k : Nat))).toNat := by
  have hk1 : wrap64 ((k : Int) + 1) = ((k + 1 : Nat) : Int) := by rw [IntWalk.wrap64_in _ (by omega)]; omega
  rw [hk1]
  refine ⟨⟨k + 1, hlt, rfl, by rw [e]; rfl, pw_own_below (w1 := w4.drewN nq) ho (below_drewN0 (Below.refl _ _) _), below_drewN0 hB _⟩, ?_⟩
  simp only [intOf]
  omega

set_option maxRecDepth 100000 in
set_option maxHeartbeats 800000 in
theorem placesLaw_ok (v : Value) (l : List Int) (w : World) (hl : l.length ≤ 4000) (hb : Byt w v l) (hG : Glob w) (he : (placesS l).2 = 0) : Calls Tryd.prog 4 #[v] w (TruePost w) := by
  have hpl : (placesS l).1 = plcs (opsL l) := by
    unfold placesS at he ⊢
    split
    · rename_i h
      rw [if_pos h] at he
      obtain ⟨E, e1, e2, e3⟩ := ops_end l (by omega)
      rw [e1] at he h
      have h' : E < l.length := by omega
      rw [readS_at l E h'] at he
      exact absurd he (e3 h')
    · rfl
  have hP : ∀ w1, Below w.heap.size w w1 → Calls Tryd.prog 16 #[v] w1 fun e w' => ∃ A c, e = .returned (.tuple #[.slice A (opsL l).length c, .int .i64 0]) ∧ w'.ownsRow w1.heap.size 3 1 (.slice A (opsL l).length c) (opsL l).length (nums .i64 (plcs (opsL l))) ∧ Below w1.heap.size w1 w' := by
    intro w1 h1
    refine (places_calls v l w1 (by omega) (hb.below h1) (hG.below h1)).mono ?_
    rintro e w' ⟨v', rfl, ho, hbl⟩
    have hlen : (plcs (opsL l)).length = (opsL l).length := by simp [plcs]
    rw [hpl, hlen] at ho
    obtain ⟨A, c, rfl⟩ := own_slice ho
    rw [he]
    exact ⟨A, c, rfl, ho, hbl⟩
  have HAT := Lib.hid (ops_at l (by omega) he)
  have HP := Lib.hid hP
  have HK := Lib.hid (known_calls w hG)
  have HB := Lib.hid hb
  have HG := Lib.hid hG
  obtain ⟨A, c, rfl, hnc, hcm, hby, hcl⟩ := hb
  have HBY := Lib.hid hby
  have HCL := Lib.hid hcl
  have ht : decide (4000 < (l.length : Int)) = false := by simp; omega
  clear hP hG hpl he hby hcl
  go_enter Tryd.func4, Tryd.ntmps4
  go_wp2_with (first | (go_at_call 12; refine HK.out.mono ?_; rintro e w1 ⟨rfl, hb1⟩) | (go_at_call 16; refine (HP.out _ hb1).mono ?_; rintro e w2 ⟨A2, c2, rfl, ho2, hb2⟩) | fail)
  have HB2 := Lib.hid (hb1.trans (hb2.mono hb1.size))
  have HO2 := Lib.hid (row_base ho2 hb1.size)
  clear hb1 hb2 ho2
  go_loopw [5, 6] (fun a i wr => ∃ k : Nat, k ≤ (opsL l).length ∧ i = .int .i64 k ∧ a = .int .i64 (stI l k) ∧ wr.ownsRow w.heap.size 3 1 (.slice A2 (opsL l).length c2) (opsL l).length (nums .i64 (plcs (opsL l))) ∧ Below w.heap.size w wr)
    (fun _ i _ => (opsL l).length - (intOf i).toNat)
  case atStart => exact ⟨0, Nat.zero_le _, rfl, by rw [HAT.out.1]; rfl, HO2.out, HB2.out⟩
  case round =>
    obtain ⟨k, hk, rfl, rfl, ho, hbw⟩ := hrel
    by_cases hlt : k < (opsL l).length
    · obtain ⟨x, hx⟩ : ∃ x, (opsL l)[k]? = some x := ⟨_, List.getElem?_eq_getElem hlt⟩
      obtain ⟨e1, e2, e3, e4, e5⟩ := HAT.out.2.2 k x hx
      have hpl : rd (plcs (opsL l)) k = x.1 := by simp [rd, plcs, hx]
      obtain ⟨p, ⟨code, ra, rb, size, err⟩⟩ := x
      dsimp only at e1 e2 e3 e4 e5 hpl
      subst e5
      have hsz := readAt_size l p (by rw [← e4])
      have hend := readAt_end l p e3 (by rw [← e4])
      have hwr := write_read l HBY.out p e3 (by rw [← e4])
      rw [← e4] at hsz hend hwr
      dsimp only at hsz hend hwr
      obtain ⟨s, rfl⟩ := Int.eq_ofNat_of_zero_le (show 0 ≤ size by omega)
      rw [Int.toNat_natCast] at e2 hend hwr
      obtain ⟨b, off, hA, hcb⟩ := HCL.out (by intro h; rw [h] at e3; simp at e3)
      subst hA
      obtain ⟨g, cap, hv, hgb, hgl⟩ := ho.form (by omega)
      cases hv
      have hcell := (own_at ho k (by omega) (by omega)).1
      rw [hpl, Int.toNat_natCast] at hcell
      have hrd : Calls Tryd.prog 13 #[.slice (some ⟨b, off, none⟩) l.length c, .int .i64 p] wr fun e w' => e = .returned (Rd.val ⟨code, ra, rb, s, 0⟩) ∧ Below wr.heap.size wr w' := by
        have := read_calls _ l p wr (HG.out.below hbw) (HB.out.below hbw)
        rwa [readS_at l p e3, ← e4] at this
      have hwd : ∀ W, Below w.heap.size w W → Calls Tryd.prog 21 #[.agg #[.int .i64 code, .int .i64 ra, .int .i64 rb, .int .i64 s]] W fun e w' => ∃ v', e = .returned (.tuple #[v', .int .i64 0]) ∧ w'.ownsRow W.heap.size 5 1 v' ((l.drop p).take s).length (nums .u8 ((l.drop p).take s)) ∧ Below W.heap.size W w' := by
        intro W hW
        have := write_calls code ra rb s W (HG.out.below hW)
        rw [hwr] at this
        exact this
      rw [e1]
      have hs1 : decide ((s : Int) < 1) = false := by simp; omega
      have HRD := Lib.hid hrd
      have HWD := Lib.hid hwd
      have HO := Lib.hid ho
      have HBW := Lib.hid hbw
      have HCB := Lib.hid hcb
      have HE2 := Lib.hid e2
      have hgl' : g < wr.heap.size := block_lt_of_cell hcell
      clear hrd hwd ho hbw hcb e2 e4 hwr hpl hx e1 hgl
      go_wp2_with (first | (go_at_call 13; refine HRD.out.mono ?_; rintro e w3 ⟨rfl, hb3⟩; unfold Rd.val; dsimp only; have hcell3 := cell_be hb3 hcell; have hg3 : g < w3.heap.size := Nat.lt_of_lt_of_le hgl' hb3.size; have HB3 := Lib.hid hb3; clear hb3) | (go_at_call 21; refine (HWD.out _ ((HBW.out.trans (HB3.out.mono HBW.out.size)).alloc (Nat.le_trans HBW.out.size HB3.out.size) _)).mono ?_; rintro e w4 ⟨v4, rfl, ho4, hb4⟩) | fail)
      have hsz4 : w4.cell? ⟨w3.heap.size, 3, none⟩ = some (.int .i64 s) := by
        have := row_kept hb4 (heap_alloc_new w3 _)
        rw [cell_of_row _ _ _ _ _ _ this]; rfl
      have hv4 : ∀ nq, (convert 22 9 v4).run Tryd.prog (w4.drewN nq) = .ok (.string (strOfNums ((l.drop p).take s))) (w4.drewN nq) := fun nq => own_string Tryd.underlying22 Tryd.underlying5 Tryd.underlying9 (w := w4.drewN nq) ho4
      have hcv : ∀ nq, (convert 22 9 (.slice (some ⟨b, off + p, none⟩) s (c - p))).run Tryd.prog (w4.drewN nq) = .ok (.string (strOfNums ((l.drop p).take s))) (w4.drewN nq) := fun nq =>
        run_convert_bytes_arg (w4.drewN nq) 22 5 Tryd.underlying22 Tryd.underlying5 b (off + p) s (c - p) ((l.drop p).take s) (by simp; omega) (fun i hi => by
          have hi2 : p + i < l.length := by omega
          have h4 := cell_be hb4 (cell_al (cell_be HB3.out (cell_be HBW.out (HCB.out (p + i) hi2))) _)
          have h5 : ((l.drop p).take s).getD i 0 = l.getD (p + i) 0 := by
            simp [hi, List.getD_eq_getElem?_getD]
          rw [h5, Nat.add_assoc]
          exact h4) 9 Tryd.underlying9
      clear hcell hcell3 HRD HWD HCB
      generalize hS : strOfNums ((l.drop p).take s) = S at hv4 hcv
      have hsub : ((p : Int) + s).toNat - p = s := by omega
      go_quiet (fail)
      go_wp2_with (fail)
      have hm : (opsL l).length ≤ 9223372036854775807 := by
        obtain ⟨A', c', _, _, hm, _⟩ := own_reads HO.out
        exact hm
      have hB4 : Below w.heap.size w w4 := (HBW.out.trans (HB3.out.mono HBW.out.size)).trans ((((Below.refl w3.heap.size w3).alloc (Nat.le_refl _) _).trans (hb4.mono ((Below.refl w3.heap.size w3).alloc (Nat.le_refl _) _).size)).mono (Nat.le_trans HBW.out.size HB3.out.size))
      exact places_round w HE2.out hlt hm hB4 (pw_own_below (pw_own_below (pw_own_below HO.out HB3.out) ((Below.refl w3.heap.size w3).alloc (Nat.le_refl _) _)) hb4) nq
    · obtain rfl : k = (opsL l).length := by omega
      have hlt2 : decide (((opsL l).length : Int) < ((opsL l).length : Int)) = false := by simp
      have hst := HAT.out.2.1
      rw [hst]
      clear hst
      go_wp2_with (fail)
      go_ret
      exact ⟨rfl, hbw⟩

/-- Whatever the bytes are. -/
theorem placesLaw_calls (v : Value) (l : List Int) (w : World) (hb : Byt w v l) (hG : Glob w) : Calls Tryd.prog 4 #[v] w (TruePost w) := by
  by_cases hl : l.length ≤ 4000
  · by_cases he : (placesS l).2 = 0
    · exact placesLaw_ok v l w hl hb hG he
    · exact placesLaw_err v l w hl hb hG he
  · obtain ⟨A, c, rfl, _⟩ := hb
    exact placesLaw_long A l.length c w (by omega) hG
end Go.Proofs.YtkphijabhoppnaaDoor
