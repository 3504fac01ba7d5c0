/- CodePlaces: plain law and walk. -/
import Derived.Test.YtkphijabhoppnaaDoorBd
import Derived.Test.YtkphijabhoppnaaDoorBe
import Derived.Deep.QuietTactic
import Derived.BigQuiet
import Derived.Laws.BytesArg
namespace Go.Proofs.YtkphijabhoppnaaDoor
open Go.RowKit
set_option linter.unusedSimpArgs false
set_option linter.unusedVariables false

theorem drop_take (l : List Int) (p n : Nat) (h : p + n ≤ l.length) : (l.drop p).take n = (List.range n).map fun j => l.getD (p + j) 0 := by
  apply List.ext_getElem
  · simp; omega
  · intro i h1 h2
    have hi : i < n := by simpa using h2
    have : p + i < l.length := by omega
    simp [List.getElem?_eq_getElem this]
theorem getD_drop2 (l : List Int) (p : Nat) (h : p + 1 < l.length) : (l.drop p).take 2 = [l.getD p 0, l.getD (p + 1) 0] := by
  rw [drop_take l p 2 (by omega)]; rfl
theorem getD_drop3 (l : List Int) (p : Nat) (h : p + 2 < l.length) : (l.drop p).take 3 = [l.getD p 0, l.getD (p + 1) 0, l.getD (p + 2) 0] := by
  rw [drop_take l p 3 (by omega)]; rfl
theorem getD_drop1 (l : List Int) (p : Nat) (h : p < l.length) : (l.drop p).take 1 = [l.getD p 0] := by
  rw [drop_take l p 1 (by omega)]; rfl

/-- What is read is written as the bytes that it was read of. -/
theorem write_read (l : List Int) (hby : ∀ x ∈ l, 0 ≤ x ∧ x ≤ 255) (p : Nat) (hp : p < l.length) (h : (readAt l p).err = 0) :
    writeS (readAt l p).code (readAt l p).a (readAt l p).b = ((l.drop p).take (readAt l p).size.toNat, 0) := by
  have byte : ∀ j, j < l.length → 0 ≤ l.getD j 0 ∧ l.getD j 0 ≤ 255 := fun j hj => hby (l.getD j 0) (by rw [List.getD_eq_getElem?_getD, List.getElem?_eq_getElem hj]; exact List.getElem_mem hj)
  have h0 := byte p hp
  unfold readAt at h ⊢
  split at h
  · simp at h
  · rename_i hx
    rw [if_neg hx]
    have hc : 0 ≤ l.getD p 0 ∧ l.getD p 0 ≤ 40 := ⟨h0.1, by omega⟩
    rcases opk_le (l.getD p 0) with hk | hk | hk | hk | hk <;> rw [hk] at h ⊢ <;> simp only [readK] at h ⊢
    · rw [writeS, if_pos hc, hk]
      simp only [writeK]
      rw [if_pos ⟨by simp, by simp⟩, show (1 : Int).toNat = 1 from rfl, getD_drop1 l p hp]
    · split at h
      · rename_i hy
        rw [if_pos hy, writeS]
        dsimp only
        rw [if_pos hc, hk]
        simp only [writeK]
        rw [if_pos ⟨byte _ hy, by simp⟩, show (2 : Int).toNat = 2 from rfl, getD_drop2 l p hy]
      · simp at h
    · split at h
      · rename_i hy
        have hb := byte _ hy
        have hin : inR 2 (s8 (l.getD (p + 1) 0)) := by
          show -128 ≤ s8 _ ∧ s8 _ ≤ 127
          unfold s8
          split <;> omega
        have hm : s8 (l.getD (p + 1) 0) % 256 = l.getD (p + 1) 0 := by
          unfold s8
          split <;> omega
        rw [if_pos hy, writeS]
        dsimp only
        rw [if_pos hc, hk]
        simp only [writeK]
        rw [if_pos ⟨hin, by simp⟩, hm, show (2 : Int).toNat = 2 from rfl, getD_drop2 l p hy]
      · simp at h
    · split at h
      · rename_i hy
        have hb := byte _ hy
        have hb1 := byte (p + 1) (by omega)
        have hin : inR 3 (s16 (l.getD (p + 1) 0) (l.getD (p + 2) 0)) := by
          show -32768 ≤ s16 _ _ ∧ s16 _ _ < 32768
          unfold s16
          split <;> omega
        have hm : s16 (l.getD (p + 1) 0) (l.getD (p + 2) 0) % 256 = l.getD (p + 1) 0 := by
          unfold s16
          split <;> omega
        have hm2 : s16 (l.getD (p + 1) 0) (l.getD (p + 2) 0) / 256 % 256 = l.getD (p + 2) 0 := by
          unfold s16
          split <;> omega
        rw [if_pos hy, writeS]
        dsimp only
        rw [if_pos hc, hk]
        simp only [writeK]
        rw [if_pos ⟨hin, by simp⟩, hm, hm2, show (3 : Int).toNat = 3 from rfl, getD_drop3 l p hy]
      · simp at h
    · split at h
      · rename_i hy
        rw [if_pos hy, writeS]
        dsimp only
        rw [if_pos hc, hk]
        simp only [writeK]
        rw [if_pos ⟨byte _ (by omega), byte _ hy⟩, show (3 : Int).toNat = 3 from rfl, getD_drop3 l p hy]
      · simp at h

/-- Where the k-th bytecode begins; the end behind the last one. -/
def stI (l : List Int) (k : Nat) : Nat := match (opsL l)[k]? with
  | some x => x.1
  | none => l.length
theorem opsFrom_chain (l : List Int) : ∀ (f i : Nat), (∀ x, (opsFrom l f i)[0]? = some x → x.1 = i) ∧
    (∀ k x y, (opsFrom l f i)[k]? = some x → (opsFrom l f i)[k + 1]? = some y → y.1 = x.1 + x.2.size.toNat) := by
  intro f
  induction f with
  | zero => intro i; simp [opsFrom]
  | succ f ih =>
    intro i
    rw [opsFrom]
    split
    · split
      · obtain ⟨h1, h2⟩ := ih (i + (readAt l i).size.toNat)
        refine ⟨by simp, ?_⟩
        intro k x y hx hy
        cases k with
        | zero =>
          simp at hx hy
          subst hx
          exact h1 y (by simpa using hy)
        | succ k => exact h2 k x y (by simpa using hx) (by simpa using hy)
      · simp
    · simp
theorem ops_at (l : List Int) (hlen : l.length ≤ 1000000) (hE : (placesS l).2 = 0) :
    stI l 0 = 0 ∧ stI l (opsL l).length = l.length ∧ ∀ k x, (opsL l)[k]? = some x → stI l k = x.1 ∧ stI l (k + 1) = x.1 + x.2.size.toNat ∧ x.1 < l.length ∧ x.2 = readAt l x.1 ∧ x.2.err = 0 := by
  obtain ⟨E, e1, e2, e3⟩ := ops_end l hlen
  have hEl : E = l.length := by
    unfold placesS at hE
    rw [e1] at hE
    split at hE
    · rename_i h
      have h' : E < l.length := by omega
      rw [readS_at l E h'] at hE
      exact absurd hE (e3 h')
    · omega
  obtain ⟨c1, c2⟩ := opsFrom_chain l l.length 0
  refine ⟨?_, by simp [stI], ?_⟩
  · unfold stI
    cases h : (opsL l)[0]? with
    | some x => exact c1 x h
    | none =>
      have : opsL l = [] := by
        cases h2 : opsL l with
        | nil => rfl
        | cons y ys => rw [h2] at h; simp at h
      rw [this] at e1
      simp [endO] at e1
      dsimp only
      omega
  · intro k x hx
    have hm := opsFrom_mem l _ _ x (List.mem_of_getElem? hx)
    refine ⟨by unfold stI; rw [hx], ?_, hm.2.1, hm.2.2.1, hm.2.2.2⟩
    unfold stI
    cases h : (opsL l)[k + 1]? with
    | some y => exact c2 k x y hx h
    | none =>
      dsimp only
      have hkl : k + 1 = (opsL l).length := by
        have := List.getElem?_eq_none_iff.1 h
        have := (List.getElem?_eq_some_iff.1 hx).1
        omega
      have hlast : (opsL l).getLast? = some x := by
        rw [List.getLast?_eq_getElem?, ← hkl]
        simpa using hx
      unfold endO at e1
      rw [hlast] at e1
      have hend := readAt_end l x.1 hm.2.1 (by rw [← hm.2.2.1]; exact hm.2.2.2)
      have hsz := readAt_size l x.1 (by rw [← hm.2.2.1]; exact hm.2.2.2)
      rw [← hm.2.2.1] at hend hsz
      simp only [wrap64] at e1
      omega
end Go.Proofs.YtkphijabhoppnaaDoor
namespace Go.Proofs.YtkphijabhoppnaaDoor
open Go.RowKit Go.Proofs.YtkphijabhoppnaaDoorW.PrintWords
set_option linter.unusedSimpArgs false
set_option linter.unusedVariables false

def TruePost (w : World) (e : Ending) (w' : World) : Prop := e = .returned (.bool true) ∧ Below w.heap.size w w'

theorem placesLaw_long (A : Option Addr) (n c : Nat) (w : World) (hn : 4000 < n) (hG : Glob w) : Calls Tryd.prog 4 #[.slice A n c] w (TruePost w) := by
  have HK := Lib.hid (known_calls w hG)
  clear hG
  have ht : decide (4000 < (n : Int)) = true := by simp; omega
  go_enter Tryd.func4, Tryd.ntmps4
  go_wp2_with (first | (go_at_call 12; refine HK.out.mono ?_; rintro e w1 ⟨rfl, hb1⟩) | fail)
  go_ret
  exact ⟨rfl, hb1⟩

theorem placesLaw_err (v : Value) (l : List Int) (w : World) (hl : l.length ≤ 4000) (hb : Byt w v l) (hG : Glob w) (he : (placesS l).2 ≠ 0) : Calls Tryd.prog 4 #[v] w (TruePost w) := by
  obtain ⟨er, her⟩ : ∃ er, (placesS l).2 = er := ⟨_, rfl⟩
  have hnil : (placesS l).1 = [] := by
    unfold placesS at he ⊢
    split
    · rfl
    · rename_i h; rw [if_neg h] at he; exact absurd rfl he
  have hP : ∀ w1, Below w.heap.size w w1 → Calls Tryd.prog 16 #[v] w1 fun e w' => ∃ A c, e = .returned (.tuple #[.slice A (0 : Nat) c, .int .i64 er]) ∧ Below w1.heap.size w1 w' := by
    intro w1 h1
    refine (places_calls v l w1 (by omega) (hb.below h1) (hG.below h1)).mono ?_
    rintro e w' ⟨v', rfl, ho, hbl⟩
    rw [hnil] at ho
    obtain ⟨A, c, rfl⟩ := own_slice ho
    rw [her]
    exact ⟨A, c, rfl, hbl⟩
  have HP := Lib.hid hP
  have HK := Lib.hid (known_calls w hG)
  obtain ⟨A, c, rfl, _⟩ := hb
  rw [her] at he
  have ht : decide (4000 < (l.length : Int)) = false := by simp; omega
  have hb1 : (er != 0) = true := by simpa using he
  clear hP hG hnil her he
  go_enter Tryd.func4, Tryd.ntmps4
  go_wp2_with (first | (go_at_call 12; refine HK.out.mono ?_; rintro e w1 ⟨rfl, hb1⟩) | (go_at_call 16; refine (HP.out _ hb1).mono ?_; rintro e w2 ⟨A2, c2, rfl, hb2⟩) | fail)
  go_ret
  exact ⟨rfl, hb1.trans (hb2.mono hb1.size)⟩

theorem places_round {l : List Int} {k p s N : Nat} {v : Value} {xs : List Value} (w : World) {w4 : World} (e : stI l (k + 1) = p + s) (hlt : k < N) (hm : N ≤ 9223372036854775807)
    (hB : Below w.heap.size w w4) (ho : w4.ownsRow w.heap.size 3 1 v N xs) (nq : Nat) :
    (∃ k_1, k_1 ≤ N ∧ Value.int IntKind.i64 (wrap64 ((k : Int) + 1)) = Value.int IntKind.i64 (k_1 : Nat) ∧ Value.int IntKind.i64 ((p : Int) + s) = Value.int IntKind.i64 (stI l k_1) ∧ (w4.drewN nq).ownsRow w.heap.size 3 1 v N xs ∧ Below w.heap.size w (w4.drewN nq)) ∧
    N - (intOf (Value.int IntKind.i64 (wrap64 ((k : Int) + 1)))).toNat < N - (intOf (Value.int IntKind.i64 (k : Nat))).toNat := by
  have hk1 : wrap64 ((k : Int) + 1) = ((k + 1 : Nat) : Int) := by rw [IntWalk.wrap64_in _ (by omega)]; omega
  rw [hk1]
  refine ⟨⟨k + 1, hlt, rfl, by rw [e]; rfl, pw_own_below (w1 := w4.drewN nq) ho (below_drewN0 (Below.refl _ _) _), below_drewN0 hB _⟩, ?_⟩
  simp only [intOf]
  omega

set_option maxRecDepth 100000 in
set_option maxHeartbeats 800000 in
theorem placesLaw_ok (v : Value) (l : List Int) (w : World) (hl : l.length ≤ 4000) (hb : Byt w v l) (hG : Glob w) (he : (placesS l).2 = 0) : Calls Tryd.prog 4 #[v] w (TruePost w) := by
  have hpl : (placesS l).1 = plcs (opsL l) := by
    unfold placesS at he ⊢
    split
    · rename_i h
      rw [if_pos h] at he
      obtain ⟨E, e1, e2, e3⟩ := ops_end l (by omega)
      rw [e1] at he h
      have h' : E < l.length := by omega
      rw [readS_at l E h'] at he
      exact absurd he (e3 h')
    · rfl
  have hP : ∀ w1, Below w.heap.size w w1 → Calls Tryd.prog 16 #[v] w1 fun e w' => ∃ A c, e = .returned (.tuple #[.slice A (opsL l).length c, .int .i64 0]) ∧ w'.ownsRow w1.heap.size 3 1 (.slice A (opsL l).length c) (opsL l).length (nums .i64 (plcs (opsL l))) ∧ Below w1.heap.size w1 w' := by
    intro w1 h1
    refine (places_calls v l w1 (by omega) (hb.below h1) (hG.below h1)).mono ?_
    rintro e w' ⟨v', rfl, ho, hbl⟩
    have hlen : (plcs (opsL l)).length = (opsL l).length := by simp [plcs]
    rw [hpl, hlen] at ho
    obtain ⟨A, c, rfl⟩ := own_slice ho
    rw [he]
    exact ⟨A, c, rfl, ho, hbl⟩
  have HAT := Lib.hid (ops_at l (by omega) he)
  have HP := Lib.hid hP
  have HK := Lib.hid (known_calls w hG)
  have HB := Lib.hid hb
  have HG := Lib.hid hG
  obtain ⟨A, c, rfl, hnc, hcm, hby, hcl⟩ := hb
  have HBY := Lib.hid hby
  have HCL := Lib.hid hcl
  have ht : decide (4000 < (l.length : Int)) = false := by simp; omega
  clear hP hG hpl he hby hcl
  go_enter Tryd.func4, Tryd.ntmps4
  go_wp2_with (first | (go_at_call 12; refine HK.out.mono ?_; rintro e w1 ⟨rfl, hb1⟩) | (go_at_call 16; refine (HP.out _ hb1).mono ?_; rintro e w2 ⟨A2, c2, rfl, ho2, hb2⟩) | fail)
  have HB2 := Lib.hid (hb1.trans (hb2.mono hb1.size))
  have HO2 := Lib.hid (row_base ho2 hb1.size)
  clear hb1 hb2 ho2
  go_loopw [5, 6] (fun a i wr => ∃ k : Nat, k ≤ (opsL l).length ∧ i = .int .i64 k ∧ a = .int .i64 (stI l k) ∧ wr.ownsRow w.heap.size 3 1 (.slice A2 (opsL l).length c2) (opsL l).length (nums .i64 (plcs (opsL l))) ∧ Below w.heap.size w wr)
    (fun _ i _ => (opsL l).length - (intOf i).toNat)
  case atStart => exact ⟨0, Nat.zero_le _, rfl, by rw [HAT.out.1]; rfl, HO2.out, HB2.out⟩
  case round =>
    obtain ⟨k, hk, rfl, rfl, ho, hbw⟩ := hrel
    by_cases hlt : k < (opsL l).length
    · obtain ⟨x, hx⟩ : ∃ x, (opsL l)[k]? = some x := ⟨_, List.getElem?_eq_getElem hlt⟩
      obtain ⟨e1, e2, e3, e4, e5⟩ := HAT.out.2.2 k x hx
      have hpl : rd (plcs (opsL l)) k = x.1 := by simp [rd, plcs, hx]
      obtain ⟨p, ⟨code, ra, rb, size, err⟩⟩ := x
      dsimp only at e1 e2 e3 e4 e5 hpl
      subst e5
      have hsz := readAt_size l p (by rw [← e4])
      have hend := readAt_end l p e3 (by rw [← e4])
      have hwr := write_read l HBY.out p e3 (by rw [← e4])
      rw [← e4] at hsz hend hwr
      dsimp only at hsz hend hwr
      obtain ⟨s, rfl⟩ := Int.eq_ofNat_of_zero_le (show 0 ≤ size by omega)
      rw [Int.toNat_natCast] at e2 hend hwr
      obtain ⟨b, off, hA, hcb⟩ := HCL.out (by intro h; rw [h] at e3; simp at e3)
      subst hA
      obtain ⟨g, cap, hv, hgb, hgl⟩ := ho.form (by omega)
      cases hv
      have hcell := (own_at ho k (by omega) (by omega)).1
      rw [hpl, Int.toNat_natCast] at hcell
      have hrd : Calls Tryd.prog 13 #[.slice (some ⟨b, off, none⟩) l.length c, .int .i64 p] wr fun e w' => e = .returned (Rd.val ⟨code, ra, rb, s, 0⟩) ∧ Below wr.heap.size wr w' := by
        have := read_calls _ l p wr (HG.out.below hbw) (HB.out.below hbw)
        rwa [readS_at l p e3, ← e4] at this
      have hwd : ∀ W, Below w.heap.size w W → Calls Tryd.prog 21 #[.agg #[.int .i64 code, .int .i64 ra, .int .i64 rb, .int .i64 s]] W fun e w' => ∃ v', e = .returned (.tuple #[v', .int .i64 0]) ∧ w'.ownsRow W.heap.size 5 1 v' ((l.drop p).take s).length (nums .u8 ((l.drop p).take s)) ∧ Below W.heap.size W w' := by
        intro W hW
        have := write_calls code ra rb s W (HG.out.below hW)
        rw [hwr] at this
        exact this
      rw [e1]
      have hs1 : decide ((s : Int) < 1) = false := by simp; omega
      have HRD := Lib.hid hrd
      have HWD := Lib.hid hwd
      have HO := Lib.hid ho
      have HBW := Lib.hid hbw
      have HCB := Lib.hid hcb
      have HE2 := Lib.hid e2
      have hgl' : g < wr.heap.size := block_lt_of_cell hcell
      clear hrd hwd ho hbw hcb e2 e4 hwr hpl hx e1 hgl
      go_wp2_with (first | (go_at_call 13; refine HRD.out.mono ?_; rintro e w3 ⟨rfl, hb3⟩; unfold Rd.val; dsimp only; have hcell3 := cell_be hb3 hcell; have hg3 : g < w3.heap.size := Nat.lt_of_lt_of_le hgl' hb3.size; have HB3 := Lib.hid hb3; clear hb3) | (go_at_call 21; refine (HWD.out _ ((HBW.out.trans (HB3.out.mono HBW.out.size)).alloc (Nat.le_trans HBW.out.size HB3.out.size) _)).mono ?_; rintro e w4 ⟨v4, rfl, ho4, hb4⟩) | fail)
      have hsz4 : w4.cell? ⟨w3.heap.size, 3, none⟩ = some (.int .i64 s) := by
        have := row_kept hb4 (heap_alloc_new w3 _)
        rw [cell_of_row _ _ _ _ _ _ this]; rfl
      have hv4 : ∀ nq, (convert 22 9 v4).run Tryd.prog (w4.drewN nq) = .ok (.string (strOfNums ((l.drop p).take s))) (w4.drewN nq) := fun nq => own_string Tryd.underlying22 Tryd.underlying5 Tryd.underlying9 (w := w4.drewN nq) ho4
      have hcv : ∀ nq, (convert 22 9 (.slice (some ⟨b, off + p, none⟩) s (c - p))).run Tryd.prog (w4.drewN nq) = .ok (.string (strOfNums ((l.drop p).take s))) (w4.drewN nq) := fun nq =>
        run_convert_bytes_arg (w4.drewN nq) 22 5 Tryd.underlying22 Tryd.underlying5 b (off + p) s (c - p) ((l.drop p).take s) (by simp; omega) (fun i hi => by
          have hi2 : p + i < l.length := by omega
          have h4 := cell_be hb4 (cell_al (cell_be HB3.out (cell_be HBW.out (HCB.out (p + i) hi2))) _)
          have h5 : ((l.drop p).take s).getD i 0 = l.getD (p + i) 0 := by
            simp [hi, List.getD_eq_getElem?_getD]
          rw [h5, Nat.add_assoc]
          exact h4) 9 Tryd.underlying9
      clear hcell hcell3 HRD HWD HCB
      generalize hS : strOfNums ((l.drop p).take s) = S at hv4 hcv
      have hsub : ((p : Int) + s).toNat - p = s := by omega
      go_quiet (fail)
      go_wp2_with (fail)
      have hm : (opsL l).length ≤ 9223372036854775807 := by
        obtain ⟨A', c', _, _, hm, _⟩ := own_reads HO.out
        exact hm
      have hB4 : Below w.heap.size w w4 := (HBW.out.trans (HB3.out.mono HBW.out.size)).trans ((((Below.refl w3.heap.size w3).alloc (Nat.le_refl _) _).trans (hb4.mono ((Below.refl w3.heap.size w3).alloc (Nat.le_refl _) _).size)).mono (Nat.le_trans HBW.out.size HB3.out.size))
      exact places_round w HE2.out hlt hm hB4 (pw_own_below (pw_own_below (pw_own_below HO.out HB3.out) ((Below.refl w3.heap.size w3).alloc (Nat.le_refl _) _)) hb4) nq
    · obtain rfl : k = (opsL l).length := by omega
      have hlt2 : decide (((opsL l).length : Int) < ((opsL l).length : Int)) = false := by simp
      have hst := HAT.out.2.1
      rw [hst]
      clear hst
      go_wp2_with (fail)
      go_ret
      exact ⟨rfl, hbw⟩

/-- Whatever the bytes are. -/
theorem placesLaw_calls (v : Value) (l : List Int) (w : World) (hb : Byt w v l) (hG : Glob w) : Calls Tryd.prog 4 #[v] w (TruePost w) := by
  by_cases hl : l.length ≤ 4000
  · by_cases he : (placesS l).2 = 0
    · exact placesLaw_ok v l w hl hb hG he
    · exact placesLaw_err v l w hl hb hG he
  · obtain ⟨A, c, rfl, _⟩ := hb
    exact placesLaw_long A l.length c w (by omega) hG
end Go.Proofs.YtkphijabhoppnaaDoor
