/- The reference's line and Parse, walked. -/
import Derived.Test.YtkphijabhoppnaaDoorSd
import Derived.Test.YtkphijabhoppnaaDoorTb
import Derived.Outline
namespace Go.Proofs.YtkphijabhoppnaaDoor
open Go.RowKit Go.Proofs.YtkphijabhoppnaaDoorW.PrintWords Go.Proofs.YtkphijabhoppnaaDoor.PCodeParses
set_option linter.unusedSimpArgs false
set_option linter.unusedVariables false

def RLine (w : World) (r1 : List Int) (r2 : Bool) (e : Ending) (w' : World) : Prop :=
  ∃ v0_ : Value, e = .returned (.tuple #[v0_, .bool r2]) ∧ Kd.R (Kd.int .u8) 5 w' w.heap.size (fun _ => True) v0_ r1 ∧ Below w.heap.size w w'
theorem rkind_k (k : Nat) (s : ByteArray) (x : Int) (b : Bool) (h : brazierref13_Kind.f k s = some (x, b)) (W : World) :
    Calls Tryd.prog 24 #[.string s] W fun e w' => e = .returned (.tuple #[.int .i64 x, .bool b]) ∧ Below W.heap.size W w' :=
  brazierref13_Kind.calls k s x b W h
theorem rops_k (k : Nat) (c : Int) (n : Nat) (s : ByteArray) (hs : s.size = n) (h : brazierref13_Operands.f k c = some s) (W : World) :
    Calls Tryd.prog 47 #[.int .i64 c] W fun e w' => ∃ s : ByteArray, s.size = n ∧ e = .returned (.string s) ∧ Below W.heap.size W w' :=
  (brazierref13_Operands.calls k c s W h).mono fun _ _ ⟨h1, h2⟩ => ⟨s, hs, h1, h2.below⟩
theorem rnum_k (k : Nat) (s : ByteArray) (x : Int) (b : Bool) (h : brazierref13_number.f k s = some (x, b)) (W : World) :
    Calls Tryd.prog 115 #[.string s] W fun e w' => e = .returned (.tuple #[.int .i64 x, .bool b]) ∧ Below W.heap.size W w' :=
  (brazierref13_number.calls k s x b W h).mono fun _ _ ⟨h1, h2⟩ => ⟨h1, h2.below⟩
theorem rwrite_k (k : Nat) (c a b s : Int) (r1 : List Int) (r2 : Int) (h : brazierref13_Write.f k c a b s = some (r1, r2)) (W : World) :
    Calls Tryd.prog 22 #[.agg #[.int .i64 c, .int .i64 a, .int .i64 b, .int .i64 s]] W fun e w' => ∃ v0_ : Value, e = .returned (.tuple #[v0_, .int .i64 r2]) ∧ Kd.R (Kd.int .u8) 5 w' W.heap.size (fun _ => True) v0_ r1 ∧ Below W.heap.size W w' :=
  brazierref13_Write.calls k c a b s r1 r2 W h

theorem rbase {W : World} {b b' : Nat} {v : Value} {l : List Int} (h : Kd.R (Kd.int .u8) 5 W b (fun _ => True) v l) (hb : b' ≤ b) : Kd.R (Kd.int .u8) 5 W b' (fun _ => True) v l :=
  Kd.R_of_own (row_base (Kd.own_of_R h) hb) h.1
set_option maxRecDepth 100000 in
theorem rline_no (k : Nat) (ad : Addr) (n c0 : Nat) (s : ByteArray) (x : Int) (w : World) (hn : 0 < n) (h0 : w.cell? ad = some (.string s)) (h : brazierref13_Kind.f k s = some (x, false)) :
    Calls Tryd.prog 66 #[.slice (some ad) n c0] w (RLine w [] false) := by
  have HK := Lib.hid (rkind_k k s x false h)
  clear h
  go_enter Tryd.func66, Tryd.ntmps66
  go_wp2_with (first | (go_at_call 24; refine (HK.out _).mono ?_; rintro e w1 ⟨rfl, hb1⟩) | fail)
  go_ret2
  exact ⟨_, rfl, Kd.R_nil _ _ _ _ _, hb1⟩

set_option maxRecDepth 100000 in
theorem rline_len (k : Nat) (ad : Addr) (n c0 m : Nat) (s t : ByteArray) (x : Int) (w : World) (hn : 0 < n) (h0 : w.cell? ad = some (.string s)) (h : brazierref13_Kind.f k s = some (x, true))
    (ht : brazierref13_Operands.f k x = some t) (hts : t.size = m) (hm : ¬ (n : Int) = wrap64 (1 + (m : Int))) :
    Calls Tryd.prog 66 #[.slice (some ad) n c0] w (RLine w [] false) := by
  have HK := Lib.hid (rkind_k k s x true h)
  have HO := Lib.hid (rops_k k x m t hts ht)
  have hne : ((n : Int) != wrap64 (1 + (m : Int))) = true := by rw [bne_iff_ne]; exact hm
  clear h ht hts
  go_enter Tryd.func66, Tryd.ntmps66
  go_wp2_with (first | (go_at_call 24; refine (HK.out _).mono ?_; rintro e w1 ⟨rfl, hb1⟩) | (go_at_call 47; refine (HO.out _).mono ?_; rintro e w2 ⟨t2, ht2, rfl, hb2⟩) | fail)
  go_ret2
  exact ⟨_, rfl, Kd.R_nil _ _ _ _ _, hb1.trans (hb2.mono hb1.size)⟩

set_option maxRecDepth 100000 in
set_option maxHeartbeats 800000 in
theorem rline_m0 (k q : Nat) (ad : Addr) (c0 : Nat) (s t : ByteArray) (x y : Int) (bs : List Int) (w : World) (h0 : w.cell? ad = some (.string s)) (h : brazierref13_Kind.f k s = some (x, true))
    (ht : brazierref13_Operands.f k x = some t) (hts : t.size = 0) (hw : brazierref13_Write.f q x 0 0 0 = some (bs, y)) :
    Calls Tryd.prog 66 #[.slice (some ad) 1 c0] w (RLine w bs (y == 0)) := by
  have HK := Lib.hid (rkind_k k s x true h)
  have HO := Lib.hid (rops_k k x 0 t hts ht)
  have HR := Lib.hid (rwrite_k q x 0 0 0 bs y hw)
  clear h ht hts hw
  go_enter Tryd.func66, Tryd.ntmps66
  go_wp2_with (first | (go_at_call 24; refine (HK.out _).mono ?_; rintro e w1 ⟨rfl, hb1⟩) | (go_at_call 47; refine (HO.out _).mono ?_; rintro e w2 ⟨t2, ht2, rfl, hb2⟩; have HB2 := Lib.hid (hb1.trans (hb2.mono hb1.size)); clear hb1 hb2) | (go_at_call 22; refine (HR.out _).mono ?_; rintro e w3 ⟨v3, rfl, hr3, hb3⟩; have HR3 := Lib.hid hr3; have HB3 := Lib.hid hb3; clear hr3 hb3) | fail)
  go_ret2
  have hz := HB2.out.size
  exact ⟨v3, rfl, rbase HR3.out (by simp; omega), (HB2.out.alloc hz _).trans (HB3.out.mono (by simp; omega))⟩

set_option maxRecDepth 100000 in
set_option maxHeartbeats 800000 in
theorem rline_m1 (k q : Nat) (A off : Nat) (c0 : Nat) (s t a : ByteArray) (x y z : Int) (ok : Bool) (bs : List Int) (w : World) (h0 : w.cell? ⟨A, off, none⟩ = some (.string s)) (h1 : w.cell? ⟨A, off + 1, none⟩ = some (.string a)) (h : brazierref13_Kind.f k s = some (x, true))
    (ht : brazierref13_Operands.f k x = some t) (hts : t.size = 1) (hn : brazierref13_number.f k a = some (z, ok)) (hw : brazierref13_Write.f q x z 0 0 = some (bs, y)) :
    Calls Tryd.prog 66 #[.slice (some ⟨A, off, none⟩) 2 c0] w (RLine w bs (ok && (y == 0))) := by
  have HK := Lib.hid (rkind_k k s x true h)
  have HO := Lib.hid (rops_k k x 1 t hts ht)
  have HN := Lib.hid (rnum_k k a z ok hn)
  have HR := Lib.hid (rwrite_k q x z 0 0 bs y hw)
  clear h ht hts hw hn
  have hA : A < w.heap.size := block_lt_of_cell h0
  go_enter Tryd.func66, Tryd.ntmps66
  go_wp2_with (first | (go_at_call 24; refine (HK.out _).mono ?_; rintro e w1 ⟨rfl, hb1⟩) | (go_at_call 47; refine (HO.out _).mono ?_; rintro e w2 ⟨t2, ht2, rfl, hb2⟩; have hbb := hb1.trans (hb2.mono hb1.size); have c1 := cell_be hbb h1; have hA2 : A < w2.heap.size := block_lt_of_cell c1; have HB2 := Lib.hid hbb; clear hb1 hb2 hbb) | (go_at_call 115; refine (HN.out _).mono ?_; rintro e w3 ⟨rfl, hb3⟩; have hrow := row_kept hb3 (heap_alloc_new w2 _); have c30 := (cell_of_row _ _ 0 _ _ _ hrow).trans rfl; have c31 := (cell_of_row _ _ 1 _ _ _ hrow).trans rfl; have c32 := (cell_of_row _ _ 2 _ _ _ hrow).trans rfl; have c33 := (cell_of_row _ _ 3 _ _ _ hrow).trans rfl; have f30 := Lib.frozen_of_heap hrow 0; have f31 := Lib.frozen_of_heap hrow 1; have hz3 := hb3.size; have HB3 := Lib.hid ((HB2.out.alloc HB2.out.size (.cells #[.int .i64 x, .int .i64 0, .int .i64 0, .int .i64 0] 29)).trans (hb3.mono (by have := HB2.out.size; simp; omega))); clear hb3 hrow) | (go_at_call 22; refine (HR.out _).mono ?_; rintro e w4 ⟨v4, rfl, hr4, hb4⟩; have HR4 := Lib.hid hr4; have HB4 := Lib.hid hb4; clear hr4 hb4) | fail)
  all_goals
    go_ret2
    have hS := HB3.out.setCell (p := ⟨w2.heap.size, 1, none⟩) HB2.out.size (.int .i64 z)
    refine ⟨v4, ?_, rbase HR4.out hS.size, hS.trans (HB4.out.mono hS.size)⟩
    simp [*]

theorem setCell_row4b {W : World} {g : Nat} {x y z t : Value} {q : TypeId} {fr : Nat × Nat} (h : W.heap[g]? = some (Obj.cells #[x, y, z, t] q fr)) (v : Value) :
    (W.setCell ⟨g, 1, none⟩ v).heap[g]? = some (Obj.cells #[x, v, z, t] q fr) := by
  obtain ⟨hlt, hk⟩ := Array.getElem?_eq_some_iff.1 h
  show (W.heap.modify g _)[g]? = _
  rw [Array.getElem?_eq_getElem (by rw [Array.size_modify]; exact hlt), Array.getElem_modify_self, hk]
  rfl
set_option maxRecDepth 100000 in
set_option maxHeartbeats 1600000 in
theorem rline_m2 (k q u : Nat) (A off : Nat) (n m : Nat) (c0 : Nat) (s t a d : ByteArray) (x y z z2 : Int) (ok ok2 : Bool) (bs : List Int) (w : World) (h0 : w.cell? ⟨A, off, none⟩ = some (.string s)) (h1 : w.cell? ⟨A, off + 1, none⟩ = some (.string a)) (h2 : w.cell? ⟨A, off + 2, none⟩ = some (.string d))
    (h : brazierref13_Kind.f k s = some (x, true)) (ht : brazierref13_Operands.f k x = some t) (hts : t.size = m) (hm : 1 < m) (hnm : (n : Int) = wrap64 (1 + (m : Int))) (hn2 : 2 < n) (hn : brazierref13_number.f k a = some (z, ok)) (hd : brazierref13_number.f u d = some (z2, ok2)) (hw : brazierref13_Write.f q x z z2 0 = some (bs, y)) :
    Calls Tryd.prog 66 #[.slice (some ⟨A, off, none⟩) n c0] w (RLine w bs (ok && ok2 && (y == 0))) := by
  have HK := Lib.hid (rkind_k k s x true h)
  have HO := Lib.hid (rops_k k x m t hts ht)
  have HN := Lib.hid (rnum_k k a z ok hn)
  have HD := Lib.hid (rnum_k u d z2 ok2 hd)
  have HR := Lib.hid (rwrite_k q x z z2 0 bs y hw)
  have hne : ((n : Int) != wrap64 (1 + (m : Int))) = false := by rw [bne_eq_false_iff_eq]; exact hnm
  clear h ht hts hw hn hd hnm
  have hA : A < w.heap.size := block_lt_of_cell h0
  go_enter Tryd.func66, Tryd.ntmps66
  go_wp2_with (first | (go_at_call 24; refine (HK.out _).mono ?_; rintro e w1 ⟨rfl, hb1⟩) | (go_at_call 47; refine (HO.out _).mono ?_; rintro e w2 ⟨t2, ht2, rfl, hb2⟩; have hbb := hb1.trans (hb2.mono hb1.size); have c1 := cell_be hbb h1; have c2 := cell_be hbb h2; have hA2 : A < w2.heap.size := block_lt_of_cell c1; have HB2 := Lib.hid hbb; clear hb1 hb2 hbb) | fail)
  refine (HN.out _).mono ?_
  rintro e w3 ⟨rfl, hb3⟩
  have hrow := row_kept hb3 (heap_alloc_new w2 _)
  have c30 := (cell_of_row _ _ 0 _ _ _ hrow).trans rfl
  have c31 := (cell_of_row _ _ 1 _ _ _ hrow).trans rfl
  have c32 := (cell_of_row _ _ 2 _ _ _ hrow).trans rfl
  have c33 := (cell_of_row _ _ 3 _ _ _ hrow).trans rfl
  have f30 := Lib.frozen_of_heap hrow 0
  have f31 := Lib.frozen_of_heap hrow 1
  have hz3 := hb3.size
  have d2 := cell_be hb3 (cell_al c2 _)
  have HW3 := Lib.hid hrow
  have HB3 := Lib.hid ((HB2.out.alloc HB2.out.size (.cells #[.int .i64 x, .int .i64 0, .int .i64 0, .int .i64 0] 29)).trans (hb3.mono (by have := HB2.out.size; simp; omega)))
  clear hb3 hrow c1 c2
  go_wp2_with fail
  have HS := Lib.hid (HB3.out.setCell (p := ⟨w2.heap.size, 1, none⟩) HB2.out.size (.int .i64 z))
  have HW4 := Lib.hid (setCell_row4b HW3.out (.int .i64 z))
  clear c30 c31 c32 c33 f30 f31 d2
  refine (HD.out _).mono ?_
  rintro e w4 ⟨rfl, hb4⟩
  have hrow := row_kept hb4 HW4.out
  have c30 := (cell_of_row _ _ 0 _ _ _ hrow).trans rfl
  have c31 := (cell_of_row _ _ 1 _ _ _ hrow).trans rfl
  have c32 := (cell_of_row _ _ 2 _ _ _ hrow).trans rfl
  have c33 := (cell_of_row _ _ 3 _ _ _ hrow).trans rfl
  have f32 := Lib.frozen_of_heap hrow 2
  have HB4 := Lib.hid (HS.out.trans (hb4.mono HS.out.size))
  clear hb4 hrow
  go_wp2_with (first | (go_at_call 22; refine (HR.out _).mono ?_; rintro e w5 ⟨v5, rfl, hr5, hb5⟩; have HR5 := Lib.hid hr5; have HB5 := Lib.hid hb5; clear hr5 hb5) | fail)
  all_goals
    go_ret2
    have hS := HB4.out.setCell (p := ⟨w2.heap.size, 2, none⟩) HB2.out.size (.int .i64 z2)
    refine ⟨v5, ?_, rbase HR5.out hS.size, hS.trans (HB5.out.mono hS.size)⟩
    simp [*]

theorem string_spot {w : World} {A0 : Option Addr} {l : List ByteArray} (h : Kd.C Kd.string w A0 l.length l) (hl : 0 < (l.length : Int)) :
    ∃ A off, A0 = some ⟨A, off, none⟩ ∧ ∀ j : Nat, j < l.length → w.cell? ⟨A, off + j, none⟩ = some (.string (rdOf ByteArray.empty l j)) := by
  obtain ⟨a, rfl, hx⟩ := Kd.at_string h 0 (Int.le_refl _) hl
  have hsp : a.spot = none := by
    rw [show a.add (0 : Int).toNat = a from rfl] at hx
    unfold World.cell? at hx
    split at hx
    · split at hx
      · simp at hx
      · rename_i hs; simpa using hs
    · simp at hx
  obtain ⟨b, off, spot⟩ := a
  dsimp only at hsp
  subst hsp
  refine ⟨b, off, rfl, fun j hj => ?_⟩
  obtain ⟨a2, e2, hx2⟩ := Kd.at_string h (j : Int) (by omega) (by omega)
  cases e2
  have ha : (⟨b, off, none⟩ : Addr).add j = ⟨b, off + j, none⟩ := by unfold Addr.add; split <;> simp_all
  rw [Int.toNat_natCast, ha] at hx2
  exact hx2
theorem PCodeParses.brazierref13_line.calls (k : Nat) (A0 : Option Addr) (c0 : Nat) (l0 : List ByteArray) (r1 : List Int) (r2 : Bool) (w : World) (hr0 : Kd.C Kd.string w A0 l0.length l0) (hc0 : l0.length ≤ c0) (h : brazierref13_line.f k l0 = some (r1, r2)) :
    Calls Tryd.prog 66 #[.slice A0 l0.length c0] w fun e w' => ∃ v0_ : Value, e = .returned (.tuple #[v0_, .bool r2]) ∧ Kd.R (Kd.int .u8) 5 w' w.heap.size (fun _ => True) v0_ r1 ∧ Below w.heap.size w w' := by
  show Calls _ _ _ _ (RLine w r1 r2)
  unfold brazierref13_line.f at h
  split at h
  · rename_i hl
    obtain ⟨A, off, rfl, hcell⟩ := string_spot hr0 hl
    have h0 := hcell 0 (by omega)
    rw [Nat.add_zero] at h0
    obtain ⟨⟨x, ok⟩, hk, h⟩ := Option.bind_eq_some_iff.1 h
    replace hk : brazierref13_Kind.f k (rdOf ByteArray.empty l0 0) = some (x, ok) := hk
    cases ok with
    | false =>
      rw [if_neg (by simp)] at h
      cases h
      exact rline_no k _ _ c0 _ x w (by omega) h0 hk
    | true =>
      rw [if_pos rfl] at h
      obtain ⟨t, ht, h⟩ := Option.bind_eq_some_iff.1 h
      replace ht : brazierref13_Operands.f k x = some t := ht
      dsimp only at h
      split at h
      · rename_i hm
        split at h
        · rename_i hp
          split at h
          · rename_i h1l
            obtain ⟨⟨z, okz⟩, hz, h⟩ := Option.bind_eq_some_iff.1 h
            replace hz : brazierref13_number.f k (rdOf ByteArray.empty l0 1) = some (z, okz) := hz
            dsimp only at h
            have h1 := hcell 1 (by omega)
            cases k with
            | zero => cases h
            | succ k =>
              rw [brazierref13_line.j0] at h
              split at h
              · rename_i hp1
                split at h
                · rename_i h2l
                  obtain ⟨⟨z2, okz2⟩, hz2, h⟩ := Option.bind_eq_some_iff.1 h
                  replace hz2 : brazierref13_number.f k (rdOf ByteArray.empty l0 2) = some (z2, okz2) := hz2
                  obtain ⟨⟨bs, y⟩, hw, h⟩ := Option.bind_eq_some_iff.1 h
                  replace hw : brazierref13_Write.f k x z z2 0 = some (bs, y) := hw
                  have key := rline_m2 (k + 1) k k A off l0.length t.size c0 _ t _ _ x y z z2 okz okz2 bs w h0 h1 (hcell 2 (by omega)) hk ht rfl (by omega) hm (by omega) hz hz2 hw
                  cases okz <;> cases okz2 <;> simp at h <;> obtain ⟨rfl, rfl⟩ := h <;> exact key
                · cases h
              · rename_i hp1
                obtain ⟨⟨bs, y⟩, hw, h⟩ := Option.bind_eq_some_iff.1 h
                replace hw : brazierref13_Write.f k x z 0 0 = some (bs, y) := hw
                have ht1 : t.size = 1 := by omega
                rw [ht1] at hm
                have hl2 : l0.length = 2 := by simp [wrap64] at hm; omega
                rw [hl2]
                have key := rline_m1 (k + 1) k A off c0 _ t _ x y z okz bs w h0 h1 hk ht ht1 hz hw
                cases okz <;> simp at h <;> obtain ⟨rfl, rfl⟩ := h <;> exact key
          · cases h
        · rename_i hp
          have ht0 : t.size = 0 := by omega
          cases k with
          | zero => cases h
          | succ k =>
            rw [brazierref13_line.j0, if_neg (by omega)] at h
            obtain ⟨⟨bs, y⟩, hw, h⟩ := Option.bind_eq_some_iff.1 h
            replace hw : brazierref13_Write.f k x 0 0 0 = some (bs, y) := hw
            rw [ht0] at hm
            have hl1 : l0.length = 1 := by simp [wrap64] at hm; omega
            rw [hl1]
            have key := rline_m0 (k + 1) k ⟨A, off, none⟩ c0 _ t x y bs w h0 hk ht ht0 hw
            simp at h
            obtain ⟨rfl, rfl⟩ := h
            exact key
      · rename_i hm
        cases h
        exact rline_len k _ _ c0 t.size _ t x w (by omega) h0 hk ht rfl hm
  · cases h
end Go.Proofs.YtkphijabhoppnaaDoor
namespace Go.Proofs.YtkphijabhoppnaaDoor.PCodeParses
open Go.RowKit Go.Proofs.YtkphijabhoppnaaDoorW.PrintWords Go.Proofs.YtkphijabhoppnaaDoorW.PrintLast Go.Proofs.YtkphijabhoppnaaDoorW.PrintMore
attribute [local go_sem] max2_int min2_int max_two min_two max_three min_three max_four min_four   -- for this text's walks alone
set_option linter.unusedVariables false
set_option linter.unusedSimpArgs false

theorem brazierref13_Parse.calls (k : Nat) (a0 : ByteArray) (r1 : List Int) (r2 : Int) (r3 : Int) (w : World) (h : brazierref13_Parse.f k a0 = some (r1, r2, r3)) :
    Calls Tryd.prog 38 #[.string a0] w fun e w' => ∃ v0_ : Value, e = .returned (.tuple #[v0_, .int .i64 r2, .int .i64 r3]) ∧ Kd.R (Kd.int .u8) 5 w' w.heap.size (fun _ => True) v0_ r1 ∧ Below w.heap.size w w' := by
  have HB := Aside0.mk (Below.refl w.heap.size w)
  have H : (brazierref13_Parse.l0 k a0 ([] : List Int) 0 0 0) = some (r1, r2, r3) := h
  clear h
  have H' := Aside0.mk H
  clear H
  go_enter Tryd.func38, Tryd.ntmps38
  go_wp2
  go_loopg [5, 6, 7, 8] k (fun kq v5 v6 v7 v8 w' => ∃ (x5_1 : List Int) (x6_1 : Int) (x7_1 : Int) (x8_1 : Int), v6 = .int .i64 x6_1 ∧ v7 = .int .i64 x7_1 ∧ v8 = .int .i64 x8_1 ∧ Aside0 (brazierref13_Parse.l0 kq a0 x5_1 x6_1 x7_1 x8_1 = some (r1, r2, r3)) ∧ Aside0 (kq ≤ k) ∧ Aside0 (Kd.R (Kd.int .u8) 5 w' w.heap.size (fun _ => True) v5 x5_1) ∧ Aside0 (Below w.heap.size w w'))
  case atStart => exact ⟨(([] : List Int)), (0), (0), (0), (by first | rfl | (simp; done) | (simp [*]; done)), (by first | rfl | (simp; done) | (simp [*]; done)), (by first | rfl | (simp; done) | (simp [*]; done)), H', ⟨Nat.le_refl _⟩, ⟨by first | exact Kd.R_nil _ _ _ _ _ | exact Kd.N_nil _ _ _ _ _ | exact Kd.V_nil _ _ _ _ _ | exact Kd.Q_nil _ _ _ _ _ | exact Kd.S_nil _ _ _ _ _⟩, ⟨by repeat (first | (with_reducible first | exact HB.out | apply below_alloc | apply pw_below_drewN | apply below_drew1) | exact HB.out)⟩⟩
  case round =>
    clear H'
    obtain ⟨x5_1, x6_1, x7_1, x8_1, rfl, rfl, rfl, HA, HK1, HO_5, HB⟩ := hrel
    cases gk with
    | zero => exact absurd HA.out (by simp [brazierref13_Parse.l0])
    | succ k1 =>
      have H := HA.out
      clear HA
      simp only [brazierref13_Parse.l0] at H
      by_cases c2 : x8_1 ≤ (a0.size : Int)
      · rw [if_pos c2] at H
        have c2b0 : decide (x8_1 ≤ (a0.size : Int)) = true := decide_eq_true c2
        clear c2
        have HC3 := Aside0.mk H
        clear H
        go_upto_region 7 with (fail)
        go_cut [27] (fun v27 wc => ∃ (kq : Nat) (x27_2 : Bool), v27 = .bool x27_2 ∧ Aside0 (brazierref13_Parse.j1 kq a0 x5_1 x6_1 x7_1 x8_1 x27_2 = some (r1, r2, r3)) ∧ Aside0 (kq ≤ k1) ∧ Aside0 (Kd.R (Kd.int .u8) 5 wc w.heap.size (fun _ => True) u5 x5_1) ∧ Aside0 (Below w.heap.size w wc))
        case first =>
          have H := HC3.out
          clear HC3
          by_cases c4 : x8_1 < (a0.size : Int)
          · rw [if_pos c4] at H
            have c4b0 : decide (x8_1 < (a0.size : Int)) = true := decide_eq_true c4
            clear c4
            (first | rw [c4b0] | (simp only [i64_w, i32_w]; rw [c4b0]) | skip)
            by_cases c5 : 0 ≤ x8_1
            · rw [if_pos c5] at H
              have c5b0 : decide (0 ≤ x8_1) = true := decide_eq_true c5
              clear c5
              have H' := Aside0.mk H
              clear H
              have p6 : 0 ≤ (x8_1 : Int) := of_decide_eq_true (by first | (with_reducible assumption) | assumption)
              have q6 : x8_1 < (a0.size : Int) := of_decide_eq_true (by first | (with_reducible assumption) | assumption)
              have hx6 := bt_at a0 x8_1
              replace p6 := eq_true p6
              replace q6 := eq_true q6
              go_wp2
              go_meet
              case rel => exact ⟨_, (((bt a0 x8_1) != 10)), (by first | rfl | (simp; done) | (simp [*]; done)), H', ⟨by have := HK1.out; first | omega | exact Nat.le_refl _⟩, ⟨by (with_reducible repeat (first | apply Kd.R_alloc | apply Kd.R_drewN | apply Kd.R_drew)); exact HO_5.out⟩, ⟨by repeat (first | (with_reducible first | exact HB.out | apply below_alloc | apply pw_below_drewN | apply below_drew1) | exact HB.out)⟩⟩
            · rw [if_neg c5] at H
              exact absurd H (by simp)
          · rw [if_neg c4] at H
            have c4b0 : decide (x8_1 < (a0.size : Int)) = false := decide_eq_false c4
            clear c4
            (first | rw [c4b0] | (simp only [i64_w, i32_w]; rw [c4b0]) | skip)
            have H' := Aside0.mk H
            clear H
            go_wp2
            go_meet
            case rel => exact ⟨_, (false), (by first | rfl | (simp; done) | (simp [*]; done)), H', ⟨by have := HK1.out; first | omega | exact Nat.le_refl _⟩, ⟨by (with_reducible repeat (first | apply Kd.R_alloc | apply Kd.R_drewN | apply Kd.R_drew)); exact HO_5.out⟩, ⟨by repeat (first | (with_reducible first | exact HB.out | apply below_alloc | apply pw_below_drewN | apply below_drew1) | exact HB.out)⟩⟩
        case rest =>
          clear HC3
          try clear c2
          try clear c2b0
          try clear p2
          try clear c3
          try clear c4
          try clear c4b0
          try clear c5
          try clear c5b0
          try clear p6
          try clear q6
          try clear hx6
          try clear p6
          try clear q6
          obtain ⟨kq, x27_2, rfl, HA, HJ2, HO_5, HB⟩ := hcut
          cases kq with
          | zero => exact absurd HA.out (by simp [brazierref13_Parse.j1])
          | succ kj2 =>
            have H := HA.out
            clear HA
            simp only [brazierref13_Parse.j1] at H
            by_cases c7 : x27_2 = true
            · subst c7
              have H1 : (brazierref13_Parse.l0 kj2 a0 x5_1 x6_1 x7_1 (wrap64 (x8_1 + 1))) = some (r1, r2, r3) := by rw [if_pos rfl] at H; exact H
              clear H
              have H := H1
              clear H1
              have H' := Aside0.mk H
              clear H
              go_wp2
              go_roundg kj2
              case measure => have := HK1.out; have := HJ2.out; omega
              case rel => exact ⟨(x5_1), (x6_1), (x7_1), (wrap64 (x8_1 + 1)), (by first | rfl | (simp; done) | (simp [*]; done)), (by first | rfl | (simp; done) | (simp [*]; done)), (by first | rfl | (simp; done) | (simp [*]; done)), H', ⟨by have := HK1.out; have := HJ2.out; omega⟩, ⟨by (with_reducible repeat (first | apply Kd.R_alloc | apply Kd.R_drewN | apply Kd.R_drew)); exact HO_5.out⟩, ⟨by repeat (first | (with_reducible first | exact HB.out | apply below_alloc | apply pw_below_drewN | apply below_drew1) | exact HB.out)⟩⟩
            · replace c7 := Bool.eq_false_iff.mpr c7
              subst c7
              have H1 : (if 0 ≤ x6_1 then (if x6_1 ≤ x8_1 then (if x8_1 ≤ (a0.size : Int) then ((brazierref13_words.f kj2 (a0.extract (x6_1 : Int).toNat (x8_1 : Int).toNat)).bind fun t206 => (if (t206.length : Int) = 0 then (brazierref13_Parse.l0 kj2 a0 x5_1 (wrap64 (x8_1 + 1)) (wrap64 (x7_1 + 1)) (wrap64 (x8_1 + 1))) else ((brazierref13_line.f kj2 t206).bind fun bt209 => (if bt209.2 = true then (if x5_1.length + bt209.1.length < 140737488355328 then (brazierref13_Parse.l0 kj2 a0 (x5_1 ++ bt209.1) (wrap64 (x8_1 + 1)) (wrap64 (x7_1 + 1)) (wrap64 (x8_1 + 1))) else (none)) else (some (([] : List Int), wrap64 (x7_1 + 1), 5)))))) else (none)) else (none)) else (none)) = some (r1, r2, r3) := by rw [if_neg (show ¬ (false = true) by decide)] at H; exact H
              clear H
              have H := H1
              clear H1
              by_cases c8 : 0 ≤ x6_1
              · rw [if_pos c8] at H
                have c8b0 := eq_true c8
                have c8b1 : decide (0 ≤ x6_1) = true := decide_eq_true c8
                clear c8
                by_cases c9 : x6_1 ≤ x8_1
                · rw [if_pos c9] at H
                  have c9b0 := eq_true c9
                  have c9b1 : decide (x6_1 ≤ x8_1) = true := decide_eq_true c9
                  clear c9
                  by_cases c10 : x8_1 ≤ (a0.size : Int)
                  · rw [if_pos c10] at H
                    have c10b0 := eq_true c10
                    have c10b1 : decide (x8_1 ≤ (a0.size : Int)) = true := decide_eq_true c10
                    clear c10
                    replace H := Option.bind_eq_some_iff.mp H
                    obtain ⟨t206, A110, H⟩ := H
                    replace H : (if (t206.length : Int) = 0 then (brazierref13_Parse.l0 kj2 a0 x5_1 (wrap64 (x8_1 + 1)) (wrap64 (x7_1 + 1)) (wrap64 (x8_1 + 1))) else ((brazierref13_line.f kj2 t206).bind fun bt209 => (if bt209.2 = true then (if x5_1.length + bt209.1.length < 140737488355328 then (brazierref13_Parse.l0 kj2 a0 (x5_1 ++ bt209.1) (wrap64 (x8_1 + 1)) (wrap64 (x7_1 + 1)) (wrap64 (x8_1 + 1))) else (none)) else (some (([] : List Int), wrap64 (x7_1 + 1), 5))))) = some (r1, r2, r3) := H
                    have A11 := Aside0.mk A110
                    clear A110
                    by_cases c12 : (t206.length : Int) = 0
                    · rw [if_pos c12] at H
                      have c12b0 : ((t206.length : Int) == 0) = true := beq_iff_eq.mpr c12
                      have c12b1 : ((t206.length : Int) != 0) = false := bne_eq_false_iff_eq.mpr c12
                      clear c12
                      have H' := Aside0.mk H
                      clear H
                      go_wp2_with (first | ((with_reducible refine gate_callee (f := 65) rfl ?_); refine goesL_ (some 34) rfl rfl Tryd.func65 (by kernel_rfl) rfl #[.string (a0.extract (x6_1 : Int).toNat (x8_1 : Int).toNat)] rfl (by (try simp only [List.map_toArray, List.map_cons, List.map_nil]); first | done | rfl | (simp only [List.length_drop, List.length_take]; rfl)) ?_; (with_reducible refine (brazierref13_words.calls kj2 (a0.extract (x6_1 : Int).toNat (x8_1 : Int).toNat) t206 _ A11.out).mono ?_); rintro e w13 ⟨v207, rfl, ho0, hb⟩; refine ⟨_, rfl, ?_⟩; have n0_ := Aside0.mk (Kd.R_below (by (with_reducible repeat (first | apply Kd.R_alloc | apply Kd.R_drewN | apply Kd.R_drew)); exact HO_5.out) hb); have n1_ := Aside0.mk (Kd.R_lower ho0 (below_size (by repeat (first | (with_reducible first | exact HB.out | apply below_alloc | apply pw_below_drewN | apply below_drew1) | exact HB.out)))); have n2_ := Aside0.mk (below_step (by repeat (first | (with_reducible first | exact HB.out | apply below_alloc | apply pw_below_drewN | apply below_drew1) | exact HB.out)) hb); clear HO_5; clear HB; have HO_5 := n0_; have HO208 := n1_; have HB := n2_; clear n0_ n1_ n2_; (try clear hb); (try clear hb2); (try clear hk); (try clear hi); (try clear ho0); obtain ⟨Ao14, co14, eo14⟩ := Kd.R_slice HO208.out; subst eo14))
                      go_roundg kj2
                      case measure => have := HK1.out; have := HJ2.out; omega
                      case rel => exact ⟨(x5_1), (wrap64 (x8_1 + 1)), (wrap64 (x7_1 + 1)), (wrap64 (x8_1 + 1)), (by first | rfl | (simp; done) | (simp [*]; done)), (by first | rfl | (simp; done) | (simp [*]; done)), (by first | rfl | (simp; done) | (simp [*]; done)), H', ⟨by have := HK1.out; have := HJ2.out; omega⟩, ⟨by (with_reducible repeat (first | apply Kd.R_alloc | apply Kd.R_drewN | apply Kd.R_drew)); exact HO_5.out⟩, ⟨by repeat (first | (with_reducible first | exact HB.out | apply below_alloc | apply pw_below_drewN | apply below_drew1) | exact HB.out)⟩⟩
                    · rw [if_neg c12] at H
                      have c12b0 : ((t206.length : Int) == 0) = false := beq_eq_false_iff_ne.mpr c12
                      have c12b1 : ((t206.length : Int) != 0) = true := bne_iff_ne.mpr c12
                      have c12b2 : ¬ (t206 = []) := fun h_ => c12 (by rw [h_]; rfl)
                      replace H := Option.bind_eq_some_iff.mp H
                      obtain ⟨⟨t209, t210⟩, A150, H⟩ := H
                      replace H : (if t210 = true then (if x5_1.length + t209.length < 140737488355328 then (brazierref13_Parse.l0 kj2 a0 (x5_1 ++ t209) (wrap64 (x8_1 + 1)) (wrap64 (x7_1 + 1)) (wrap64 (x8_1 + 1))) else (none)) else (some (([] : List Int), wrap64 (x7_1 + 1), 5))) = some (r1, r2, r3) := H
                      have A15 := Aside0.mk A150
                      clear A150
                      by_cases c16 : t210 = true
                      · subst c16
                        have H1 : (if x5_1.length + t209.length < 140737488355328 then (brazierref13_Parse.l0 kj2 a0 (x5_1 ++ t209) (wrap64 (x8_1 + 1)) (wrap64 (x7_1 + 1)) (wrap64 (x8_1 + 1))) else (none)) = some (r1, r2, r3) := by rw [if_pos rfl] at H; exact H
                        clear H
                        have H := H1
                        clear H1
                        by_cases c17 : x5_1.length + t209.length < 140737488355328
                        · rw [if_pos c17] at H
                          have LMc17 := Aside0.mk c17
                          clear c17
                          obtain ⟨y213, hy213⟩ : ∃ y_ : List Int, y_ = (x5_1 ++ t209) := ⟨_, rfl⟩
                          replace H : (brazierref13_Parse.l0 kj2 a0 y213 (wrap64 (x8_1 + 1)) (wrap64 (x7_1 + 1)) (wrap64 (x8_1 + 1))) = some (r1, r2, r3) := by first | (rw [hy213]; with_reducible exact H) | (have H2_ := (Option.bind_some _ _).symm.trans H; rw [hy213]; with_reducible exact H2_) | (have H2_ := (Option.bind_some _ _).symm.trans H; with_reducible exact H2_) | with_reducible exact H | (rw [hy213]; exact H) | exact H
                          have Ny213 := Aside0.mk hy213
                          clear hy213
                          have H' := Aside0.mk H
                          clear H
                          go_wp2_with (first | ((with_reducible refine gate_callee (f := 65) rfl ?_); refine goesL_ (some 34) rfl rfl Tryd.func65 (by kernel_rfl) rfl #[.string (a0.extract (x6_1 : Int).toNat (x8_1 : Int).toNat)] rfl (by (try simp only [List.map_toArray, List.map_cons, List.map_nil]); first | done | rfl | (simp only [List.length_drop, List.length_take]; rfl)) ?_; (with_reducible refine (brazierref13_words.calls kj2 (a0.extract (x6_1 : Int).toNat (x8_1 : Int).toNat) t206 _ A11.out).mono ?_); rintro e w18 ⟨v207, rfl, ho0, hb⟩; refine ⟨_, rfl, ?_⟩; have n0_ := Aside0.mk (Kd.R_below (by (with_reducible repeat (first | apply Kd.R_alloc | apply Kd.R_drewN | apply Kd.R_drew)); exact HO_5.out) hb); have n1_ := Aside0.mk (Kd.R_lower ho0 (below_size (by repeat (first | (with_reducible first | exact HB.out | apply below_alloc | apply pw_below_drewN | apply below_drew1) | exact HB.out)))); have n2_ := Aside0.mk (below_step (by repeat (first | (with_reducible first | exact HB.out | apply below_alloc | apply pw_below_drewN | apply below_drew1) | exact HB.out)) hb); clear HO_5; clear HB; have HO_5 := n0_; have HO208 := n1_; have HB := n2_; clear n0_ n1_ n2_; (try clear hb); (try clear hb2); (try clear hk); (try clear hi); (try clear ho0); obtain ⟨Ao19, co19, eo19⟩ := Kd.R_slice HO208.out; subst eo19) | ((with_reducible refine gate_callee (f := 66) rfl ?_); refine goesL_ (some 42) rfl rfl Tryd.func66 (by kernel_rfl) rfl #[.slice Ao19 t206.length co19] rfl (by (try simp only [List.map_toArray, List.map_cons, List.map_nil]); first | done | rfl | (simp only [List.length_drop, List.length_take]; rfl)) ?_; (with_reducible refine (brazierref13_line.calls kj2 _ _ t206 t209 true _ ?side1 ?side2 A15.out).mono ?_); (case side1 => repeat (first | exact (Kd.R_reads' HO208.out).2.2 | (with_reducible refine Kd.C_alloc ?_ _) | (with_reducible refine Kd.C_drewN ?_ _) | (with_reducible refine Kd.C_drew ?_))); (case side2 => exact (Kd.R_reads' HO208.out).2.1); rintro e w20 ⟨v211, rfl, ho0, hb⟩; refine ⟨_, rfl, ?_⟩; have n0_ := Aside0.mk (Kd.R_elder' (by (with_reducible repeat (first | apply Kd.R_alloc | apply Kd.R_drewN | apply Kd.R_drew)); exact HO_5.out) (Kd.R_base ho0) hb); have n1_ := Aside0.mk (Kd.R_below (by (with_reducible repeat (first | apply Kd.R_alloc | apply Kd.R_drewN | apply Kd.R_drew)); exact HO208.out) hb); have n2_ := Aside0.mk (Kd.R_lower (Kd.R_new' ho0 (Kd.R_lt (by (with_reducible repeat (first | apply Kd.R_alloc | apply Kd.R_drewN | apply Kd.R_drew)); exact HO_5.out))) (below_size (by repeat (first | (with_reducible first | exact HB.out | apply below_alloc | apply pw_below_drewN | apply below_drew1) | exact HB.out)))); have n3_ := Aside0.mk (below_step (by repeat (first | (with_reducible first | exact HB.out | apply below_alloc | apply pw_below_drewN | apply below_drew1) | exact HB.out)) hb); clear HO_5; clear HO208; clear HB; have HO_5 := n0_; have HO208 := n1_; have HO212 := n2_; have HB := n3_; clear n0_ n1_ n2_ n3_; (try clear hb); (try clear hb2); (try clear hk); (try clear hi); (try clear ho0); obtain ⟨Ao22, co22, eo22⟩ := Kd.R_slice HO212.out; subst eo22) | ((with_reducible refine gate_builtin (b := .append) (xs := #[.tmp 48, .tmp 49]) rfl ?_); at_builtin; refine Kd.R_append_rows (Kd.int .u8) (w0 := w) w.heap.size rfl (.tmp 48) (.tmp 49) 22 5 (.int .u8 0) 1 rfl Tryd.underlying22 info5 rfl (by decide) (by omega) u5 x5_1 t209 _ _ _ (fun k_ => some k_ ≠ (.slice Ao22 t209.length co22 : Value).ownBlock) (fun _ => False) rfl rfl ?aO ?aR (fun _ _ h => h) (fun _ h => h.elim) ?aF ?aB ?aS ?aL ?_; (case aR => repeat (first | exact (Kd.R_reads' HO212.out).2.2 | (with_reducible refine Kd.C_alloc ?_ _) | (with_reducible refine Kd.C_drewN ?_ _) | (with_reducible refine Kd.C_drew ?_))); (case aB => exact (by repeat (first | (with_reducible first | exact HB.out | apply below_alloc | apply pw_below_drewN | apply below_drew1) | exact HB.out))); (case aF => exact (fun k_ hk => Kd.fresh' (Kd.R_lt (by (with_reducible repeat (first | apply Kd.R_alloc | apply Kd.R_drewN | apply Kd.R_drew)); exact HO212.out)) k_ hk)); (case aO => exact (by (with_reducible repeat (first | apply Kd.R_alloc | apply Kd.R_drewN | apply Kd.R_drew)); exact Kd.R_mono HO_5.out (fun _ hk => hk.2))); (case aS => exact (below_size (by repeat (first | (with_reducible first | exact HB.out | apply below_alloc | apply pw_below_drewN | apply below_drew1) | exact HB.out)))); (case aL => have := LMc17.out; omega); intro v214 w21 ho hb hg hat; rw [← Ny213.out] at ho; have n0_ := Aside0.mk (Kd.R_over' (by (with_reducible repeat (first | apply Kd.R_alloc | apply Kd.R_drewN | apply Kd.R_drew)); exact HO208.out) (Kd.R_typed (by (with_reducible repeat (first | apply Kd.R_alloc | apply Kd.R_drewN | apply Kd.R_drew)); exact HO_5.out)) (by decide) hg); have n1_ := Aside0.mk (Kd.R_after (ok := (fun _ => True)) (by (with_reducible repeat (first | apply Kd.R_alloc | apply Kd.R_drewN | apply Kd.R_drew)); exact HO212.out) hg hat); have n2_ := Aside0.mk (hb); have n3_ := Aside0.mk (ho); clear HO208; clear HO212; clear HB; clear HO_5; have HO208 := n0_; have HO212 := n1_; have HB := n2_; have HO215 := n3_; clear n0_ n1_ n2_ n3_; clear ho hb hg hat))
                          go_roundg kj2
                          case measure => have := HK1.out; have := HJ2.out; omega
                          case rel => exact ⟨(y213), (wrap64 (x8_1 + 1)), (wrap64 (x7_1 + 1)), (wrap64 (x8_1 + 1)), (by first | rfl | (simp; done) | (simp [*]; done)), (by first | rfl | (simp; done) | (simp [*]; done)), (by first | rfl | (simp; done) | (simp [*]; done)), H', ⟨by have := HK1.out; have := HJ2.out; omega⟩, ⟨by (with_reducible repeat (first | apply Kd.R_alloc | apply Kd.R_drewN | apply Kd.R_drew)); exact Kd.R_mono HO215.out (fun _ hk => trivial)⟩, ⟨by repeat (first | (with_reducible first | exact HB.out | apply below_alloc | apply pw_below_drewN | apply below_drew1) | exact HB.out)⟩⟩
                        · rw [if_neg c17] at H
                          exact absurd H (by simp)
                      · replace c16 := Bool.eq_false_iff.mpr c16
                        subst c16
                        have H1 : (some (([] : List Int), wrap64 (x7_1 + 1), 5)) = some (r1, r2, r3) := by rw [if_neg (show ¬ (false = true) by decide)] at H; exact H
                        clear H
                        have H := H1
                        clear H1
                        simp only [Option.some.injEq, Prod.mk.injEq] at H
                        obtain ⟨rfl, rfl, rfl⟩ := H
                        go_wp2_with (first | ((with_reducible refine gate_callee (f := 65) rfl ?_); refine goesL_ (some 34) rfl rfl Tryd.func65 (by kernel_rfl) rfl #[.string (a0.extract (x6_1 : Int).toNat (x8_1 : Int).toNat)] rfl (by (try simp only [List.map_toArray, List.map_cons, List.map_nil]); first | done | rfl | (simp only [List.length_drop, List.length_take]; rfl)) ?_; (with_reducible refine (brazierref13_words.calls kj2 (a0.extract (x6_1 : Int).toNat (x8_1 : Int).toNat) t206 _ A11.out).mono ?_); rintro e w23 ⟨v207, rfl, ho0, hb⟩; refine ⟨_, rfl, ?_⟩; have n0_ := Aside0.mk (Kd.R_below (by (with_reducible repeat (first | apply Kd.R_alloc | apply Kd.R_drewN | apply Kd.R_drew)); exact HO_5.out) hb); have n1_ := Aside0.mk (Kd.R_lower ho0 (below_size (by repeat (first | (with_reducible first | exact HB.out | apply below_alloc | apply pw_below_drewN | apply below_drew1) | exact HB.out)))); have n2_ := Aside0.mk (below_step (by repeat (first | (with_reducible first | exact HB.out | apply below_alloc | apply pw_below_drewN | apply below_drew1) | exact HB.out)) hb); clear HO_5; clear HB; have HO_5 := n0_; have HO208 := n1_; have HB := n2_; clear n0_ n1_ n2_; (try clear hb); (try clear hb2); (try clear hk); (try clear hi); (try clear ho0); obtain ⟨Ao24, co24, eo24⟩ := Kd.R_slice HO208.out; subst eo24) | ((with_reducible refine gate_callee (f := 66) rfl ?_); refine goesL_ (some 42) rfl rfl Tryd.func66 (by kernel_rfl) rfl #[.slice Ao24 t206.length co24] rfl (by (try simp only [List.map_toArray, List.map_cons, List.map_nil]); first | done | rfl | (simp only [List.length_drop, List.length_take]; rfl)) ?_; (with_reducible refine (brazierref13_line.calls kj2 _ _ t206 t209 false _ ?side1 ?side2 A15.out).mono ?_); (case side1 => repeat (first | exact (Kd.R_reads' HO208.out).2.2 | (with_reducible refine Kd.C_alloc ?_ _) | (with_reducible refine Kd.C_drewN ?_ _) | (with_reducible refine Kd.C_drew ?_))); (case side2 => exact (Kd.R_reads' HO208.out).2.1); rintro e w25 ⟨v211, rfl, ho0, hb⟩; refine ⟨_, rfl, ?_⟩; have n0_ := Aside0.mk (Kd.R_elder' (by (with_reducible repeat (first | apply Kd.R_alloc | apply Kd.R_drewN | apply Kd.R_drew)); exact HO_5.out) (Kd.R_base ho0) hb); have n1_ := Aside0.mk (Kd.R_below (by (with_reducible repeat (first | apply Kd.R_alloc | apply Kd.R_drewN | apply Kd.R_drew)); exact HO208.out) hb); have n2_ := Aside0.mk (Kd.R_lower (Kd.R_new' ho0 (Kd.R_lt (by (with_reducible repeat (first | apply Kd.R_alloc | apply Kd.R_drewN | apply Kd.R_drew)); exact HO_5.out))) (below_size (by repeat (first | (with_reducible first | exact HB.out | apply below_alloc | apply pw_below_drewN | apply below_drew1) | exact HB.out)))); have n3_ := Aside0.mk (below_step (by repeat (first | (with_reducible first | exact HB.out | apply below_alloc | apply pw_below_drewN | apply below_drew1) | exact HB.out)) hb); clear HO_5; clear HO208; clear HB; have HO_5 := n0_; have HO208 := n1_; have HO212 := n2_; have HB := n3_; clear n0_ n1_ n2_ n3_; (try clear hb); (try clear hb2); (try clear hk); (try clear hi); (try clear ho0)))
                        go_ret3
                        exact ⟨_, by first | rfl | (simp [errW_none, errW_some] <;> rfl) | (simp [*, errW_none, errW_some] <;> rfl), by first | exact Kd.R_nil _ _ _ _ _ | exact Kd.N_nil _ _ _ _ _ | exact Kd.V_nil _ _ _ _ _ | exact Kd.Q_nil _ _ _ _ _ | exact Kd.S_nil _ _ _ _ _, by repeat (first | (with_reducible first | exact HB.out | apply below_alloc | apply pw_below_drewN | apply below_drew1) | exact HB.out)⟩
                  · rw [if_neg c10] at H
                    exact absurd H (by simp)
                · rw [if_neg c9] at H
                  exact absurd H (by simp)
              · rw [if_neg c8] at H
                exact absurd H (by simp)
      · rw [if_neg c2] at H
        have c2b0 : decide (x8_1 ≤ (a0.size : Int)) = false := decide_eq_false c2
        clear c2
        simp only [Option.some.injEq, Prod.mk.injEq] at H
        obtain ⟨rfl, rfl, rfl⟩ := H
        go_wp2
        go_ret3
        exact ⟨_, by first | rfl | (simp [errW_none, errW_some] <;> rfl) | (simp [*, errW_none, errW_some] <;> rfl), by (with_reducible repeat (first | apply Kd.R_alloc | apply Kd.R_drewN | apply Kd.R_drew)); exact HO_5.out, by repeat (first | (with_reducible first | exact HB.out | apply below_alloc | apply pw_below_drewN | apply below_drew1) | exact HB.out)⟩

-- NOT PRINTED: function 9 (brazierlaw13_CodeParses)

end Go.Proofs.YtkphijabhoppnaaDoor.PCodeParses
