/- The document's reference of bytecodes (brazierref13.Read, Places), for the verifier's statements. -/
import Derived.Test.YtkphijabhoppnaaDoorAPVerifyMethodsx6
import Derived.Test.YtkphijabhoppnaaDoorABd
import Derived.Test.YtkphijabhoppnaaDoorABb
import Derived.Laws.BytesArg
namespace Go.Proofs.YtkphijabhoppnaaDoor
open Go.RowKit Go.Proofs.YtkphijabhoppnaaDoorW.PrintWords Go.Proofs.YtkphijabhoppnaaDoor.PVerifyMethods
set_option linter.unusedSimpArgs false
set_option linter.unusedVariables false
def opB : Nat → ByteArray
  | 1 => ⟨#[117]⟩ | 2 => ⟨#[115]⟩ | 3 => ⟨#[111]⟩ | 4 => ⟨#[117, 117]⟩ | _ => ⟨#[]⟩
theorem ref_operands (k : Nat) (c : Int) : brazierref13_Operands.f (k + 2) c = some (opB (opk c)) := by
  unfold brazierref13_Operands.f opk
  by_cases h1 : c = 1; · subst h1; rfl
  by_cases h4 : c = 4; · subst h4; rfl
  by_cases h5 : c = 5; · subst h5; rfl
  by_cases h27 : c = 27; · subst h27; rfl
  by_cases h29 : c = 29; · subst h29; rfl
  by_cases h32 : c = 32; · subst h32; rfl
  by_cases h33 : c = 33; · subst h33; rfl
  by_cases h34 : c = 34; · subst h34; rfl
  by_cases h38 : c = 38; · subst h38; rfl
  by_cases h2 : c = 2; · subst h2; rfl
  by_cases h25 : c = 25; · subst h25; rfl
  by_cases h26 : c = 26; · subst h26; rfl
  by_cases h30 : c = 30; · subst h30; rfl
  by_cases h31 : c = 31; · subst h31; rfl
  simp [h1, h4, h5, h27, h29, h32, h33, h34, h38, h2, h25, h26, h30, h31, brazierref13_Operands.j0, brazierref13_Operands.j1, opB]
def opLs : Nat → List UInt8
  | 1 => [117] | 2 => [115] | 3 => [111] | 4 => [117, 117] | _ => []
theorem toList_loop (bs : ByteArray) : ∀ (d i : Nat) (r : List UInt8), bs.size - i = d → ByteArray.toList.loop bs i r = r.reverse ++ bs.data.toList.drop i := by
  intro d
  induction d with
  | zero =>
    intro i r h
    unfold ByteArray.toList.loop
    rw [if_neg (by omega), List.drop_eq_nil_of_le (by simp; show bs.size ≤ i; omega), List.append_nil]
  | succ d ih =>
    intro i r h
    unfold ByteArray.toList.loop
    have hi : i < bs.size := by omega
    rw [if_pos hi, ih (i + 1) _ (by omega)]
    have h2 : i < bs.data.toList.length := by simpa using hi
    rw [List.drop_eq_getElem_cons h2]
    have : bs.get! i = bs.data.toList[i] := by
      simp [ByteArray.get!, getElem!_pos, hi]
    simp [this]
theorem ba_toList (bs : ByteArray) : bs.toList = bs.data.toList := by
  unfold ByteArray.toList
  rw [toList_loop bs _ 0 [] rfl]; simp
theorem ba_list (l : List UInt8) : (⟨l.toArray⟩ : ByteArray).toList = l := by
  rw [ba_toList]
theorem opB_list (k : Nat) : (opB k).toList = opLs k := by
  unfold opB opLs
  split <;> exact ba_list _
def sizeK : Nat → Int
  | 0 => 1 | 1 => 2 | 2 => 2 | _ => 3
theorem ref_size (k : Nat) (c : Int) : brazierref13_Size.f (k + 2) c = some (sizeK (opk c)) := by
  unfold brazierref13_Size.f
  rw [ref_operands]
  rcases opk_le c with h | h | h | h | h <;> rw [h, Option.bind_some, opB_list, Option.bind_some] <;> simp [opLs, opB, sizeK, ByteArray.size, wrap64]
theorem bytes_at {l : List Int} (hby : ∀ x ∈ l, 0 ≤ x ∧ x ≤ 255) (i : Nat) (h : i < l.length) : 0 ≤ l.getD i 0 ∧ l.getD i 0 ≤ 255 :=
  hby (l.getD i 0) (by rw [List.getD_eq_getElem?_getD, List.getElem?_eq_getElem h]; exact List.getElem_mem h)
theorem w64_byte {x : Int} (h : 0 ≤ x ∧ x ≤ 255) : wrap64 x = x := by unfold wrap64; omega
theorem u16_byte {x : Int} (h : 0 ≤ x ∧ x ≤ 255) : IntKind.u16.wrap x = x := by
  simp only [IntKind.wrap, IntKind.signed, IntKind.bits, Bool.false_and, show (2 : Int) ^ 16 = 65536 from rfl]
  simp; omega
theorem u16_byte256 {x : Int} (h : 0 ≤ x ∧ x ≤ 255) : IntKind.u16.wrap (x * 256) = x * 256 := by
  simp only [IntKind.wrap, IntKind.signed, IntKind.bits, Bool.false_and, show (2 : Int) ^ 16 = 65536 from rfl]
  simp; omega
end Go.Proofs.YtkphijabhoppnaaDoor
namespace Go.Proofs.YtkphijabhoppnaaDoor
open Go.RowKit Go.Proofs.YtkphijabhoppnaaDoorW.PrintWords Go.Proofs.YtkphijabhoppnaaDoor.PVerifyMethods
set_option linter.unusedSimpArgs false
set_option linter.unusedVariables false
theorem below_setC {B b i : Nat} {a w : World} (h : Below B a w) (hb : B ≤ b) (v : Value) (_ : True) : Below B a (w.setCell ⟨b, i, none⟩ v) := h.setCell (p := ⟨b, i, none⟩) hb v
theorem below_alC {B : Nat} {a w : World} (h : Below B a w) (hb : B ≤ w.heap.size) (o : Obj) : Below B a (w.alloc o) := h.alloc hb o
theorem rread_arg (A : Option Addr) (n c : Nat) (at' : Int) (w : World) (h : at' < 0 ∨ (n : Int) < at') :
    Calls Tryd.prog 14 #[.slice A n c, .int .i64 at'] w fun e w' => e = .returned (Rd.val ⟨0, 0, 0, 0, 1⟩) ∧ Below w.heap.size w w' := by
  by_cases h0 : at' < 0
  · clear h
    go_enter Tryd.func14, Tryd.ntmps14
    go_wp2_with fail
    exact bodyPost_ret (v := Rd.val ⟨0, 0, 0, 0, 1⟩) (by simp [Rd.val, results, Tryd.results14, go_sem]) rfl ⟨rfl, (Below.refl _ _).alloc (Nat.le_refl _) _⟩
  · have h2 : (n : Int) < at' := by omega
    clear h
    go_enter Tryd.func14, Tryd.ntmps14
    go_wp2_with fail
    exact bodyPost_ret (v := Rd.val ⟨0, 0, 0, 0, 1⟩) (by simp [Rd.val, results, Tryd.results14, go_sem]) rfl ⟨rfl, (Below.refl _ _).alloc (Nat.le_refl _) _⟩
theorem rread_end (A : Option Addr) (n c : Nat) (w : World) :
    Calls Tryd.prog 14 #[.slice A n c, .int .i64 n] w fun e w' => e = .returned (Rd.val ⟨0, 0, 0, 0, 6⟩) ∧ Below w.heap.size w w' := by
  go_enter Tryd.func14, Tryd.ntmps14
  go_wp2_with fail
  exact bodyPost_ret (v := Rd.val ⟨0, 0, 0, 0, 6⟩) (by simp [Rd.val, results, Tryd.results14, go_sem]) rfl ⟨rfl, (Below.refl _ _).alloc (Nat.le_refl _) _⟩
theorem rread_form (b off n c i : Nat) (x : Int) (w : World) (hi : i < n) (hx : 40 < x) (hx1 : x ≤ 255) (hc : w.cell? ⟨b, off + i, none⟩ = some (.int .u8 x)) :
    Calls Tryd.prog 14 #[.slice (some ⟨b, off, none⟩) n c, .int .i64 i] w fun e w' => e = .returned (Rd.val ⟨0, 0, 0, 0, 5⟩) ∧ Below w.heap.size w w' := by
  have hbl := block_lt_of_cell hc
  have t1 : ((i : Int) == n) = false := by simp; omega
  go_enter Tryd.func14, Tryd.ntmps14
  go_wp2_with fail
  exact bodyPost_ret (v := Rd.val ⟨0, 0, 0, 0, 5⟩) (by simp [Rd.val, results, Tryd.results14, go_sem]) rfl ⟨rfl, (Below.refl _ _).alloc (Nat.le_refl _) _⟩
theorem opB_ops (k : Nat) (c : Int) (hk : opk c = k) (w : World) : Calls Tryd.prog 47 #[.int .i64 c] w fun e w' => e = .returned (.string (opB k)) ∧ ∃ n, w' = w.drewN n := by
  refine (brazierref13_Operands.calls 2 c _ w (ref_operands 0 c)).mono ?_
  rintro e w' ⟨rfl, n, h⟩
  exact ⟨by rw [hk], n, h⟩
theorem size_ops (k : Nat) (c : Int) (hk : opk c = k) (w : World) : Calls Tryd.prog 46 #[.int .i64 c] w fun e w' => e = .returned (.int .i64 (sizeK k)) ∧ ∃ n, w' = w.drewN n := by
  refine (brazierref13_Size.calls 2 c _ w (ref_size 0 c)).mono ?_
  rintro e w' ⟨rfl, n, h⟩
  exact ⟨by rw [hk], n, h⟩
set_option maxHeartbeats 800000 in
set_option maxRecDepth 20000 in
theorem rread_short (b off n c i x k s : Nat) (w : World) (hx : x ≤ 40) (hk : opk x = k) (hs : sizeK k = s) (hi : i < n) (hin : n < i + s) (hnm : n ≤ 1000000) (hs3 : s ≤ 3)
    (hc : w.cell? ⟨b, off + i, none⟩ = some (.int .u8 x)) :
    Calls Tryd.prog 14 #[.slice (some ⟨b, off, none⟩) n c, .int .i64 i] w fun e w' => e = .returned (Rd.val ⟨0, 0, 0, 0, 6⟩) ∧ Below w.heap.size w w' := by
  have hbl : b < w.heap.size := block_lt_of_cell hc
  have t1 : ((i : Int) == n) = false := by simp; omega
  have HS : ∀ W, Calls Tryd.prog 46 #[.int .i64 x] W fun e w' => e = .returned (.int .i64 s) ∧ ∃ n, w' = W.drewN n := fun W => by rw [← hs]; exact size_ops k x hk W
  have HS := Lib.hid HS
  have t2 : decide ((i : Int) < 0) = false := by simp
  have t3 : decide (n < i) = false := by simp; omega
  have t4 : decide (n < i + s) = true := by simp; omega
  clear hk hs
  go_enter Tryd.func14, Tryd.ntmps14
  go_wp2_with (first | (go_at_call 46; refine (HS.out _).mono ?_; rintro e w1 ⟨rfl, q, rfl⟩) | fail)
  refine bodyPost_ret (v := Rd.val ⟨0, 0, 0, 0, 6⟩) (by simp [Rd.val, results, Tryd.results14, go_sem]) rfl ⟨rfl, ?_⟩
  repeat (first | (with_reducible exact Below.refl _ _) | (with_reducible refine below_drewN0 ?_ _) | (with_reducible refine below_setC ?_ ?_ _ trivial) | (with_reducible refine below_alC ?_ ?_ _))
  all_goals (first | (simp; done) | (simp; omega))
set_option maxHeartbeats 800000 in
set_option maxRecDepth 20000 in
theorem rread_k0 (b off n c i x : Nat) (w : World) (hx : x ≤ 40) (hk : opk x = 0) (hi : i < n) (hnm : n ≤ 1000000)
    (hc : w.cell? ⟨b, off + i, none⟩ = some (.int .u8 x)) :
    Calls Tryd.prog 14 #[.slice (some ⟨b, off, none⟩) n c, .int .i64 i] w fun e w' => e = .returned (Rd.val ⟨x, 0, 0, 1, 0⟩) ∧ Below w.heap.size w w' := by
  have hbl : b < w.heap.size := block_lt_of_cell hc
  have t1 : ((i : Int) == n) = false := by simp; omega
  have HS := Lib.hid (size_ops 0 x hk)
  have HO := Lib.hid (opB_ops 0 x hk)
  have t2 : decide ((i : Int) < 0) = false := by simp
  have t3 : decide (n < i) = false := by simp; omega
  have t4 : decide (n < i + 1) = false := by simp; omega
  clear hk
  go_enter Tryd.func14, Tryd.ntmps14
  go_wp2_with (first | (go_at_call 46; refine (HS.out _).mono ?_; rintro e w1 ⟨rfl, q, rfl⟩; simp only [sizeK]) | (go_at_call 47; refine (HO.out _).mono ?_; rintro e w1 ⟨rfl, q2, rfl⟩; simp only [opB]) | fail)
  refine bodyPost_ret (v := Rd.val ⟨x, 0, 0, 1, 0⟩) (by simp [Rd.val, results, Tryd.results14, go_sem]) rfl ⟨rfl, ?_⟩
  repeat (first | (with_reducible exact Below.refl _ _) | (with_reducible refine below_drewN0 ?_ _) | (with_reducible refine below_setC ?_ ?_ _ trivial) | (with_reducible refine below_alC ?_ ?_ _))
  all_goals (first | (simp; done) | (simp; omega))
set_option maxHeartbeats 800000 in
set_option maxRecDepth 20000 in
theorem rread_k1 (b off n c i x : Nat) (y : Int) (by0 : 0 ≤ y) (by1 : y ≤ 255) (w : World) (hx : x ≤ 40) (hk : opk x = 1) (hi : i + 1 < n) (hnm : n ≤ 1000000)
    (hc : w.cell? ⟨b, off + i, none⟩ = some (.int .u8 x)) (hc1 : w.cell? ⟨b, off + (i + 1), none⟩ = some (.int .u8 y)) :
    Calls Tryd.prog 14 #[.slice (some ⟨b, off, none⟩) n c, .int .i64 i] w fun e w' => e = .returned (Rd.val ⟨x, y, 0, 2, 0⟩) ∧ Below w.heap.size w w' := by
  have hbl : b < w.heap.size := block_lt_of_cell hc
  have t1 : ((i : Int) == n) = false := by simp; omega
  have HS := Lib.hid (size_ops 1 x hk)
  have HO := Lib.hid (opB_ops 1 x hk)
  have t2 : decide ((i : Int) < 0) = false := by simp
  have t3 : decide (n < i) = false := by simp; omega
  have t4 : decide (n < i + 2) = false := by simp; omega
  clear hk
  go_enter Tryd.func14, Tryd.ntmps14
  go_wp2_with (first | (go_at_call 46; refine (HS.out _).mono ?_; rintro e w1 ⟨rfl, q, rfl⟩; simp only [sizeK]) | (go_at_call 47; refine (HO.out _).mono ?_; rintro e w1 ⟨rfl, q2, rfl⟩; simp only [opB]) | fail)
  refine bodyPost_ret (v := Rd.val ⟨x, y, 0, 2, 0⟩) (by simp [Rd.val, results, Tryd.results14, go_sem]) rfl ⟨rfl, ?_⟩
  repeat (first | (with_reducible exact Below.refl _ _) | (with_reducible refine below_drewN0 ?_ _) | (with_reducible refine below_setC ?_ ?_ _ trivial) | (with_reducible refine below_alC ?_ ?_ _))
  all_goals (first | (simp; done) | (simp; omega))
set_option maxHeartbeats 800000 in
set_option maxRecDepth 20000 in
theorem rread_k2 (b off n c i x : Nat) (y : Int) (by0 : 0 ≤ y) (by1 : y ≤ 255) (w : World) (hx : x ≤ 40) (hk : opk x = 2) (hi : i + 1 < n) (hnm : n ≤ 1000000)
    (hc : w.cell? ⟨b, off + i, none⟩ = some (.int .u8 x)) (hc1 : w.cell? ⟨b, off + (i + 1), none⟩ = some (.int .u8 y)) :
    Calls Tryd.prog 14 #[.slice (some ⟨b, off, none⟩) n c, .int .i64 i] w fun e w' => e = .returned (Rd.val ⟨x, s8 y, 0, 2, 0⟩) ∧ Below w.heap.size w w' := by
  have hbl : b < w.heap.size := block_lt_of_cell hc
  have t1 : ((i : Int) == n) = false := by simp; omega
  have HS := Lib.hid (size_ops 2 x hk)
  have HO := Lib.hid (opB_ops 2 x hk)
  have t2 : decide ((i : Int) < 0) = false := by simp
  have t3 : decide (n < i) = false := by simp; omega
  have t4 : decide (n < i + 2) = false := by simp; omega
  clear hk
  go_enter Tryd.func14, Tryd.ntmps14
  go_wp2_with (first | (go_at_call 46; refine (HS.out _).mono ?_; rintro e w1 ⟨rfl, q, rfl⟩; simp only [sizeK]) | (go_at_call 47; refine (HO.out _).mono ?_; rintro e w1 ⟨rfl, q2, rfl⟩; simp only [opB]) | fail)
  have e1 : wrap64 (IntKind.i8.wrap y) = s8 y := wrap_s8 y by0 by1
  refine bodyPost_ret (v := Rd.val ⟨x, s8 y, 0, 2, 0⟩) (by simp [Rd.val, results, Tryd.results14, go_sem, e1]) rfl ⟨rfl, ?_⟩
  repeat (first | (with_reducible exact Below.refl _ _) | (with_reducible refine below_drewN0 ?_ _) | (with_reducible refine below_setC ?_ ?_ _ trivial) | (with_reducible refine below_alC ?_ ?_ _))
  all_goals (first | (simp; done) | (simp; omega))
set_option maxHeartbeats 800000 in
set_option maxRecDepth 20000 in
theorem rread_k3 (b off n c i x : Nat) (y z : Int) (by0 : 0 ≤ y) (by1 : y ≤ 255) (bz0 : 0 ≤ z) (bz1 : z ≤ 255) (w : World) (hx : x ≤ 40) (hk : opk x = 3) (hi : i + 2 < n) (hnm : n ≤ 1000000)
    (hc : w.cell? ⟨b, off + i, none⟩ = some (.int .u8 x)) (hc1 : w.cell? ⟨b, off + (i + 1), none⟩ = some (.int .u8 y)) (hc2 : w.cell? ⟨b, off + (i + 2), none⟩ = some (.int .u8 z)) :
    Calls Tryd.prog 14 #[.slice (some ⟨b, off, none⟩) n c, .int .i64 i] w fun e w' => e = .returned (Rd.val ⟨x, s16 y z, 0, 3, 0⟩) ∧ Below w.heap.size w w' := by
  have hbl : b < w.heap.size := block_lt_of_cell hc
  have t1 : ((i : Int) == n) = false := by simp; omega
  have HS := Lib.hid (size_ops 3 x hk)
  have HO := Lib.hid (opB_ops 3 x hk)
  have t2 : decide ((i : Int) < 0) = false := by simp
  have t3 : decide (n < i) = false := by simp; omega
  have t4 : decide (n < i + 3) = false := by simp; omega
  clear hk
  go_enter Tryd.func14, Tryd.ntmps14
  go_wp2_with (first | (go_at_call 46; refine (HS.out _).mono ?_; rintro e w1 ⟨rfl, q, rfl⟩; simp only [sizeK]) | (go_at_call 47; refine (HO.out _).mono ?_; rintro e w1 ⟨rfl, q2, rfl⟩; simp only [opB]) | fail)
  go_region
  go_wp2_with fail
  have e1 : wrap64 (IntKind.i16.wrap (bits .or .u16 y (z * 256))) = s16 y z := wrap_s16 y z by0 by1 bz0 bz1
  refine bodyPost_ret (v := Rd.val ⟨x, s16 y z, 0, 3, 0⟩) (by simp [Rd.val, results, Tryd.results14, go_sem, e1]) rfl ⟨rfl, ?_⟩
  repeat (first | (with_reducible exact Below.refl _ _) | (with_reducible refine below_drewN0 ?_ _) | (with_reducible refine below_setC ?_ ?_ _ trivial) | (with_reducible refine below_alC ?_ ?_ _))
  all_goals (first | (simp; done) | (simp; omega))
set_option maxHeartbeats 800000 in
set_option maxRecDepth 20000 in
theorem rread_k4 (b off n c i x : Nat) (y z : Int) (by0 : 0 ≤ y) (by1 : y ≤ 255) (bz0 : 0 ≤ z) (bz1 : z ≤ 255) (w : World) (hx : x ≤ 40) (hk : opk x = 4) (hi : i + 2 < n) (hnm : n ≤ 1000000)
    (hc : w.cell? ⟨b, off + i, none⟩ = some (.int .u8 x)) (hc1 : w.cell? ⟨b, off + (i + 1), none⟩ = some (.int .u8 y)) (hc2 : w.cell? ⟨b, off + (i + 2), none⟩ = some (.int .u8 z)) :
    Calls Tryd.prog 14 #[.slice (some ⟨b, off, none⟩) n c, .int .i64 i] w fun e w' => e = .returned (Rd.val ⟨x, y, z, 3, 0⟩) ∧ Below w.heap.size w w' := by
  have hbl : b < w.heap.size := block_lt_of_cell hc
  have t1 : ((i : Int) == n) = false := by simp; omega
  have HS := Lib.hid (size_ops 4 x hk)
  have HO := Lib.hid (opB_ops 4 x hk)
  have t2 : decide ((i : Int) < 0) = false := by simp
  have t3 : decide (n < i) = false := by simp; omega
  have t4 : decide (n < i + 3) = false := by simp; omega
  clear hk
  go_enter Tryd.func14, Tryd.ntmps14
  go_wp2_with (first | (go_at_call 46; refine (HS.out _).mono ?_; rintro e w1 ⟨rfl, q, rfl⟩; simp only [sizeK]) | (go_at_call 47; refine (HO.out _).mono ?_; rintro e w1 ⟨rfl, q2, rfl⟩; simp only [opB]) | fail)
  refine bodyPost_ret (v := Rd.val ⟨x, y, z, 3, 0⟩) (by simp [Rd.val, results, Tryd.results14, go_sem]) rfl ⟨rfl, ?_⟩
  repeat (first | (with_reducible exact Below.refl _ _) | (with_reducible refine below_drewN0 ?_ _) | (with_reducible refine below_setC ?_ ?_ _ trivial) | (with_reducible refine below_alC ?_ ?_ _))
  all_goals (first | (simp; done) | (simp; omega))
theorem rread_core (A : Option Addr) (c : Nat) (l : List Int) (at' : Int) (w : World) (hl : l.length ≤ 1000000) (hby : ∀ x ∈ l, 0 ≤ x ∧ x ≤ 255)
    (hcl : l ≠ [] → ∃ b off, A = some ⟨b, off, none⟩ ∧ ∀ j, j < l.length → w.cell? ⟨b, off + j, none⟩ = some (.int .u8 (l.getD j 0))) :
    Calls Tryd.prog 14 #[.slice A l.length c, .int .i64 at'] w fun e w' => e = .returned (readS l at').val ∧ Below w.heap.size w w' := by
  unfold readS
  by_cases h1 : at' < 0 ∨ (l.length : Int) < at'
  · rw [if_pos h1]
    exact rread_arg A _ c at' w h1
  · rw [if_neg h1]
    by_cases h2 : at' = l.length
    · rw [if_pos h2, h2]
      exact rread_end A _ c w
    · rw [if_neg h2]
      obtain ⟨i, rfl⟩ := Int.eq_ofNat_of_zero_le (show 0 ≤ at' by omega)
      have hi : i < l.length := by omega
      obtain ⟨b, off, rfl, hc⟩ := hcl (by intro h; rw [h] at hi; simp at hi)
      have hcell := hc i hi
      have hxb := bytes_at hby i hi
      rw [Int.toNat_natCast]
      unfold readAt
      obtain ⟨x, hx⟩ := Int.eq_ofNat_of_zero_le hxb.1
      rw [hx] at hcell hxb ⊢
      by_cases h40 : (40 : Int) < x
      · rw [if_pos h40]
        exact rread_form b off _ c i x w hi h40 hxb.2 hcell
      · rw [if_neg h40]
        have hx40 : x ≤ 40 := by omega
        rcases opk_le x with hk | hk | hk | hk | hk <;> rw [hk] <;> simp only [readK]
        · exact rread_k0 b off _ c i x w hx40 hk hi hl hcell
        · by_cases h : i + 1 < l.length
          · rw [if_pos h]
            exact rread_k1 b off _ c i x _ (bytes_at hby _ h).1 (bytes_at hby _ h).2 w hx40 hk h hl hcell (hc _ h)
          · rw [if_neg h]
            exact rread_short b off _ c i x 1 2 w hx40 hk rfl hi (by omega) hl (by omega) hcell
        · by_cases h : i + 1 < l.length
          · rw [if_pos h]
            exact rread_k2 b off _ c i x _ (bytes_at hby _ h).1 (bytes_at hby _ h).2 w hx40 hk h hl hcell (hc _ h)
          · rw [if_neg h]
            exact rread_short b off _ c i x 2 2 w hx40 hk rfl hi (by omega) hl (by omega) hcell
        · by_cases h : i + 2 < l.length
          · rw [if_pos h]
            exact rread_k3 b off _ c i x _ _ (bytes_at hby _ (by omega)).1 (bytes_at hby _ (by omega)).2 (bytes_at hby _ h).1 (bytes_at hby _ h).2 w hx40 hk h hl hcell (hc _ (by omega)) (hc _ h)
          · rw [if_neg h]
            exact rread_short b off _ c i x 3 3 w hx40 hk rfl hi (by omega) hl (by omega) hcell
        · by_cases h : i + 2 < l.length
          · rw [if_pos h]
            exact rread_k4 b off _ c i x _ _ (bytes_at hby _ (by omega)).1 (bytes_at hby _ (by omega)).2 (bytes_at hby _ h).1 (bytes_at hby _ h).2 w hx40 hk h hl hcell (hc _ (by omega)) (hc _ h)
          · rw [if_neg h]
            exact rread_short b off _ c i x 4 3 w hx40 hk rfl hi (by omega) hl (by omega) hcell
structure GoodB (l : List Int) : Prop where
  len : l.length ≤ 1000000
  by' : ∀ x ∈ l, 0 ≤ x ∧ x ≤ 255
theorem cell_spot {w : World} {a : Addr} {n : Int} {k : IntKind} (h : w.cell? a = some (.int k n)) : a.spot = none := by
  unfold World.cell? at h
  split at h
  · split at h
    · simp at h
    · rename_i hs; simpa using hs
  · simp at h
theorem addr_add (b off j : Nat) : (⟨b, off, none⟩ : Addr).add j = ⟨b, off + j, none⟩ := by unfold Addr.add; split <;> simp_all
theorem bytC {w : World} {A : Option Addr} {c : Nat} {l : List Int} (h : Byt w (.slice A l.length c) l) : (Kd.int .u8).C w A l.length l := by
  obtain ⟨A', c', e, h1, h2, h3, h4⟩ := h
  cases e
  refine ⟨rfl, by omega, fun hp => ?_⟩
  obtain ⟨b, off, rfl, hc⟩ := h4 (by intro e; rw [e] at hp; simp at hp)
  refine ⟨_, rfl, fun j p hj => ⟨[.int .u8 p], rfl, rfl, fun i u hu => ?_⟩⟩
  have hjl : j < l.length := (List.getElem?_eq_some_iff.1 hj).1
  have := hc j hjl
  rw [List.getD_eq_getElem?_getD, hj] at this
  cases i with
  | zero =>
    simp at hu
    subst hu
    show w.cell? (Addr.add ⟨b, off, none⟩ (j * 1 + 0)) = _
    rw [show j * 1 + 0 = j by omega, addr_add]
    exact this
  | succ i => simp at hu
theorem C_cells {w : World} {A : Option Addr} {l : List Int} (h : (Kd.int .u8).C w A l.length l) :
    l ≠ [] → ∃ b off, A = some ⟨b, off, none⟩ ∧ ∀ j, j < l.length → w.cell? ⟨b, off + j, none⟩ = some (.int .u8 (l.getD j 0)) := by
  intro hne
  have hpos : 0 < l.length := by cases l with | nil => exact absurd rfl hne | cons => simp
  obtain ⟨ad, e, h0⟩ := Kd.at_int h 0 (by omega) (by omega)
  subst e
  have hs : (ad.add (0 : Int).toNat).spot = none := cell_spot h0
  obtain ⟨b, off, spot⟩ := ad
  have hsp : spot = none := by
    cases spot with
    | none => rfl
    | some s => simp [Addr.add] at hs
  subst hsp
  refine ⟨b, off, rfl, fun j hj => ?_⟩
  obtain ⟨ad, e, h1⟩ := Kd.at_int h j (by omega) (by omega)
  cases e
  rw [addr_add, Int.toNat_natCast] at h1
  rw [h1]
  simp only [rd, Int.toNat_natCast]
theorem rread_calls (v : Value) (l : List Int) (at' : Int) (w : World) (hb : Byt w v l) (hl : l.length ≤ 1000000) :
    Calls Tryd.prog 14 #[v, .int .i64 at'] w fun e w' => e = .returned (readS l at').val ∧ Below w.heap.size w w' := by
  obtain ⟨A, c, rfl, hnc, hcm, hby, hcl⟩ := hb
  exact rread_core A c l at' w hl hby hcl
end Go.Proofs.YtkphijabhoppnaaDoor
namespace Go.Proofs.YtkphijabhoppnaaDoor.PVerifyMethods
open Go.RowKit Go.Proofs.YtkphijabhoppnaaDoorW.PrintWords Go.Proofs.YtkphijabhoppnaaDoorW.PrintLast Go.Proofs.YtkphijabhoppnaaDoorW.PrintMore
attribute [local go_sem] max2_int min2_int max_two min_two max_three min_three max_four min_four   -- for this text's walks alone
set_option linter.unusedVariables false
set_option linter.unusedSimpArgs false
def brazierref13_Read.j0 : Nat → List Int → Int → Bool → Option (Int × Int × Int × Int × Int)
  | 0, _, _, _ => none
  | k + 1, x0, x1, x15 => if x15 = true then (some (0, 0, 0, 0, 1)) else (if x1 = (x0.length : Int) then (some (0, 0, 0, 0, 6)) else (if 0 ≤ x1 then (if x1 < (x0.length : Int) then (if (wrap64 (rd x0 x1)) > 40 then (some (0, 0, 0, 0, 5)) else ((brazierref13_Size.f k (wrap64 (rd x0 x1))).bind fun t136 => (if (wrap64 (x1 + t136)) > (x0.length : Int) then (some (0, 0, 0, 0, 6)) else ((brazierref13_Operands.f k (wrap64 (rd x0 x1))).bind fun t138 => (if t138.toList = ([117] : List UInt8) then (if 0 ≤ (wrap64 (x1 + 1)) then (if (wrap64 (x1 + 1)) < (x0.length : Int) then (some (wrap64 (rd x0 x1), wrap64 (rd x0 (wrap64 (x1 + 1))), 0, t136, 0)) else (none)) else (none)) else (if t138.toList = ([115] : List UInt8) then (if 0 ≤ (wrap64 (x1 + 1)) then (if (wrap64 (x1 + 1)) < (x0.length : Int) then (some (wrap64 (rd x0 x1), wrap64 (IntKind.i8.wrap (rd x0 (wrap64 (x1 + 1)))), 0, t136, 0)) else (none)) else (none)) else (if t138.toList = ([111] : List UInt8) then (if 0 ≤ (wrap64 (x1 + 1)) then (if (wrap64 (x1 + 1)) < (x0.length : Int) then (if 0 ≤ (wrap64 (x1 + 2)) then (if (wrap64 (x1 + 2)) < (x0.length : Int) then (some (wrap64 (rd x0 x1), wrap64 (IntKind.i16.wrap (Go.bits .or .u16 (IntKind.u16.wrap (rd x0 (wrap64 (x1 + 1)))) (IntKind.u16.wrap ((IntKind.u16.wrap (rd x0 (wrap64 (x1 + 2)))) * 256)))), 0, t136, 0)) else (none)) else (none)) else (none)) else (none)) else (if t138.toList = ([117, 117] : List UInt8) then (if 0 ≤ (wrap64 (x1 + 1)) then (if (wrap64 (x1 + 1)) < (x0.length : Int) then (if 0 ≤ (wrap64 (x1 + 2)) then (if (wrap64 (x1 + 2)) < (x0.length : Int) then (some (wrap64 (rd x0 x1), wrap64 (rd x0 (wrap64 (x1 + 1))), wrap64 (rd x0 (wrap64 (x1 + 2))), t136, 0)) else (none)) else (none)) else (none)) else (none)) else (some (wrap64 (rd x0 x1), 0, 0, t136, 0)))))))))) else (none)) else (none)))
def brazierref13_Read.f (k : Nat) (l0 : List Int) (a1 : Int) : Option (Int × Int × Int × Int × Int) := if a1 < 0 then (brazierref13_Read.j0 k l0 a1 true) else (brazierref13_Read.j0 k l0 a1 (decide (a1 > (l0.length : Int))))
theorem brazierref13_Read.mono_l : ∀ k, (∀ y0 y1 y2, LeO (brazierref13_Read.j0 k y0 y1 y2) (brazierref13_Read.j0 (k + 1) y0 y1 y2))
  | 0 => fun _ _ _ r h => by simp [brazierref13_Read.j0] at h
  | k + 1 => by
    have ih0 := brazierref13_Read.mono_l k
    · intro y0 y1 y2
      unfold brazierref13_Read.j0
      repeat' first
      | (with_reducible exact ih0 _ _ _)
      | (with_reducible exact brazierref13_Operands.mono _ _)
      | (with_reducible exact brazierref13_Size.mono _ _)
      | (with_reducible exact LeO.refl _)
      | (with_reducible exact LeO.none _)
      | (with_reducible refine LeO.ite ?_ ?_)
      | (with_reducible refine LeO.bind ?_ (fun _ => ?_))
      | exact ih0 _ _ _
      | exact brazierref13_Operands.mono _ _
      | exact brazierref13_Size.mono _ _
      | exact LeO.none _
      | refine LeO.ite ?_ ?_
      | refine LeO.bind ?_ (fun _ => ?_)
theorem brazierref13_Read.mono : ∀ a0 a1 k, LeO (brazierref13_Read.f k a0 a1) (brazierref13_Read.f (k + 1) a0 a1) := by
  intro a0 a1 k
  have ih0 := brazierref13_Read.mono_l k
  unfold brazierref13_Read.f
  repeat' first
      | (with_reducible exact ih0 _ _ _)
      | (with_reducible exact brazierref13_Operands.mono _ _)
      | (with_reducible exact brazierref13_Size.mono _ _)
      | (with_reducible exact LeO.refl _)
      | (with_reducible exact LeO.none _)
      | (with_reducible refine LeO.ite ?_ ?_)
      | (with_reducible refine LeO.bind ?_ (fun _ => ?_))
      | exact ih0 _ _ _
      | exact brazierref13_Operands.mono _ _
      | exact brazierref13_Size.mono _ _
      | exact LeO.none _
      | refine LeO.ite ?_ ?_
      | refine LeO.bind ?_ (fun _ => ?_)
def _root_.Go.Proofs.YtkphijabhoppnaaDoor.Rd.quint (r : Rd) : Int × Int × Int × Int × Int := (r.code, r.a, r.b, r.size, r.err)
theorem ref_read (k : Nat) (l : List Int) (hby : ∀ x ∈ l, 0 ≤ x ∧ x ≤ 255) (hl : l.length ≤ 1000000) (at' : Int) :
    brazierref13_Read.f (k + 3) l at' = some (readS l at').quint := by
  unfold brazierref13_Read.f readS
  by_cases h0 : at' < 0
  · rw [if_pos h0, if_pos (Or.inl h0)]; rfl
  · rw [if_neg h0]
    by_cases h1 : (l.length : Int) < at'
    · rw [if_pos (Or.inr h1), decide_eq_true h1]; rfl
    · rw [if_neg (by omega), decide_eq_false (by omega)]
      by_cases h2 : at' = l.length
      · rw [if_pos h2, brazierref13_Read.j0, if_neg (by simp), if_pos h2]; rfl
      · obtain ⟨i, rfl⟩ := Int.eq_ofNat_of_zero_le (show 0 ≤ at' by omega)
        have hi : i < l.length := by omega
        rw [if_neg h2, brazierref13_Read.j0, if_neg (by simp), if_neg h2, if_pos (by omega), if_pos (by omega), Int.toNat_natCast]
        have b0 := bytes_at hby i hi
        have e0 : rd l i = l.getD i 0 := by simp [rd]
        have ew : wrap64 ((i : Int) + 1) = ((i + 1 : Nat) : Int) := by unfold wrap64; omega
        have ew2 : wrap64 ((i : Int) + 2) = ((i + 2 : Nat) : Int) := by unfold wrap64; omega
        have e1 : rd l ((i + 1 : Nat) : Int) = l.getD (i + 1) 0 := by simp only [rd, Int.toNat_natCast]
        have e2 : rd l ((i + 2 : Nat) : Int) = l.getD (i + 2) 0 := by simp only [rd, Int.toNat_natCast]
        rw [e0, w64_byte b0, ew, ew2, e1, e2]
        unfold readAt
        by_cases h40 : (40 : Int) < l.getD i 0
        · rw [if_pos h40, if_pos h40]; rfl
        · rw [if_neg h40, if_neg (by omega), ref_size, ref_operands, Option.bind_some, Option.bind_some]
          rcases opk_le (l.getD i 0) with hk | hk | hk | hk | hk <;> rw [hk] <;> simp only [opB_list, opLs, sizeK, readK]
          · rw [if_neg (by unfold wrap64; omega), if_neg (by decide), if_neg (by decide), if_neg (by decide), if_neg (by decide)]; rfl
          · by_cases hy : i + 1 < l.length
            · rw [if_pos hy, if_neg (by unfold wrap64; omega), if_pos trivial, if_pos (by omega), if_pos (by omega), w64_byte (bytes_at hby _ hy)]; rfl
            · rw [if_neg hy, if_pos (by unfold wrap64; omega)]; rfl
          · by_cases hy : i + 1 < l.length
            · have hb := bytes_at hby _ hy
              rw [if_pos hy, if_neg (by unfold wrap64; omega), if_neg (by decide), if_pos trivial, if_pos (by omega), if_pos (by omega), wrap_s8 _ hb.1 hb.2]; rfl
            · rw [if_neg hy, if_pos (by unfold wrap64; omega)]; rfl
          · by_cases hy : i + 2 < l.length
            · have hb := bytes_at hby _ hy
              have hb1 := bytes_at hby (i + 1) (by omega)
              rw [if_pos hy, if_neg (by unfold wrap64; omega), if_neg (by decide), if_neg (by decide), if_pos trivial, if_pos (by omega), if_pos (by omega), if_pos (by omega), if_pos (by omega), u16_byte hb1, u16_byte hb, u16_byte256 hb, wrap_s16 _ _ hb1.1 hb1.2 hb.1 hb.2]; rfl
            · rw [if_neg hy, if_pos (by unfold wrap64; omega)]; rfl
          · by_cases hy : i + 2 < l.length
            · have hb := bytes_at hby _ hy
              have hb1 := bytes_at hby (i + 1) (by omega)
              rw [if_pos hy, if_neg (by unfold wrap64; omega), if_neg (by decide), if_neg (by decide), if_neg (by decide), if_pos trivial, if_pos (by omega), if_pos (by omega), if_pos (by omega), if_pos (by omega), w64_byte hb1, w64_byte hb]; rfl
            · rw [if_neg hy, if_pos (by unfold wrap64; omega)]; rfl
theorem brazierref13_Read.calls (k : Nat) (A0 : Option Addr) (c0 : Nat) (l0 : List Int) (a1 : Int) (r1 : Int) (r2 : Int) (r3 : Int) (r4 : Int) (r5 : Int) (w : World) (hr0 : Kd.C (Kd.int .u8) w A0 l0.length l0) (hg0 : GoodB l0) (hc0 : l0.length ≤ c0) (h : brazierref13_Read.f k l0 a1 = some (r1, r2, r3, r4, r5)) :
    Calls Tryd.prog 14 #[.slice A0 l0.length c0, .int .i64 a1] w fun e w' => e = .returned (.tuple #[.agg #[.int .i64 r1, .int .i64 r2, .int .i64 r3, .int .i64 r4], .int .i64 r5]) ∧ Below w.heap.size w w' := by
  have up : ∀ m, brazierref13_Read.f (k + m) l0 a1 = some (r1, r2, r3, r4, r5) := by
    intro m
    induction m with
    | zero => exact h
    | succ m ih => exact brazierref13_Read.mono _ _ _ _ ih
  have e := up 3
  rw [ref_read k l0 hg0.by' hg0.len a1] at e
  have e2 := Option.some.inj e
  refine (rread_core A0 c0 l0 a1 w hg0.len hg0.by' (C_cells hr0)).mono ?_
  rintro e w' ⟨rfl, hb⟩
  unfold Rd.quint at e2
  simp only [Prod.mk.injEq] at e2
  obtain ⟨rfl, rfl, rfl, rfl, rfl⟩ := e2
  exact ⟨rfl, hb⟩
def brazierref13_Places.l0 : Nat → List Int → List Int → Int → Option (List Int × Int × Int)
  | 0, _, _, _ => none
  | k + 1, x0, x5, x6 => if x6 < (x0.length : Int) then ((brazierref13_Read.f k x0 x6).bind fun bt147 => (if bt147.2.2.2.2 = 0 then (if x5.length < 17592186044416 then (brazierref13_Places.l0 k x0 (x5 ++ [x6]) (wrap64 (x6 + bt147.2.2.2.1))) else (none)) else (some (([] : List Int), bt147.2.2.2.2, x6)))) else (some (x5, 0, 0))
def brazierref13_Places.f (k : Nat) (l0 : List Int) : Option (List Int × Int × Int) := brazierref13_Places.l0 k l0 ([] : List Int) 0
theorem brazierref13_Places.mono_l : ∀ k, (∀ y0 y1 y2, LeO (brazierref13_Places.l0 k y0 y1 y2) (brazierref13_Places.l0 (k + 1) y0 y1 y2))
  | 0 => fun _ _ _ r h => by simp [brazierref13_Places.l0] at h
  | k + 1 => by
    have ih0 := brazierref13_Places.mono_l k
    · intro y0 y1 y2
      unfold brazierref13_Places.l0
      repeat' first
      | (with_reducible exact ih0 _ _ _)
      | (with_reducible exact brazierref13_Read.mono _ _ _)
      | (with_reducible exact LeO.refl _)
      | (with_reducible exact LeO.none _)
      | (with_reducible refine LeO.ite ?_ ?_)
      | (with_reducible refine LeO.bind ?_ (fun _ => ?_))
      | exact ih0 _ _ _
      | exact brazierref13_Read.mono _ _ _
      | exact LeO.none _
      | refine LeO.ite ?_ ?_
      | refine LeO.bind ?_ (fun _ => ?_)
theorem brazierref13_Places.mono : ∀ a0 k, LeO (brazierref13_Places.f k a0) (brazierref13_Places.f (k + 1) a0) := by
  intro a0 k
  have ih0 := brazierref13_Places.mono_l k
  unfold brazierref13_Places.f
  repeat' first
      | (with_reducible exact ih0 _ _ _)
      | (with_reducible exact brazierref13_Read.mono _ _ _)
      | (with_reducible exact LeO.refl _)
      | (with_reducible exact LeO.none _)
      | (with_reducible refine LeO.ite ?_ ?_)
      | (with_reducible refine LeO.bind ?_ (fun _ => ?_))
      | exact ih0 _ _ _
      | exact brazierref13_Read.mono _ _ _
      | exact LeO.none _
      | refine LeO.ite ?_ ?_
      | refine LeO.bind ?_ (fun _ => ?_)
set_option maxHeartbeats 8000000 in
set_option maxRecDepth 100000 in
theorem brazierref13_Places.calls (k : Nat) (A0 : Option Addr) (c0 : Nat) (l0 : List Int) (r1 : List Int) (r2 : Int) (r3 : Int) (w : World) (hr0 : Kd.C (Kd.int .u8) w A0 l0.length l0) (hg0 : GoodB l0) (hc0 : l0.length ≤ c0) (h : brazierref13_Places.f k l0 = some (r1, r2, r3)) :
    Calls Tryd.prog 17 #[.slice A0 l0.length c0] w fun e w' => ∃ v0_ : Value, e = .returned (.tuple #[v0_, .int .i64 r2, .int .i64 r3]) ∧ Kd.R (Kd.int .i64) 3 w' w.heap.size (fun _ => True) v0_ r1 ∧ Below w.heap.size w w' := by
  have hu29 := Tryd.underlying29
  have HR0 := Aside0.mk hr0
  have HG0 := Aside0.mk hg0
  clear hg0
  have HC0 := Aside0.mk hc0
  clear hr0 hc0
  have HB := Aside0.mk (Below.refl w.heap.size w)
  have H : (brazierref13_Places.l0 k l0 ([] : List Int) 0) = some (r1, r2, r3) := h
  clear h
  have H' := Aside0.mk H
  clear H
  go_enter Tryd.func17, Tryd.ntmps17
  go_wp2
  go_loopg [5, 6] k (fun kq v5 v6 w' => ∃ (x5_1 : List Int) (x6_1 : Int), v6 = .int .i64 x6_1 ∧ Aside0 (brazierref13_Places.l0 kq l0 x5_1 x6_1 = some (r1, r2, r3)) ∧ Aside0 (kq ≤ k) ∧ Aside0 (Kd.R (Kd.int .i64) 3 w' w.heap.size (fun _ => True) v5 x5_1) ∧ Aside0 (Below w.heap.size w w'))
  case atStart => exact ⟨(([] : List Int)), (0), (by first | rfl | (simp; done) | (simp [*]; done)), H', ⟨Nat.le_refl _⟩, ⟨by first | exact Kd.R_nil _ _ _ _ _ | exact Kd.N_nil _ _ _ _ _ | exact Kd.V_nil _ _ _ _ _ | exact Kd.Q_nil _ _ _ _ _ | exact Kd.S_nil _ _ _ _ _⟩, ⟨by repeat (first | (with_reducible first | exact HB.out | apply below_alloc | apply pw_below_drewN | apply below_drew1) | exact HB.out)⟩⟩
  case round =>
    clear H'
    try clear c1
    obtain ⟨x5_1, x6_1, rfl, HA, HK1, HO_5, HB⟩ := hrel
    cases gk with
    | zero => exact absurd HA.out (by simp [brazierref13_Places.l0])
    | succ k1 =>
      have H := HA.out
      clear HA
      simp only [brazierref13_Places.l0] at H
      by_cases c2 : x6_1 < (l0.length : Int)
      · rw [if_pos c2] at H
        have c2b0 : decide (x6_1 < (l0.length : Int)) = true := decide_eq_true c2
        clear c2
        replace H := Option.bind_eq_some_iff.mp H
        obtain ⟨⟨t147, t148, t149, t150, t151⟩, A30, H⟩ := H
        replace H : (if t151 = 0 then (if x5_1.length < 17592186044416 then (brazierref13_Places.l0 k1 l0 (x5_1 ++ [x6_1]) (wrap64 (x6_1 + t150))) else (none)) else (some (([] : List Int), t151, x6_1))) = some (r1, r2, r3) := H
        have A3 := Aside0.mk A30
        clear A30
        by_cases c4 : t151 = 0
        · rw [if_pos c4] at H
          have c4b0 : (t151 == 0) = true := beq_iff_eq.mpr c4
          have c4b1 : (t151 != 0) = false := bne_eq_false_iff_eq.mpr c4
          clear c4
          by_cases c5 : x5_1.length < 17592186044416
          · rw [if_pos c5] at H
            have LMc5 := Aside0.mk c5
            clear c5
            obtain ⟨y153, hy153⟩ : ∃ y_ : List Int, y_ = (x5_1 ++ [x6_1]) := ⟨_, rfl⟩
            replace H : (brazierref13_Places.l0 k1 l0 y153 (wrap64 (x6_1 + t150))) = some (r1, r2, r3) := by first | (rw [hy153]; with_reducible exact H) | (have H2_ := (Option.bind_some _ _).symm.trans H; rw [hy153]; with_reducible exact H2_) | (have H2_ := (Option.bind_some _ _).symm.trans H; with_reducible exact H2_) | with_reducible exact H | (rw [hy153]; exact H) | exact H
            have Ny153 := Aside0.mk hy153
            clear hy153
            have H' := Aside0.mk H
            clear H
            go_wp2_with (first | ((with_reducible refine gate_callee (f := 14) rfl ?_); refine goesL_ (some 16) rfl rfl Tryd.func14 (by kernel_rfl) rfl #[.slice A0 l0.length c0, .int .i64 x6_1] rfl (by (try simp only [List.map_toArray, List.map_cons, List.map_nil]); first | done | rfl | (simp only [List.length_drop, List.length_take]; rfl)) ?_; (with_reducible refine (brazierref13_Read.calls k1 _ _ l0 x6_1 t147 t148 t149 t150 t151 _ ?side1 HG0.out ?side2 A3.out).mono ?_); (case side1 => repeat (first | exact (Kd.C_below HR0.out HB.out) | (with_reducible refine Kd.C_alloc ?_ _) | (with_reducible refine Kd.C_drewN ?_ _) | (with_reducible refine Kd.C_drew ?_))); (case side2 => exact HC0.out); rintro e w6 ⟨rfl, hb⟩; refine ⟨_, rfl, ?_⟩; have n0_ := Aside0.mk (Kd.R_below (by (with_reducible repeat (first | apply Kd.R_alloc | apply Kd.R_drewN | apply Kd.R_drew)); exact HO_5.out) hb); have n1_ := Aside0.mk (below_step (by repeat (first | (with_reducible first | exact HB.out | apply below_alloc | apply pw_below_drewN | apply below_drew1) | exact HB.out)) hb); clear HO_5; clear HB; have HO_5 := n0_; have HB := n1_; clear n0_ n1_; (try clear hb); (try clear hb2); (try clear hk); (try clear hi)) | ((with_reducible refine gate_dst (N := 7) rfl ?_); refine box_event ?hg (N := 7) ?hd (cs := #[.int .i64 0, .int .i64 0, .int .i64 0, .int .i64 0]) (t := 29) ?hr ?_; (case hd => rfl); (case hg => rfl); (case hr => first | (go_simp; done) | (go_simp; rfl)); intro gb152 hg w7 hbox hb; have n0_ := Aside0.mk (Kd.R_below (by (with_reducible repeat (first | apply Kd.R_alloc | apply Kd.R_drewN | apply Kd.R_drew)); exact HO_5.out) hb); have n1_ := Aside0.mk (below_step (by repeat (first | (with_reducible first | exact HB.out | apply below_alloc | apply pw_below_drewN | apply below_drew1) | exact HB.out)) hb); have n2_ := Aside0.mk (hbox); have n3_ := Aside0.mk ((by rw [hg]; exact (below_size (by repeat (first | (with_reducible first | exact HB.out | apply below_alloc | apply pw_below_drewN | apply below_drew1) | exact HB.out))) : w.heap.size ≤ gb152)); have n4_ := Aside0.mk ((by rw [hg]; exact (below_size (by repeat (first | (with_reducible first | exact HB.out | apply below_alloc | apply pw_below_drewN | apply below_drew1) | exact HB.out))) : w.heap.size ≤ gb152)); clear HO_5; clear HB; have HO_5 := n0_; have HB := n1_; have BK152 := n2_; have GW152 := n3_; have GE152 := n4_; clear n0_ n1_ n2_ n3_ n4_; clear hb hbox hg; have hcz8_0 : w7.cell? ⟨gb152, 0, none⟩ = some (.int .i64 0) := (blk_cell BK152.out 0).trans rfl; have hcz8_1 : w7.cell? ⟨gb152, 1, none⟩ = some (.int .i64 0) := (blk_cell BK152.out 1).trans rfl; have hcz8_2 : w7.cell? ⟨gb152, 2, none⟩ = some (.int .i64 0) := (blk_cell BK152.out 2).trans rfl; have hcz8_3 : w7.cell? ⟨gb152, 3, none⟩ = some (.int .i64 0) := (blk_cell BK152.out 3).trans rfl; have hfz8_0 := blk_frozen BK152.out 0; have hfz8_1 := blk_frozen BK152.out 1; have hfz8_2 := blk_frozen BK152.out 2; have hfz8_3 := blk_frozen BK152.out 3) | ((with_reducible refine gate_builtin (b := .append) (xs := #[.tmp 23, .tmp 25]) rfl ?_); at_builtin; refine Kd.R_append (Kd.int .i64) (w0 := w) w.heap.size rfl (.tmp 23) (.tmp 25) 33 3 (.int .i64 0) 8 rfl Tryd.underlying33 info3 rfl (by decide) (by omega) u5 x5_1 x6_1 [.int .i64 x6_1] (fun _ => True) (fun _ => False) rfl (by first | (go_simp; done) | (go_simp; rfl)) ?aP (fun _ hk => hk.elim) ?aF ?aO ?aB ?aS ?aL ?_; (case aP => exact rfl); (case aB => exact (by repeat (first | (with_reducible first | exact HB.out | apply below_alloc | apply pw_below_drewN | apply below_drew1 | refine below_set ?_ GE152.out) | exact HB.out))); (case aF => exact (fun _ _ => trivial)); (case aO => exact (by (with_reducible repeat (first | apply Kd.R_alloc | apply Kd.R_drewN | apply Kd.R_drew)); exact Kd.R_mono (Kd.R_far (p := ⟨gb152, 3, none⟩) (Kd.R_far (p := ⟨gb152, 2, none⟩) (Kd.R_far (p := ⟨gb152, 1, none⟩) (Kd.R_far (p := ⟨gb152, 0, none⟩) (Kd.R_types HO_5.out BK152.out (by decide)) (fun _ hk => hk.2) (.int .i64 t147)) (fun _ hk => hk.2) (.int .i64 t148)) (fun _ hk => hk.2) (.int .i64 t149)) (fun _ hk => hk.2) (.int .i64 t150)) (fun _ hk => trivial))); (case aS => exact (below_size (by repeat (first | (with_reducible first | exact HB.out | apply below_alloc | apply pw_below_drewN | apply below_drew1 | refine below_set ?_ GE152.out) | exact HB.out)))); (case aL => have := LMc5.out; omega); intro v154 w9 ho hb hg hat; rw [← Ny153.out] at ho; have n0_ := Aside0.mk (blk_grown (g := gb152) (o := .cells #[.int .i64 t147, .int .i64 t148, .int .i64 t149, .int .i64 t150] 29 (0, 0)) (by (with_reducible repeat (first | refine blk_drewN ?_ _ | refine blk_drew ?_ | refine blk_alloc ?_ _)); refine blk_put (cs := #[.int .i64 t147, .int .i64 t148, .int .i64 t149, .int .i64 0]) ?_ 3 _ rfl; (with_reducible repeat (first | refine blk_drewN ?_ _ | refine blk_drew ?_ | refine blk_alloc ?_ _)); refine blk_put (cs := #[.int .i64 t147, .int .i64 t148, .int .i64 0, .int .i64 0]) ?_ 2 _ rfl; (with_reducible repeat (first | refine blk_drewN ?_ _ | refine blk_drew ?_ | refine blk_alloc ?_ _)); refine blk_put (cs := #[.int .i64 t147, .int .i64 0, .int .i64 0, .int .i64 0]) ?_ 1 _ rfl; (with_reducible repeat (first | refine blk_drewN ?_ _ | refine blk_drew ?_ | refine blk_alloc ?_ _)); refine blk_put (cs := #[.int .i64 0, .int .i64 0, .int .i64 0, .int .i64 0]) ?_ 0 _ rfl; (with_reducible repeat (first | refine blk_drewN ?_ _ | refine blk_drew ?_ | refine blk_alloc ?_ _)); exact BK152.out) hg (Kd.R_ne HO_5.out BK152.out (by decide))); have n1_ := Aside0.mk (hb); have n2_ := Aside0.mk (ho); clear BK152; clear HB; clear HO_5; have BK152 := n0_; have HB := n1_; have HO155 := n2_; clear n0_ n1_ n2_; clear ho hb hg hat; have hcz10_0 : w9.cell? ⟨gb152, 0, none⟩ = some (.int .i64 t147) := (blk_cell BK152.out 0).trans rfl; have hcz10_1 : w9.cell? ⟨gb152, 1, none⟩ = some (.int .i64 t148) := (blk_cell BK152.out 1).trans rfl; have hcz10_2 : w9.cell? ⟨gb152, 2, none⟩ = some (.int .i64 t149) := (blk_cell BK152.out 2).trans rfl; have hcz10_3 : w9.cell? ⟨gb152, 3, none⟩ = some (.int .i64 t150) := (blk_cell BK152.out 3).trans rfl; have hfz10_0 := blk_frozen BK152.out 0; have hfz10_1 := blk_frozen BK152.out 1; have hfz10_2 := blk_frozen BK152.out 2; have hfz10_3 := blk_frozen BK152.out 3))
            go_roundg k1
            case measure => have := HK1.out; omega
            case rel => exact ⟨(y153), (wrap64 (x6_1 + t150)), (by first | rfl | (simp; done) | (simp [*]; done)), H', ⟨by have := HK1.out; omega⟩, ⟨by (with_reducible repeat (first | apply Kd.R_alloc | apply Kd.R_drewN | apply Kd.R_drew)); exact HO155.out⟩, ⟨by repeat (first | (with_reducible first | exact HB.out | apply below_alloc | apply pw_below_drewN | apply below_drew1 | refine below_set ?_ GE152.out) | exact HB.out)⟩⟩
          · rw [if_neg c5] at H
            exact absurd H (by simp)
        · rw [if_neg c4] at H
          have c4b0 : (t151 == 0) = false := beq_eq_false_iff_ne.mpr c4
          have c4b1 : (t151 != 0) = true := bne_iff_ne.mpr c4
          simp only [Option.some.injEq, Prod.mk.injEq] at H
          obtain ⟨rfl, rfl, rfl⟩ := H
          go_wp2_with (first | ((with_reducible refine gate_callee (f := 14) rfl ?_); refine goesL_ (some 16) rfl rfl Tryd.func14 (by kernel_rfl) rfl #[.slice A0 l0.length c0, .int .i64 x6_1] rfl (by (try simp only [List.map_toArray, List.map_cons, List.map_nil]); first | done | rfl | (simp only [List.length_drop, List.length_take]; rfl)) ?_; (with_reducible refine (brazierref13_Read.calls k1 _ _ l0 x6_1 t147 t148 t149 t150 t151 _ ?side1 HG0.out ?side2 A3.out).mono ?_); (case side1 => repeat (first | exact (Kd.C_below HR0.out HB.out) | (with_reducible refine Kd.C_alloc ?_ _) | (with_reducible refine Kd.C_drewN ?_ _) | (with_reducible refine Kd.C_drew ?_))); (case side2 => exact HC0.out); rintro e w11 ⟨rfl, hb⟩; refine ⟨_, rfl, ?_⟩; have n0_ := Aside0.mk (Kd.R_below (by (with_reducible repeat (first | apply Kd.R_alloc | apply Kd.R_drewN | apply Kd.R_drew)); exact HO_5.out) hb); have n1_ := Aside0.mk (below_step (by repeat (first | (with_reducible first | exact HB.out | apply below_alloc | apply pw_below_drewN | apply below_drew1) | exact HB.out)) hb); clear HO_5; clear HB; have HO_5 := n0_; have HB := n1_; clear n0_ n1_; (try clear hb); (try clear hb2); (try clear hk); (try clear hi)) | ((with_reducible refine gate_dst (N := 7) rfl ?_); refine box_event ?hg (N := 7) ?hd (cs := #[.int .i64 0, .int .i64 0, .int .i64 0, .int .i64 0]) (t := 29) ?hr ?_; (case hd => rfl); (case hg => rfl); (case hr => first | (go_simp; done) | (go_simp; rfl)); intro gb152 hg w12 hbox hb; have n0_ := Aside0.mk (Kd.R_below (by (with_reducible repeat (first | apply Kd.R_alloc | apply Kd.R_drewN | apply Kd.R_drew)); exact HO_5.out) hb); have n1_ := Aside0.mk (below_step (by repeat (first | (with_reducible first | exact HB.out | apply below_alloc | apply pw_below_drewN | apply below_drew1) | exact HB.out)) hb); have n2_ := Aside0.mk (hbox); have n3_ := Aside0.mk ((by rw [hg]; exact (below_size (by repeat (first | (with_reducible first | exact HB.out | apply below_alloc | apply pw_below_drewN | apply below_drew1) | exact HB.out))) : w.heap.size ≤ gb152)); have n4_ := Aside0.mk ((by rw [hg]; exact (below_size (by repeat (first | (with_reducible first | exact HB.out | apply below_alloc | apply pw_below_drewN | apply below_drew1) | exact HB.out))) : w.heap.size ≤ gb152)); clear HO_5; clear HB; have HO_5 := n0_; have HB := n1_; have BK152 := n2_; have GW152 := n3_; have GE152 := n4_; clear n0_ n1_ n2_ n3_ n4_; clear hb hbox hg; have hcz13_0 : w12.cell? ⟨gb152, 0, none⟩ = some (.int .i64 0) := (blk_cell BK152.out 0).trans rfl; have hcz13_1 : w12.cell? ⟨gb152, 1, none⟩ = some (.int .i64 0) := (blk_cell BK152.out 1).trans rfl; have hcz13_2 : w12.cell? ⟨gb152, 2, none⟩ = some (.int .i64 0) := (blk_cell BK152.out 2).trans rfl; have hcz13_3 : w12.cell? ⟨gb152, 3, none⟩ = some (.int .i64 0) := (blk_cell BK152.out 3).trans rfl; have hfz13_0 := blk_frozen BK152.out 0; have hfz13_1 := blk_frozen BK152.out 1; have hfz13_2 := blk_frozen BK152.out 2; have hfz13_3 := blk_frozen BK152.out 3))
          go_ret3
          exact ⟨_, by first | rfl | (simp [errW_none, errW_some] <;> rfl) | (simp [*, errW_none, errW_some] <;> rfl), by first | exact Kd.R_nil _ _ _ _ _ | exact Kd.N_nil _ _ _ _ _ | exact Kd.V_nil _ _ _ _ _ | exact Kd.Q_nil _ _ _ _ _ | exact Kd.S_nil _ _ _ _ _, by repeat (first | (with_reducible first | exact HB.out | apply below_alloc | apply pw_below_drewN | apply below_drew1 | refine below_set ?_ GE152.out) | exact HB.out)⟩
      · rw [if_neg c2] at H
        have c2b0 : decide (x6_1 < (l0.length : Int)) = false := decide_eq_false c2
        clear c2
        simp only [Option.some.injEq, Prod.mk.injEq] at H
        obtain ⟨rfl, rfl, rfl⟩ := H
        go_wp2
        go_ret3
        exact ⟨_, by first | rfl | (simp [errW_none, errW_some] <;> rfl) | (simp [*, errW_none, errW_some] <;> rfl), by (with_reducible repeat (first | apply Kd.R_alloc | apply Kd.R_drewN | apply Kd.R_drew)); exact HO_5.out, by repeat (first | (with_reducible first | exact HB.out | apply below_alloc | apply pw_below_drewN | apply below_drew1) | exact HB.out)⟩
end Go.Proofs.YtkphijabhoppnaaDoor.PVerifyMethods
namespace Go.Proofs.YtkphijabhoppnaaDoor
open Go.RowKit Go.Proofs.YtkphijabhoppnaaDoorW.PrintWords Go.Proofs.YtkphijabhoppnaaDoor.PVerifyMethods
theorem ops_len_from (l : List Int) : ∀ (f i : Nat), (opsFrom l f i).length ≤ f := by
  intro f
  induction f with
  | zero => intro i; simp [opsFrom]
  | succ f ih =>
    intro i
    rw [opsFrom]
    split
    · split
      · have := ih (i + (readAt l i).size.toNat)
        simp only [List.length_cons]; omega
      · simp
    · simp
theorem ops_len (l : List Int) : (opsL l).length ≤ l.length := ops_len_from l _ _
theorem opsFrom_next (l : List Int) (f i : Nat) (hi : i < l.length) (h : (readAt l i).err = 0) : opsFrom l (f + 1) i = (i, readAt l i) :: opsFrom l f (i + (readAt l i).size.toNat) := by
  rw [opsFrom, if_pos hi, if_pos h]
theorem ref_places_from (l : List Int) (hby : ∀ x ∈ l, 0 ≤ x ∧ x ≤ 255) (hl : l.length ≤ 1000000) : ∀ (f i : Nat) (acc : List Int) (k : Nat), l.length ≤ i + f → i ≤ l.length → acc.length ≤ i → f + 5 ≤ k →
    ∃ r : List Int × Int × Int, brazierref13_Places.l0 k l acc i = some r ∧
      ((∃ E : Nat, E < l.length ∧ (readAt l E).err ≠ 0 ∧ r = ([], (readAt l E).err, (E : Int)) ∧ (opsFrom l f i = [] ∧ E = i ∨ opsFrom l f i ≠ [] ∧ endO (opsFrom l f i) = E)) ∨
       (r = (acc ++ plcs (opsFrom l f i), 0, 0) ∧ (opsFrom l f i = [] ∧ i = l.length ∨ opsFrom l f i ≠ [] ∧ endO (opsFrom l f i) = l.length))) := by
  intro f
  induction f with
  | zero =>
    intro i acc k h1 h2 h3 h4
    obtain ⟨k, rfl⟩ : ∃ m, k = m + 1 := ⟨k - 1, by omega⟩
    refine ⟨_, ?_, .inr ⟨rfl, .inl ⟨by simp [opsFrom], by omega⟩⟩⟩
    rw [brazierref13_Places.l0, if_neg (by omega)]
    simp [opsFrom, plcs]
  | succ f ih =>
    intro i acc k h1 h2 h3 h4
    obtain ⟨k, rfl⟩ : ∃ m, k = m + 1 := ⟨k - 1, by omega⟩
    by_cases hi : i < l.length
    · have hr : brazierref13_Read.f k l i = some (readAt l i).quint := by
        obtain ⟨k, rfl⟩ : ∃ m, k = m + 3 := ⟨k - 3, by omega⟩
        rw [ref_read k l hby hl, readS_at l i hi]
      by_cases he : (readAt l i).err = 0
      · have hs := readAt_size l i he
        have hen := readAt_end l i hi he
        have hw : wrap64 ((i : Int) + (readAt l i).size) = ((i + (readAt l i).size.toNat : Nat) : Int) := by unfold wrap64; omega
        obtain ⟨r, hr1, hr2⟩ := ih (i + (readAt l i).size.toNat) (acc ++ [(i : Int)]) k (by omega) hen (by simp; omega) (by omega)
        refine ⟨r, ?_, ?_⟩
        · rw [brazierref13_Places.l0, if_pos (by omega), hr, Option.bind_some]
          show (if (readAt l i).err = 0 then _ else _) = _
          rw [if_pos he, if_pos (by omega)]
          show brazierref13_Places.l0 k l (acc ++ [(i : Int)]) (wrap64 ((i : Int) + (readAt l i).size)) = _
          rw [hw, hr1]
        · rw [opsFrom_next l f i hi he]
          rcases hr2 with ⟨E, e1, e2, e3, e4⟩ | ⟨e3, e4⟩
          · refine .inl ⟨E, e1, e2, e3, .inr ⟨by simp, ?_⟩⟩
            rw [endO_cons]
            rcases e4 with ⟨e4, e5⟩ | ⟨e4, e5⟩
            · rw [if_pos e4, e5]; exact hw
            · rw [if_neg e4, e5]
          · refine .inr ⟨by rw [e3]; simp [plcs], .inr ⟨by simp, ?_⟩⟩
            rw [endO_cons]
            rcases e4 with ⟨e4, e5⟩ | ⟨e4, e5⟩
            · rw [if_pos e4, ← e5]; exact hw
            · rw [if_neg e4, e5]
      · refine ⟨([], (readAt l i).err, (i : Int)), ?_, .inl ⟨i, hi, he, rfl, .inl ⟨by rw [opsFrom, if_pos hi, if_neg he], rfl⟩⟩⟩
        rw [brazierref13_Places.l0, if_pos (by omega), hr, Option.bind_some]
        show (if (readAt l i).err = 0 then _ else _) = _
        rw [if_neg he]
        rfl
    · refine ⟨_, ?_, .inr ⟨rfl, .inl ⟨by rw [opsFrom, if_neg hi], by omega⟩⟩⟩
      rw [brazierref13_Places.l0, if_neg (by omega)]
      simp [opsFrom, hi, plcs]
theorem ref_places (l : List Int) (hby : ∀ x ∈ l, 0 ≤ x ∧ x ≤ 255) (hl : l.length ≤ 1000000) (k : Nat) (hk : l.length + 5 ≤ k) :
    ∃ z : Int, brazierref13_Places.f k l = some ((placesS l).1, (placesS l).2, z) ∧ ((placesS l).2 ≠ 0 → z = endO (opsL l)) := by
  obtain ⟨r, h1, h2⟩ := ref_places_from l hby hl l.length 0 [] k (by omega) (by omega) (by simp) hk
  unfold brazierref13_Places.f
  rw [show (0 : Int) = ((0 : Nat) : Int) from rfl, h1]
  unfold placesS
  have e0 : opsFrom l l.length 0 = opsL l := rfl
  rw [e0] at h2
  rcases h2 with ⟨E, e1, e2, e3, e4⟩ | ⟨e3, e4⟩
  · have hE : endO (opsL l) = E := by
      rcases e4 with ⟨e4, e5⟩ | ⟨e4, e5⟩
      · rw [e4, e5]; rfl
      · exact e5
    refine ⟨E, ?_, fun _ => hE.symm⟩
    rw [hE, if_pos (by omega), readS_at l E e1, e3]
  · have hE : endO (opsL l) = l.length := by
      rcases e4 with ⟨e4, e5⟩ | ⟨e4, e5⟩
      · rw [e4, ← e5]; rfl
      · exact e5
    refine ⟨0, ?_, ?_⟩
    · rw [hE, if_neg (by omega), e3]
      simp
    · rw [hE, if_neg (by omega)]
      simp
theorem refPlaces_calls {w : World} (v : Value) (l : List Int) (hb : Byt w v l) (hl : l.length ≤ 1000000) :
    Calls Tryd.prog 17 #[v] w fun e w' => ∃ A c z, e = .returned (.tuple #[.slice A (placesS l).1.length c, .int .i64 (placesS l).2, .int .i64 z]) ∧ ((placesS l).2 ≠ 0 → z = endO (opsL l)) ∧ w'.ownsRow w.heap.size 3 1 (.slice A (placesS l).1.length c) (placesS l).1.length (nums .i64 (placesS l).1) ∧ Below w.heap.size w w' := by
  have hC : ∀ A c, v = .slice A l.length c → Kd.C (Kd.int .u8) w A l.length l := fun A c e => bytC (by rw [← e]; exact hb)
  obtain ⟨A, c, rfl, hc, hm, hby, hcl⟩ := hb
  obtain ⟨z, hz, hE⟩ := ref_places l hby hl (l.length + 5) (Nat.le_refl _)
  refine (brazierref13_Places.calls (l.length + 5) A c l _ _ _ w (hC A c rfl) ⟨hl, hby⟩ hc hz).mono ?_
  rintro e w' ⟨v, rfl, hR, hb⟩
  have ho := Kd.own_of_R hR
  obtain ⟨A3, c3, rfl⟩ := own_slice ho
  exact ⟨A3, c3, z, rfl, hE, ho, hb⟩
end Go.Proofs.YtkphijabhoppnaaDoor
