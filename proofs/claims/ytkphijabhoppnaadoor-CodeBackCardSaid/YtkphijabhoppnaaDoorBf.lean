/- Which operands a code has, and a bytecode read, by the document's reference. -/
import Derived.Test.YtkphijabhoppnaaDoorPCodeReadsx2
import Derived.Test.YtkphijabhoppnaaDoorSh
import Derived.Test.YtkphijabhoppnaaDoorBb
namespace Go.Proofs.YtkphijabhoppnaaDoor
open Go.RowKit Go.Proofs.YtkphijabhoppnaaDoorW.PrintWords Go.Proofs.YtkphijabhoppnaaDoor.PCodeReads
set_option linter.unusedSimpArgs false
set_option linter.unusedVariables false

def opB : Nat → ByteArray
  | 1 => ⟨#[117]⟩ | 2 => ⟨#[115]⟩ | 3 => ⟨#[111]⟩ | 4 => ⟨#[117, 117]⟩ | _ => ⟨#[]⟩
theorem ref_operands (k : Nat) (c : Int) : brazierref13_Operands.f (k + 2) c = some (opB (opk c)) := by
  unfold brazierref13_Operands.f opk
  by_cases h1 : c = 1; · subst h1; rfl
  by_cases h4 : c = 4; · subst h4; rfl
  by_cases h5 : c = 5; · subst h5; rfl
  by_cases h27 : c = 27; · subst h27; rfl
  by_cases h29 : c = 29; · subst h29; rfl
  by_cases h32 : c = 32; · subst h32; rfl
  by_cases h33 : c = 33; · subst h33; rfl
  by_cases h34 : c = 34; · subst h34; rfl
  by_cases h38 : c = 38; · subst h38; rfl
  by_cases h2 : c = 2; · subst h2; rfl
  by_cases h25 : c = 25; · subst h25; rfl
  by_cases h26 : c = 26; · subst h26; rfl
  by_cases h30 : c = 30; · subst h30; rfl
  by_cases h31 : c = 31; · subst h31; rfl
  simp [h1, h4, h5, h27, h29, h32, h33, h34, h38, h2, h25, h26, h30, h31, brazierref13_Operands.j0, brazierref13_Operands.j1, opB]

def opLs : Nat → List UInt8
  | 1 => [117] | 2 => [115] | 3 => [111] | 4 => [117, 117] | _ => []
theorem toList_loop (bs : ByteArray) : ∀ (d i : Nat) (r : List UInt8), bs.size - i = d → ByteArray.toList.loop bs i r = r.reverse ++ bs.data.toList.drop i := by
  intro d
  induction d with
  | zero =>
    intro i r h
    unfold ByteArray.toList.loop
    rw [if_neg (by omega), List.drop_eq_nil_of_le (by simp; show bs.size ≤ i; omega), List.append_nil]
  | succ d ih =>
    intro i r h
    unfold ByteArray.toList.loop
    have hi : i < bs.size := by omega
    rw [if_pos hi, ih (i + 1) _ (by omega)]
    have h2 : i < bs.data.toList.length := by simpa using hi
    rw [List.drop_eq_getElem_cons h2]
    have : bs.get! i = bs.data.toList[i] := by
      simp [ByteArray.get!, getElem!_pos, hi]
    simp [this]
theorem ba_toList (bs : ByteArray) : bs.toList = bs.data.toList := by
  unfold ByteArray.toList
  rw [toList_loop bs _ 0 [] rfl]; simp
theorem ba_list (l : List UInt8) : (⟨l.toArray⟩ : ByteArray).toList = l := by
  rw [ba_toList]
theorem opB_list (k : Nat) : (opB k).toList = opLs k := by
  unfold opB opLs
  split <;> exact ba_list _
def sizeK : Nat → Int
  | 0 => 1 | 1 => 2 | 2 => 2 | _ => 3
theorem ref_size (k : Nat) (c : Int) : brazierref13_Size.f (k + 2) c = some (sizeK (opk c)) := by
  unfold brazierref13_Size.f
  rw [ref_operands]
  rcases opk_le c with h | h | h | h | h <;> rw [h, Option.bind_some, opB_list, Option.bind_some] <;> simp [opLs, opB, sizeK, ByteArray.size, wrap64]

theorem bytes_at {l : List Int} (hby : ∀ x ∈ l, 0 ≤ x ∧ x ≤ 255) (i : Nat) (h : i < l.length) : 0 ≤ l.getD i 0 ∧ l.getD i 0 ≤ 255 :=
  hby (l.getD i 0) (by rw [List.getD_eq_getElem?_getD, List.getElem?_eq_getElem h]; exact List.getElem_mem h)
theorem w64_byte {x : Int} (h : 0 ≤ x ∧ x ≤ 255) : wrap64 x = x := by unfold wrap64; omega
theorem u16_byte {x : Int} (h : 0 ≤ x ∧ x ≤ 255) : IntKind.u16.wrap x = x := by
  simp only [IntKind.wrap, IntKind.signed, IntKind.bits, Bool.false_and, show (2 : Int) ^ 16 = 65536 from rfl]
  simp; omega
theorem u16_byte256 {x : Int} (h : 0 ≤ x ∧ x ≤ 255) : IntKind.u16.wrap (x * 256) = x * 256 := by
  simp only [IntKind.wrap, IntKind.signed, IntKind.bits, Bool.false_and, show (2 : Int) ^ 16 = 65536 from rfl]
  simp; omega
end Go.Proofs.YtkphijabhoppnaaDoor
namespace Go.Proofs.YtkphijabhoppnaaDoor
open Go.RowKit Go.Proofs.YtkphijabhoppnaaDoorW.PrintWords Go.Proofs.YtkphijabhoppnaaDoor.PCodeReads
set_option linter.unusedSimpArgs false
set_option linter.unusedVariables false

theorem below_setC {B b i : Nat} {a w : World} (h : Below B a w) (hb : B ≤ b) (v : Value) (_ : True) : Below B a (w.setCell ⟨b, i, none⟩ v) := h.setCell (p := ⟨b, i, none⟩) hb v
theorem below_alC {B : Nat} {a w : World} (h : Below B a w) (hb : B ≤ w.heap.size) (o : Obj) : Below B a (w.alloc o) := h.alloc hb o
theorem rread_arg (A : Option Addr) (n c : Nat) (at' : Int) (w : World) (h : at' < 0 ∨ (n : Int) < at') :
    Calls Tryd.prog 14 #[.slice A n c, .int .i64 at'] w fun e w' => e = .returned (Rd.val ⟨0, 0, 0, 0, 1⟩) ∧ Below w.heap.size w w' := by
  by_cases h0 : at' < 0
  · clear h
    go_enter Tryd.func14, Tryd.ntmps14
    go_wp2_with fail
    exact bodyPost_ret (v := Rd.val ⟨0, 0, 0, 0, 1⟩) (by simp [Rd.val, results, Tryd.results14, go_sem]) rfl ⟨rfl, (Below.refl _ _).alloc (Nat.le_refl _) _⟩
  · have h2 : (n : Int) < at' := by omega
    clear h
    go_enter Tryd.func14, Tryd.ntmps14
    go_wp2_with fail
    exact bodyPost_ret (v := Rd.val ⟨0, 0, 0, 0, 1⟩) (by simp [Rd.val, results, Tryd.results14, go_sem]) rfl ⟨rfl, (Below.refl _ _).alloc (Nat.le_refl _) _⟩

theorem rread_end (A : Option Addr) (n c : Nat) (w : World) :
    Calls Tryd.prog 14 #[.slice A n c, .int .i64 n] w fun e w' => e = .returned (Rd.val ⟨0, 0, 0, 0, 6⟩) ∧ Below w.heap.size w w' := by
  go_enter Tryd.func14, Tryd.ntmps14
  go_wp2_with fail
  exact bodyPost_ret (v := Rd.val ⟨0, 0, 0, 0, 6⟩) (by simp [Rd.val, results, Tryd.results14, go_sem]) rfl ⟨rfl, (Below.refl _ _).alloc (Nat.le_refl _) _⟩

theorem rread_form (b off n c i : Nat) (x : Int) (w : World) (hi : i < n) (hx : 40 < x) (hx1 : x ≤ 255) (hc : w.cell? ⟨b, off + i, none⟩ = some (.int .u8 x)) :
    Calls Tryd.prog 14 #[.slice (some ⟨b, off, none⟩) n c, .int .i64 i] w fun e w' => e = .returned (Rd.val ⟨0, 0, 0, 0, 5⟩) ∧ Below w.heap.size w w' := by
  have hbl := block_lt_of_cell hc
  have t1 : ((i : Int) == n) = false := by simp; omega
  go_enter Tryd.func14, Tryd.ntmps14
  go_wp2_with fail
  exact bodyPost_ret (v := Rd.val ⟨0, 0, 0, 0, 5⟩) (by simp [Rd.val, results, Tryd.results14, go_sem]) rfl ⟨rfl, (Below.refl _ _).alloc (Nat.le_refl _) _⟩

theorem opB_ops (k : Nat) (c : Int) (hk : opk c = k) (w : World) : Calls Tryd.prog 47 #[.int .i64 c] w fun e w' => e = .returned (.string (opB k)) ∧ ∃ n, w' = w.drewN n := by
  refine (brazierref13_Operands.calls 2 c _ w (ref_operands 0 c)).mono ?_
  rintro e w' ⟨rfl, n, h⟩
  exact ⟨by rw [hk], n, h⟩
theorem size_ops (k : Nat) (c : Int) (hk : opk c = k) (w : World) : Calls Tryd.prog 46 #[.int .i64 c] w fun e w' => e = .returned (.int .i64 (sizeK k)) ∧ ∃ n, w' = w.drewN n := by
  refine (brazierref13_Size.calls 2 c _ w (ref_size 0 c)).mono ?_
  rintro e w' ⟨rfl, n, h⟩
  exact ⟨by rw [hk], n, h⟩

set_option maxHeartbeats 800000 in
set_option maxRecDepth 20000 in
theorem rread_short (b off n c i x k s : Nat) (w : World) (hx : x ≤ 40) (hk : opk x = k) (hs : sizeK k = s) (hi : i < n) (hin : n < i + s) (hnm : n ≤ 1000000) (hs3 : s ≤ 3)
    (hc : w.cell? ⟨b, off + i, none⟩ = some (.int .u8 x)) :
    Calls Tryd.prog 14 #[.slice (some ⟨b, off, none⟩) n c, .int .i64 i] w fun e w' => e = .returned (Rd.val ⟨0, 0, 0, 0, 6⟩) ∧ Below w.heap.size w w' := by
  have hbl : b < w.heap.size := block_lt_of_cell hc
  have t1 : ((i : Int) == n) = false := by simp; omega
  have HS : ∀ W, Calls Tryd.prog 46 #[.int .i64 x] W fun e w' => e = .returned (.int .i64 s) ∧ ∃ n, w' = W.drewN n := fun W => by rw [← hs]; exact size_ops k x hk W
  have HS := Lib.hid HS
  have t2 : decide ((i : Int) < 0) = false := by simp
  have t3 : decide (n < i) = false := by simp; omega
  have t4 : decide (n < i + s) = true := by simp; omega
  clear hk hs
  go_enter Tryd.func14, Tryd.ntmps14
  go_wp2_with (first | (go_at_call 46; refine (HS.out _).mono ?_; rintro e w1 ⟨rfl, q, rfl⟩) | fail)
  refine bodyPost_ret (v := Rd.val ⟨0, 0, 0, 0, 6⟩) (by simp [Rd.val, results, Tryd.results14, go_sem]) rfl ⟨rfl, ?_⟩
  repeat (first | (with_reducible exact Below.refl _ _) | (with_reducible refine below_drewN0 ?_ _) | (with_reducible refine below_setC ?_ ?_ _ trivial) | (with_reducible refine below_alC ?_ ?_ _))
  all_goals (first | (simp; done) | (simp; omega))

set_option maxHeartbeats 800000 in
set_option maxRecDepth 20000 in
theorem rread_k0 (b off n c i x : Nat) (w : World) (hx : x ≤ 40) (hk : opk x = 0) (hi : i < n) (hnm : n ≤ 1000000)
    (hc : w.cell? ⟨b, off + i, none⟩ = some (.int .u8 x)) :
    Calls Tryd.prog 14 #[.slice (some ⟨b, off, none⟩) n c, .int .i64 i] w fun e w' => e = .returned (Rd.val ⟨x, 0, 0, 1, 0⟩) ∧ Below w.heap.size w w' := by
  have hbl : b < w.heap.size := block_lt_of_cell hc
  have t1 : ((i : Int) == n) = false := by simp; omega
  have HS := Lib.hid (size_ops 0 x hk)
  have HO := Lib.hid (opB_ops 0 x hk)
  have t2 : decide ((i : Int) < 0) = false := by simp
  have t3 : decide (n < i) = false := by simp; omega
  have t4 : decide (n < i + 1) = false := by simp; omega
  clear hk
  go_enter Tryd.func14, Tryd.ntmps14
  go_wp2_with (first | (go_at_call 46; refine (HS.out _).mono ?_; rintro e w1 ⟨rfl, q, rfl⟩; simp only [sizeK]) | (go_at_call 47; refine (HO.out _).mono ?_; rintro e w1 ⟨rfl, q2, rfl⟩; simp only [opB]) | fail)
  refine bodyPost_ret (v := Rd.val ⟨x, 0, 0, 1, 0⟩) (by simp [Rd.val, results, Tryd.results14, go_sem]) rfl ⟨rfl, ?_⟩
  repeat (first | (with_reducible exact Below.refl _ _) | (with_reducible refine below_drewN0 ?_ _) | (with_reducible refine below_setC ?_ ?_ _ trivial) | (with_reducible refine below_alC ?_ ?_ _))
  all_goals (first | (simp; done) | (simp; omega))
set_option maxHeartbeats 800000 in
set_option maxRecDepth 20000 in
theorem rread_k1 (b off n c i x : Nat) (y : Int) (by0 : 0 ≤ y) (by1 : y ≤ 255) (w : World) (hx : x ≤ 40) (hk : opk x = 1) (hi : i + 1 < n) (hnm : n ≤ 1000000)
    (hc : w.cell? ⟨b, off + i, none⟩ = some (.int .u8 x)) (hc1 : w.cell? ⟨b, off + (i + 1), none⟩ = some (.int .u8 y)) :
    Calls Tryd.prog 14 #[.slice (some ⟨b, off, none⟩) n c, .int .i64 i] w fun e w' => e = .returned (Rd.val ⟨x, y, 0, 2, 0⟩) ∧ Below w.heap.size w w' := by
  have hbl : b < w.heap.size := block_lt_of_cell hc
  have t1 : ((i : Int) == n) = false := by simp; omega
  have HS := Lib.hid (size_ops 1 x hk)
  have HO := Lib.hid (opB_ops 1 x hk)
  have t2 : decide ((i : Int) < 0) = false := by simp
  have t3 : decide (n < i) = false := by simp; omega
  have t4 : decide (n < i + 2) = false := by simp; omega
  clear hk
  go_enter Tryd.func14, Tryd.ntmps14
  go_wp2_with (first | (go_at_call 46; refine (HS.out _).mono ?_; rintro e w1 ⟨rfl, q, rfl⟩; simp only [sizeK]) | (go_at_call 47; refine (HO.out _).mono ?_; rintro e w1 ⟨rfl, q2, rfl⟩; simp only [opB]) | fail)
  refine bodyPost_ret (v := Rd.val ⟨x, y, 0, 2, 0⟩) (by simp [Rd.val, results, Tryd.results14, go_sem]) rfl ⟨rfl, ?_⟩
  repeat (first | (with_reducible exact Below.refl _ _) | (with_reducible refine below_drewN0 ?_ _) | (with_reducible refine below_setC ?_ ?_ _ trivial) | (with_reducible refine below_alC ?_ ?_ _))
  all_goals (first | (simp; done) | (simp; omega))
set_option maxHeartbeats 800000 in
set_option maxRecDepth 20000 in
theorem rread_k2 (b off n c i x : Nat) (y : Int) (by0 : 0 ≤ y) (by1 : y ≤ 255) (w : World) (hx : x ≤ 40) (hk : opk x = 2) (hi : i + 1 < n) (hnm : n ≤ 1000000)
    (hc : w.cell? ⟨b, off + i, none⟩ = some (.int .u8 x)) (hc1 : w.cell? ⟨b, off + (i + 1), none⟩ = some (.int .u8 y)) :
    Calls Tryd.prog 14 #[.slice (some ⟨b, off, none⟩) n c, .int .i64 i] w fun e w' => e = .returned (Rd.val ⟨x, s8 y, 0, 2, 0⟩) ∧ Below w.heap.size w w' := by
  have hbl : b < w.heap.size := block_lt_of_cell hc
  have t1 : ((i : Int) == n) = false := by simp; omega
  have HS := Lib.hid (size_ops 2 x hk)
  have HO := Lib.hid (opB_ops 2 x hk)
  have t2 : decide ((i : Int) < 0) = false := by simp
  have t3 : decide (n < i) = false := by simp; omega
  have t4 : decide (n < i + 2) = false := by simp; omega
  clear hk
  go_enter Tryd.func14, Tryd.ntmps14
  go_wp2_with (first | (go_at_call 46; refine (HS.out _).mono ?_; rintro e w1 ⟨rfl, q, rfl⟩; simp only [sizeK]) | (go_at_call 47; refine (HO.out _).mono ?_; rintro e w1 ⟨rfl, q2, rfl⟩; simp only [opB]) | fail)
  have e1 : wrap64 (IntKind.i8.wrap y) = s8 y := wrap_s8 y by0 by1
  refine bodyPost_ret (v := Rd.val ⟨x, s8 y, 0, 2, 0⟩) (by simp [Rd.val, results, Tryd.results14, go_sem, e1]) rfl ⟨rfl, ?_⟩
  repeat (first | (with_reducible exact Below.refl _ _) | (with_reducible refine below_drewN0 ?_ _) | (with_reducible refine below_setC ?_ ?_ _ trivial) | (with_reducible refine below_alC ?_ ?_ _))
  all_goals (first | (simp; done) | (simp; omega))
set_option maxHeartbeats 800000 in
set_option maxRecDepth 20000 in
theorem rread_k3 (b off n c i x : Nat) (y z : Int) (by0 : 0 ≤ y) (by1 : y ≤ 255) (bz0 : 0 ≤ z) (bz1 : z ≤ 255) (w : World) (hx : x ≤ 40) (hk : opk x = 3) (hi : i + 2 < n) (hnm : n ≤ 1000000)
    (hc : w.cell? ⟨b, off + i, none⟩ = some (.int .u8 x)) (hc1 : w.cell? ⟨b, off + (i + 1), none⟩ = some (.int .u8 y)) (hc2 : w.cell? ⟨b, off + (i + 2), none⟩ = some (.int .u8 z)) :
    Calls Tryd.prog 14 #[.slice (some ⟨b, off, none⟩) n c, .int .i64 i] w fun e w' => e = .returned (Rd.val ⟨x, s16 y z, 0, 3, 0⟩) ∧ Below w.heap.size w w' := by
  have hbl : b < w.heap.size := block_lt_of_cell hc
  have t1 : ((i : Int) == n) = false := by simp; omega
  have HS := Lib.hid (size_ops 3 x hk)
  have HO := Lib.hid (opB_ops 3 x hk)
  have t2 : decide ((i : Int) < 0) = false := by simp
  have t3 : decide (n < i) = false := by simp; omega
  have t4 : decide (n < i + 3) = false := by simp; omega
  clear hk
  go_enter Tryd.func14, Tryd.ntmps14
  go_wp2_with (first | (go_at_call 46; refine (HS.out _).mono ?_; rintro e w1 ⟨rfl, q, rfl⟩; simp only [sizeK]) | (go_at_call 47; refine (HO.out _).mono ?_; rintro e w1 ⟨rfl, q2, rfl⟩; simp only [opB]) | fail)
  go_region
  go_wp2_with fail
  have e1 : wrap64 (IntKind.i16.wrap (bits .or .u16 y (z * 256))) = s16 y z := wrap_s16 y z by0 by1 bz0 bz1
  refine bodyPost_ret (v := Rd.val ⟨x, s16 y z, 0, 3, 0⟩) (by simp [Rd.val, results, Tryd.results14, go_sem, e1]) rfl ⟨rfl, ?_⟩
  repeat (first | (with_reducible exact Below.refl _ _) | (with_reducible refine below_drewN0 ?_ _) | (with_reducible refine below_setC ?_ ?_ _ trivial) | (with_reducible refine below_alC ?_ ?_ _))
  all_goals (first | (simp; done) | (simp; omega))
set_option maxHeartbeats 800000 in
set_option maxRecDepth 20000 in
theorem rread_k4 (b off n c i x : Nat) (y z : Int) (by0 : 0 ≤ y) (by1 : y ≤ 255) (bz0 : 0 ≤ z) (bz1 : z ≤ 255) (w : World) (hx : x ≤ 40) (hk : opk x = 4) (hi : i + 2 < n) (hnm : n ≤ 1000000)
    (hc : w.cell? ⟨b, off + i, none⟩ = some (.int .u8 x)) (hc1 : w.cell? ⟨b, off + (i + 1), none⟩ = some (.int .u8 y)) (hc2 : w.cell? ⟨b, off + (i + 2), none⟩ = some (.int .u8 z)) :
    Calls Tryd.prog 14 #[.slice (some ⟨b, off, none⟩) n c, .int .i64 i] w fun e w' => e = .returned (Rd.val ⟨x, y, z, 3, 0⟩) ∧ Below w.heap.size w w' := by
  have hbl : b < w.heap.size := block_lt_of_cell hc
  have t1 : ((i : Int) == n) = false := by simp; omega
  have HS := Lib.hid (size_ops 4 x hk)
  have HO := Lib.hid (opB_ops 4 x hk)
  have t2 : decide ((i : Int) < 0) = false := by simp
  have t3 : decide (n < i) = false := by simp; omega
  have t4 : decide (n < i + 3) = false := by simp; omega
  clear hk
  go_enter Tryd.func14, Tryd.ntmps14
  go_wp2_with (first | (go_at_call 46; refine (HS.out _).mono ?_; rintro e w1 ⟨rfl, q, rfl⟩; simp only [sizeK]) | (go_at_call 47; refine (HO.out _).mono ?_; rintro e w1 ⟨rfl, q2, rfl⟩; simp only [opB]) | fail)
  refine bodyPost_ret (v := Rd.val ⟨x, y, z, 3, 0⟩) (by simp [Rd.val, results, Tryd.results14, go_sem]) rfl ⟨rfl, ?_⟩
  repeat (first | (with_reducible exact Below.refl _ _) | (with_reducible refine below_drewN0 ?_ _) | (with_reducible refine below_setC ?_ ?_ _ trivial) | (with_reducible refine below_alC ?_ ?_ _))
  all_goals (first | (simp; done) | (simp; omega))

theorem rread_core (A : Option Addr) (c : Nat) (l : List Int) (at' : Int) (w : World) (hl : l.length ≤ 1000000) (hby : ∀ x ∈ l, 0 ≤ x ∧ x ≤ 255)
    (hcl : l ≠ [] → ∃ b off, A = some ⟨b, off, none⟩ ∧ ∀ j, j < l.length → w.cell? ⟨b, off + j, none⟩ = some (.int .u8 (l.getD j 0))) :
    Calls Tryd.prog 14 #[.slice A l.length c, .int .i64 at'] w fun e w' => e = .returned (readS l at').val ∧ Below w.heap.size w w' := by
  unfold readS
  by_cases h1 : at' < 0 ∨ (l.length : Int) < at'
  · rw [if_pos h1]
    exact rread_arg A _ c at' w h1
  · rw [if_neg h1]
    by_cases h2 : at' = l.length
    · rw [if_pos h2, h2]
      exact rread_end A _ c w
    · rw [if_neg h2]
      obtain ⟨i, rfl⟩ := Int.eq_ofNat_of_zero_le (show 0 ≤ at' by omega)
      have hi : i < l.length := by omega
      obtain ⟨b, off, rfl, hc⟩ := hcl (by intro h; rw [h] at hi; simp at hi)
      have hcell := hc i hi
      have hxb := bytes_at hby i hi
      rw [Int.toNat_natCast]
      unfold readAt
      obtain ⟨x, hx⟩ := Int.eq_ofNat_of_zero_le hxb.1
      rw [hx] at hcell hxb ⊢
      by_cases h40 : (40 : Int) < x
      · rw [if_pos h40]
        exact rread_form b off _ c i x w hi h40 hxb.2 hcell
      · rw [if_neg h40]
        have hx40 : x ≤ 40 := by omega
        rcases opk_le x with hk | hk | hk | hk | hk <;> rw [hk] <;> simp only [readK]
        · exact rread_k0 b off _ c i x w hx40 hk hi hl hcell
        · by_cases h : i + 1 < l.length
          · rw [if_pos h]
            exact rread_k1 b off _ c i x _ (bytes_at hby _ h).1 (bytes_at hby _ h).2 w hx40 hk h hl hcell (hc _ h)
          · rw [if_neg h]
            exact rread_short b off _ c i x 1 2 w hx40 hk rfl hi (by omega) hl (by omega) hcell
        · by_cases h : i + 1 < l.length
          · rw [if_pos h]
            exact rread_k2 b off _ c i x _ (bytes_at hby _ h).1 (bytes_at hby _ h).2 w hx40 hk h hl hcell (hc _ h)
          · rw [if_neg h]
            exact rread_short b off _ c i x 2 2 w hx40 hk rfl hi (by omega) hl (by omega) hcell
        · by_cases h : i + 2 < l.length
          · rw [if_pos h]
            exact rread_k3 b off _ c i x _ _ (bytes_at hby _ (by omega)).1 (bytes_at hby _ (by omega)).2 (bytes_at hby _ h).1 (bytes_at hby _ h).2 w hx40 hk h hl hcell (hc _ (by omega)) (hc _ h)
          · rw [if_neg h]
            exact rread_short b off _ c i x 3 3 w hx40 hk rfl hi (by omega) hl (by omega) hcell
        · by_cases h : i + 2 < l.length
          · rw [if_pos h]
            exact rread_k4 b off _ c i x _ _ (bytes_at hby _ (by omega)).1 (bytes_at hby _ (by omega)).2 (bytes_at hby _ h).1 (bytes_at hby _ h).2 w hx40 hk h hl hcell (hc _ (by omega)) (hc _ h)
          · rw [if_neg h]
            exact rread_short b off _ c i x 4 3 w hx40 hk rfl hi (by omega) hl (by omega) hcell

/-- Bytes that a play may have. -/
structure GoodB (l : List Int) : Prop where
  len : l.length ≤ 1000000
  by' : ∀ x ∈ l, 0 ≤ x ∧ x ≤ 255
theorem cell_spot {w : World} {a : Addr} {n : Int} {k : IntKind} (h : w.cell? a = some (.int k n)) : a.spot = none := by
  unfold World.cell? at h
  split at h
  · split at h
    · simp at h
    · rename_i hs; simpa using hs
  · simp at h
theorem addr_add (b off j : Nat) : (⟨b, off, none⟩ : Addr).add j = ⟨b, off + j, none⟩ := by unfold Addr.add; split <;> simp_all
theorem bytC {w : World} {A : Option Addr} {c : Nat} {l : List Int} (h : Byt w (.slice A l.length c) l) : (Kd.int .u8).C w A l.length l := by
  obtain ⟨A', c', e, h1, h2, h3, h4⟩ := h
  cases e
  refine ⟨rfl, by omega, fun hp => ?_⟩
  obtain ⟨b, off, rfl, hc⟩ := h4 (by intro e; rw [e] at hp; simp at hp)
  refine ⟨_, rfl, fun j p hj => ⟨[.int .u8 p], rfl, rfl, fun i u hu => ?_⟩⟩
  have hjl : j < l.length := (List.getElem?_eq_some_iff.1 hj).1
  have := hc j hjl
  rw [List.getD_eq_getElem?_getD, hj] at this
  cases i with
  | zero =>
    simp at hu
    subst hu
    show w.cell? (Addr.add ⟨b, off, none⟩ (j * 1 + 0)) = _
    rw [show j * 1 + 0 = j by omega, addr_add]
    exact this
  | succ i => simp at hu
theorem C_cells {w : World} {A : Option Addr} {l : List Int} (h : (Kd.int .u8).C w A l.length l) :
    l ≠ [] → ∃ b off, A = some ⟨b, off, none⟩ ∧ ∀ j, j < l.length → w.cell? ⟨b, off + j, none⟩ = some (.int .u8 (l.getD j 0)) := by
  intro hne
  have hpos : 0 < l.length := by cases l with | nil => exact absurd rfl hne | cons => simp
  obtain ⟨ad, e, h0⟩ := Kd.at_int h 0 (by omega) (by omega)
  subst e
  have hs : (ad.add (0 : Int).toNat).spot = none := cell_spot h0
  obtain ⟨b, off, spot⟩ := ad
  have hsp : spot = none := by
    cases spot with
    | none => rfl
    | some s => simp [Addr.add] at hs
  subst hsp
  refine ⟨b, off, rfl, fun j hj => ?_⟩
  obtain ⟨ad, e, h1⟩ := Kd.at_int h j (by omega) (by omega)
  cases e
  rw [addr_add, Int.toNat_natCast] at h1
  rw [h1]
  simp only [rd, Int.toNat_natCast]
theorem rread_calls (v : Value) (l : List Int) (at' : Int) (w : World) (hb : Byt w v l) (hl : l.length ≤ 1000000) :
    Calls Tryd.prog 14 #[v, .int .i64 at'] w fun e w' => e = .returned (readS l at').val ∧ Below w.heap.size w w' := by
  obtain ⟨A, c, rfl, hnc, hcm, hby, hcl⟩ := hb
  exact rread_core A c l at' w hl hby hcl
end Go.Proofs.YtkphijabhoppnaaDoor
