/- A line of a text of bytecodes (brazier/code.line). -/
import Derived.Test.YtkphijabhoppnaaDoorSf
import Derived.Test.YtkphijabhoppnaaDoorCo
import Derived.Lib.Builder
namespace Go.Proofs.YtkphijabhoppnaaDoor
open Go.RowKit Go.Proofs.YtkphijabhoppnaaDoorW.PrintWords
set_option linter.unusedSimpArgs false
set_option linter.unusedVariables false

/-- The bytes of a bytecode that is so named, with these operands. -/
def argsS (c : Nat) : List (List UInt8) → Option (List Int)
  | [] => if opk c = 0 then (if (writeS c 0 0).2 = 0 then some (writeS c 0 0).1 else none) else none
  | [a] => if opk c = 1 ∨ opk c = 2 ∨ opk c = 3 then (match numP a with | some x => (if (writeS c x 0).2 = 0 then some (writeS c x 0).1 else none) | none => none) else none
  | [a, b] => if opk c = 4 then (match numP a, numP b with | some x, some y => (if (writeS c x y).2 = 0 then some (writeS c x y).1 else none) | _, _ => none) else none
  | _ => none
def lineS : List (List UInt8) → Option (List Int)
  | [] => none
  | f :: r => match kindTo f 41 with | some c => argsS c r | none => none

def LinePost (w : World) (o : Option (List Int)) (e : Ending) (w' : World) : Prop :=
  ∃ v', e = .returned (.tuple #[v', .bool o.isSome]) ∧ (∀ bs, o = some bs → w'.ownsRow w.heap.size 5 1 v' bs.length (nums .u8 bs)) ∧ Below w.heap.size w w'

/-- The words, in memory. -/
def Words (w : World) (A n : Nat) (fs : List ByteArray) : Prop := n = fs.length ∧ A < w.heap.size ∧ ∀ j s, fs[j]? = some s → w.cell? ⟨A, j, none⟩ = some (.string s)
theorem Words.below {w w' : World} {A n : Nat} {fs : List ByteArray} (h : Words w A n fs) (hb : Below w.heap.size w w') : Words w' A n fs :=
  ⟨h.1, Nat.lt_of_lt_of_le h.2.1 hb.size, fun j s hj => cell_be hb (h.2.2 j s hj)⟩

theorem kindTo_lt (s : List UInt8) : ∀ n c, kindTo s n = some c → c < n
  | 0, c, h => by cases h
  | n + 1, c, h => by
    rw [kindTo] at h
    split at h
    · cases h; omega
    · have := kindTo_lt s n c h; omega
theorem kind_some (s : ByteArray) (c : Nat) (h : kindTo s.data.toList 41 = some c) (hs : s.size ≤ 1000000) (W : World) (hG : Glob W) :
    Calls Tryd.prog 23 #[.string s] W fun e w' => e = .returned (.tuple #[.int .i64 c, .bool true]) ∧ Below W.heap.size W w' := by
  have := kind_calls s W (by unfold maxLen; omega) hG
  unfold KindPost kindS at this
  rw [h] at this
  exact this
theorem kind_none (s : ByteArray) (h : kindTo s.data.toList 41 = none) (hs : s.size ≤ 1000000) (W : World) (hG : Glob W) :
    Calls Tryd.prog 23 #[.string s] W fun e w' => e = .returned (.tuple #[.int .i64 0, .bool false]) ∧ Below W.heap.size W w' := by
  have := kind_calls s W (by unfold maxLen; omega) hG
  unfold KindPost kindS at this
  rw [h] at this
  exact this
theorem parts_n (c k : Nat) (h1 : c ≤ 40) (hk : opk c = k) (w : World) (hG : Glob w) :
    Calls Tryd.prog 44 #[.int .i64 c] w fun e w' => ∃ b off cap, e = .returned (.tuple #[.string ⟨(nmC c).toArray⟩, .slice (some ⟨b, off, none⟩) (ksK k).length cap]) ∧ Below w.heap.size w w' := by
  refine (parts_k c k h1 hk w hG).mono ?_
  rintro e w' ⟨hb, b, off, cap, _, rfl, _⟩
  exact ⟨b, off, cap, rfl, hb⟩

theorem setCell_row2 {W : World} {g : Nat} {x y : Value} {q : TypeId} {fr : Nat × Nat} (h : W.heap[g]? = some (Obj.cells #[x, y] q fr)) (v : Value) :
    (W.setCell ⟨g, 0, none⟩ v).heap[g]? = some (Obj.cells #[v, y] q fr) := by
  obtain ⟨hlt, hk⟩ := Array.getElem?_eq_some_iff.1 h
  show (W.heap.modify g _)[g]? = _
  rw [Array.getElem?_eq_getElem (by rw [Array.size_modify]; exact hlt), Array.getElem_modify_self, hk]
  rfl
set_option maxRecDepth 100000 in
theorem line_none (A n : Nat) (s : ByteArray) (r : List ByteArray) (w : World) (hW : Words w A n (s :: r)) (hc : kindTo s.data.toList 41 = none) (hG : GlobP w) (hs : s.size ≤ 1000000) :
    Calls Tryd.prog 64 #[.slice (some ⟨A, 0, none⟩) n n] w (LinePost w none) := by
  have hn : 0 < n := by rw [hW.1]; simp
  have h0 := hW.2.2 0 s rfl
  have HK := Lib.hid (fun W h => kind_none s hc hs W h)
  have HP := Lib.hid (fun W h => parts_n 0 0 (by omega) rfl W h)
  have HG := Lib.hid hG
  have HW := Lib.hid hW
  clear hG hW hc
  go_enter Tryd.func64, Tryd.ntmps64
  go_wp2_with (first | (go_at_call 23; refine (HK.out _ HG.out.g).mono ?_; rintro e w1 ⟨rfl, hb1⟩) | (go_at_call 44; refine (HP.out _ (HG.out.below hb1).g).mono ?_; rintro e w2 ⟨b, off, cap, rfl, hb2⟩) | fail)
  go_ret2
  exact ⟨_, rfl, (fun bs h => by cases h), hb1.trans (hb2.mono hb1.size)⟩

set_option maxRecDepth 100000 in
theorem line_mis (A n c : Nat) (s : ByteArray) (r : List ByteArray) (w : World) (hW : Words w A n (s :: r)) (hc : kindTo s.data.toList 41 = some c) (hm : n ≠ (ksK (opk c)).length + 1) (hnb : n ≤ 1000000) (hG : GlobP w) (hs : s.size ≤ 1000000) :
    Calls Tryd.prog 64 #[.slice (some ⟨A, 0, none⟩) n n] w (LinePost w none) := by
  have hn : 0 < n := by rw [hW.1]; simp
  have h0 := hW.2.2 0 s rfl
  have hc40 := kindTo_lt _ _ _ hc
  obtain ⟨k, hk⟩ : ∃ k, opk c = k := ⟨_, rfl⟩
  obtain ⟨m, hkm⟩ : ∃ m, (ksK k).length = m := ⟨_, rfl⟩
  rw [hk, hkm] at hm
  have HK := Lib.hid (fun W h => kind_some s c hc hs W h)
  have HP : Hid (∀ W, Glob W → Calls Tryd.prog 44 #[.int .i64 c] W fun e w' => ∃ b off cap, e = .returned (.tuple #[.string ⟨(nmC c).toArray⟩, .slice (some ⟨b, off, none⟩) m cap]) ∧ Below W.heap.size W w') := Lib.hid (fun W h => by have := parts_n c k (by omega) hk W h; rw [hkm] at this; exact this)
  have HG := Lib.hid hG
  have HW := Lib.hid hW
  have hne : ((n : Int) - 1 != (m : Int)) = true := by rw [bne_iff_ne]; omega
  have hne2 : ¬ ((n : Int) - 1 = (m : Int)) := by omega
  clear hG hW hc hk hkm hm
  go_enter Tryd.func64, Tryd.ntmps64
  go_wp2_with (first | (go_at_call 23; refine (HK.out _ HG.out.g).mono ?_; rintro e w1 ⟨rfl, hb1⟩) | (go_at_call 44; refine (HP.out _ (HG.out.below hb1).g).mono ?_; rintro e w2 ⟨b, off, cap, rfl, hb2⟩) | fail)
  go_ret2
  exact ⟨_, rfl, (fun bs h => by cases h), hb1.trans (hb2.mono hb1.size)⟩

theorem wr_calls (c a b : Int) (o : Option (List Int)) (ho : (if (writeS c a b).2 = 0 then some (writeS c a b).1 else none) = o) (W : World) (hG : Glob W) :
    Calls Tryd.prog 21 #[.agg #[.int .i64 c, .int .i64 a, .int .i64 b, .int .i64 0]] W fun e w' => ∃ v' x, e = .returned (.tuple #[v', .int .i64 x]) ∧ (x == 0) = o.isSome ∧ (∀ bs, o = some bs → w'.ownsRow W.heap.size 5 1 v' bs.length (nums .u8 bs)) ∧ Below W.heap.size W w' := by
  refine (write_calls c a b 0 W hG).mono ?_
  rintro e w' ⟨v, rfl, hr, hb⟩
  refine ⟨v, _, rfl, ?_, ?_, hb⟩
  · rw [← ho]
    by_cases h : (writeS c a b).2 = 0
    · rw [if_pos h, h]; rfl
    · rw [if_neg h]; simpa using h
  · intro bs h
    rw [← ho] at h
    split at h
    · cases h; exact hr
    · cases h

set_option maxRecDepth 100000 in
set_option maxHeartbeats 800000 in
theorem line_m0 (A c : Nat) (s : ByteArray) (w : World) (hW : Words w A 1 [s]) (hc : kindTo s.data.toList 41 = some c) (hk : opk c = 0) (hG : GlobP w) (hs : s.size ≤ 1000000) :
    Calls Tryd.prog 64 #[.slice (some ⟨A, 0, none⟩) 1 1] w (LinePost w (argsS c [])) := by
  have h0 := hW.2.2 0 s rfl
  have hc40 := kindTo_lt _ _ _ hc
  obtain ⟨o, ho⟩ : ∃ o, argsS c [] = o := ⟨_, rfl⟩
  have ho2 : (if (writeS c 0 0).2 = 0 then some (writeS c 0 0).1 else none) = o := by rw [← ho, argsS, if_pos hk]
  rw [ho]
  have HK := Lib.hid (fun W h => kind_some s c hc hs W h)
  have HP : Hid (∀ W, Glob W → Calls Tryd.prog 44 #[.int .i64 c] W fun e w' => ∃ b off cap, e = .returned (.tuple #[.string ⟨(nmC c).toArray⟩, .slice (some ⟨b, off, none⟩) 0 cap]) ∧ Below W.heap.size W w') := Lib.hid (fun W h => parts_n c 0 (by omega) hk W h)
  have HR := Lib.hid (fun W h => wr_calls c 0 0 o ho2 W h)
  have HG := Lib.hid hG
  clear hG hW hc hk ho ho2
  go_enter Tryd.func64, Tryd.ntmps64
  go_wp2_with (first | (go_at_call 23; refine (HK.out _ HG.out.g).mono ?_; rintro e w1 ⟨rfl, hb1⟩) | (go_at_call 44; refine (HP.out _ (HG.out.below hb1).g).mono ?_; rintro e w2 ⟨b, off, cap, rfl, hb2⟩; have HB2 := Lib.hid (hb1.trans (hb2.mono hb1.size)); clear hb1 hb2) | fail)
  refine wp_loop_rounds 1 ?_
  rw [rounds_succ]
  go_wp2_with (first | (go_at_call 21; refine (HR.out _ (HG.out.below (HB2.out.alloc HB2.out.size _)).g).mono ?_; rintro e w3 ⟨v3, x, rfl, hx, hown, hb3⟩) | fail)
  go_ret2
  have hsz := HB2.out.size
  refine ⟨v3, ?_, fun bs h => row_base (hown bs h) (by simp; omega), (HB2.out.alloc HB2.out.size _).trans (hb3.mono (by simp; omega))⟩
  rw [← hx]
  rfl

set_option maxRecDepth 100000 in
set_option maxHeartbeats 800000 in
theorem line_m1 (A c k : Nat) (s a : ByteArray) (w : World) (hW : Words w A 2 [s, a]) (hc : kindTo s.data.toList 41 = some c) (hk : opk c = k) (hk3 : k = 1 ∨ k = 2 ∨ k = 3) (hG : GlobP w) (hs : s.size ≤ 1000000) (hsa : a.size ≤ 1000000) :
    Calls Tryd.prog 64 #[.slice (some ⟨A, 0, none⟩) 2 2] w (LinePost w (argsS c [a.data.toList])) := by
  have h0 := hW.2.2 0 s rfl
  have h1 := hW.2.2 1 a rfl
  have hA := hW.2.1
  have hc40 := kindTo_lt _ _ _ hc
  have hm : (ksK k).length = 1 := by rcases hk3 with rfl | rfl | rfl <;> rfl
  have HK := Lib.hid (fun W h => kind_some s c hc hs W h)
  have HP : Hid (∀ W, Glob W → Calls Tryd.prog 44 #[.int .i64 c] W fun e w' => ∃ b off cap, e = .returned (.tuple #[.string ⟨(nmC c).toArray⟩, .slice (some ⟨b, off, none⟩) 1 cap]) ∧ Below W.heap.size W w') := Lib.hid (fun W h => by have := parts_n c k (by omega) hk W h; rw [hm] at this; exact this)
  have HG := Lib.hid hG
  have harg : argsS c [a.data.toList] = (match numP a.data.toList with | some x => (if (writeS c x 0).2 = 0 then some (writeS c x 0).1 else none) | none => none) := by
    rw [argsS, if_pos (by rw [hk]; exact hk3)]
  rw [harg]
  have HN := Lib.hid (fun W h => number_calls a W hsa h)
  cases hnp : numP a.data.toList with
  | none =>
    have HN2 : Hid (∀ W, GlobP W → Calls Tryd.prog 114 #[.string a] W fun e w' => ∃ n, e = .returned (.tuple #[.int .i64 n, .bool false]) ∧ Below W.heap.size W w') := Lib.hid (fun W h => (HN.out W h).mono (by rintro e w' ⟨n, rfl, _, hb⟩; rw [hnp]; exact ⟨n, rfl, hb⟩))
    clear hG hW hc hk hm hk3 harg hnp HN
    go_enter Tryd.func64, Tryd.ntmps64
    go_wp2_with (first | (go_at_call 23; refine (HK.out _ HG.out.g).mono ?_; rintro e w1 ⟨rfl, hb1⟩) | (go_at_call 44; refine (HP.out _ (HG.out.below hb1).g).mono ?_; rintro e w2 ⟨b, off, cap, rfl, hb2⟩; have hbb := hb1.trans (hb2.mono hb1.size); have c1 := cell_be hbb h1; have hA2 : A < w2.heap.size := block_lt_of_cell c1; have hz2 := hbb.size; have HB2 := Lib.hid hbb; clear hb1 hb2 hbb) | fail)
    refine wp_loop_rounds 2 ?_
    rw [rounds_succ]
    go_wp2_with (first | (go_at_call 114; refine (HN2.out _ (HG.out.below (HB2.out.alloc HB2.out.size _))).mono ?_; rintro e w3 ⟨n, rfl, hb3⟩) | fail)
    go_ret2
    exact ⟨_, rfl, (fun bs h => by cases h), (HB2.out.alloc HB2.out.size _).trans (hb3.mono (by have := HB2.out.size; simp; omega))⟩
  | some x =>
    obtain ⟨o, ho⟩ : ∃ o, (if (writeS c x 0).2 = 0 then some (writeS c x 0).1 else none) = o := ⟨_, rfl⟩
    have HR := Lib.hid (fun W h => wr_calls c x 0 o ho W h)
    have HN2 : Hid (∀ W, GlobP W → Calls Tryd.prog 114 #[.string a] W fun e w' => e = .returned (.tuple #[.int .i64 x, .bool true]) ∧ Below W.heap.size W w') := Lib.hid (fun W h => (HN.out W h).mono (by rintro e w' ⟨n, rfl, hv, hb⟩; rw [hnp]; exact ⟨by rw [hv x hnp]; rfl, hb⟩))
    show Calls _ _ _ _ (LinePost w (if (writeS c x 0).2 = 0 then some (writeS c x 0).1 else none))
    rw [ho]
    clear hG hW hc hk hm hk3 harg hnp HN ho
    go_enter Tryd.func64, Tryd.ntmps64
    go_wp2_with (first | (go_at_call 23; refine (HK.out _ HG.out.g).mono ?_; rintro e w1 ⟨rfl, hb1⟩) | (go_at_call 44; refine (HP.out _ (HG.out.below hb1).g).mono ?_; rintro e w2 ⟨b, off, cap, rfl, hb2⟩; have hbb := hb1.trans (hb2.mono hb1.size); have c1 := cell_be hbb h1; have hA2 : A < w2.heap.size := block_lt_of_cell c1; have hz2 := hbb.size; have HB2 := Lib.hid hbb; clear hb1 hb2 hbb) | fail)
    refine wp_loop_rounds 2 ?_
    rw [rounds_succ]
    go_wp2_with (first | (go_at_call 114; refine (HN2.out _ (HG.out.below (HB2.out.alloc HB2.out.size _))).mono ?_; rintro e w3 ⟨rfl, hb3⟩; have hrow := row_kept hb3 (heap_alloc_new w2 _); have c30 := (cell_of_row _ _ 0 _ _ _ hrow).trans rfl; have c31 := (cell_of_row _ _ 1 _ _ _ hrow).trans rfl; have f30 := Lib.frozen_of_heap hrow 0; have f31 := Lib.frozen_of_heap hrow 1; have hz3 := hb3.size; have HB3 := Lib.hid ((HB2.out.alloc HB2.out.size (.cells #[.int .i64 0, .int .i64 0] 103)).trans (hb3.mono (by have := HB2.out.size; simp; omega))); clear hb3 hrow) | fail)
    rw [rounds_succ]
    have hset : Below w.heap.size w (w3.setCell ⟨w2.heap.size, 0, none⟩ (.int .i64 x)) := HB3.out.setCell (p := ⟨w2.heap.size, 0, none⟩) HB2.out.size _
    have HS := Lib.hid hset
    clear hset
    go_wp2_with (first | (go_at_call 21; refine (HR.out _ (HG.out.below HS.out).g).mono ?_; rintro e w4 ⟨v4, y, rfl, hy, hown, hb4⟩) | fail)
    go_ret2
    refine ⟨v4, ?_, fun bs h => row_base (hown bs h) HS.out.size, HS.out.trans (hb4.mono HS.out.size)⟩
    rw [← hy]
    rfl

set_option maxRecDepth 100000 in
set_option maxHeartbeats 1600000 in
theorem line_m2 (A c : Nat) (s a d : ByteArray) (w : World) (hW : Words w A 3 [s, a, d]) (hc : kindTo s.data.toList 41 = some c) (hk : opk c = 4) (hG : GlobP w) (hs : s.size ≤ 1000000) (hsa : a.size ≤ 1000000) (hsd : d.size ≤ 1000000) :
    Calls Tryd.prog 64 #[.slice (some ⟨A, 0, none⟩) 3 3] w (LinePost w (argsS c [a.data.toList, d.data.toList])) := by
  have h0 := hW.2.2 0 s rfl
  have h1 := hW.2.2 1 a rfl
  have h2 := hW.2.2 2 d rfl
  have hA := hW.2.1
  have hc40 := kindTo_lt _ _ _ hc
  have HK := Lib.hid (fun W h => kind_some s c hc hs W h)
  have HP : Hid (∀ W, Glob W → Calls Tryd.prog 44 #[.int .i64 c] W fun e w' => ∃ b off cap, e = .returned (.tuple #[.string ⟨(nmC c).toArray⟩, .slice (some ⟨b, off, none⟩) 2 cap]) ∧ Below W.heap.size W w') := Lib.hid (fun W h => parts_n c 4 (by omega) hk W h)
  have HG := Lib.hid hG
  have HN := Lib.hid (fun W h => number_calls a W hsa h)
  have HM := Lib.hid (fun W h => number_calls d W hsd h)
  have bad : ∀ z : ByteArray, z.size ≤ 1000000 → numP z.data.toList = none → ∀ W, GlobP W → Calls Tryd.prog 114 #[.string z] W fun e w' => ∃ n, e = .returned (.tuple #[.int .i64 n, .bool false]) ∧ Below W.heap.size W w' := fun z hz hn W h => (number_calls z W hz h).mono (by rintro e w' ⟨n, rfl, _, hb⟩; rw [hn]; exact ⟨n, rfl, hb⟩)
  have good : ∀ (z : ByteArray) (x : Int), z.size ≤ 1000000 → numP z.data.toList = some x → ∀ W, GlobP W → Calls Tryd.prog 114 #[.string z] W fun e w' => e = .returned (.tuple #[.int .i64 x, .bool true]) ∧ Below W.heap.size W w' := fun z x hz hn W h => (number_calls z W hz h).mono (by rintro e w' ⟨n, rfl, hv, hb⟩; rw [hn]; exact ⟨by rw [hv x hn]; rfl, hb⟩)
  cases hnp : numP a.data.toList with
  | none =>
    have harg : argsS c [a.data.toList, d.data.toList] = none := by rw [argsS, if_pos hk, hnp]
    rw [harg]
    have HN2 := Lib.hid (bad a hsa hnp)
    clear hG hW hc hk harg hnp HN HM bad good
    go_enter Tryd.func64, Tryd.ntmps64
    go_wp2_with (first | (go_at_call 23; refine (HK.out _ HG.out.g).mono ?_; rintro e w1 ⟨rfl, hb1⟩) | (go_at_call 44; refine (HP.out _ (HG.out.below hb1).g).mono ?_; rintro e w2 ⟨b, off, cap, rfl, hb2⟩; have hbb := hb1.trans (hb2.mono hb1.size); have c1 := cell_be hbb h1; have hA2 : A < w2.heap.size := block_lt_of_cell c1; have hz2 := hbb.size; have HB2 := Lib.hid hbb; clear hb1 hb2 hbb) | fail)
    refine wp_loop_rounds 3 ?_
    rw [rounds_succ]
    go_wp2_with (first | (go_at_call 114; refine (HN2.out _ (HG.out.below (HB2.out.alloc HB2.out.size _))).mono ?_; rintro e w3 ⟨n, rfl, hb3⟩) | fail)
    go_ret2
    exact ⟨_, rfl, (fun bs h => by cases h), (HB2.out.alloc HB2.out.size _).trans (hb3.mono (by have := HB2.out.size; simp; omega))⟩
  | some x =>
    have HN2 := Lib.hid (good a x hsa hnp)
    obtain ⟨o, ho⟩ : ∃ o, argsS c [a.data.toList, d.data.toList] = o := ⟨_, rfl⟩
    rw [ho]
    cases hmp : numP d.data.toList with
    | none =>
      have ho2 : o = none := by rw [← ho, argsS, if_pos hk, hnp, hmp]
      subst ho2
      have HM2 := Lib.hid (bad d hsd hmp)
      clear hG hW hc hk hnp hmp HN HM bad good ho
      go_enter Tryd.func64, Tryd.ntmps64
      go_wp2_with (first | (go_at_call 23; refine (HK.out _ HG.out.g).mono ?_; rintro e w1 ⟨rfl, hb1⟩) | (go_at_call 44; refine (HP.out _ (HG.out.below hb1).g).mono ?_; rintro e w2 ⟨b, off, cap, rfl, hb2⟩; have hbb := hb1.trans (hb2.mono hb1.size); have c1 := cell_be hbb h1; have c2 := cell_be hbb h2; have hA2 : A < w2.heap.size := block_lt_of_cell c1; have hz2 := hbb.size; have HB2 := Lib.hid hbb; clear hb1 hb2 hbb) | fail)
      refine wp_loop_rounds 3 ?_
      rw [rounds_succ]
      go_wp2_with (first | (go_at_call 114; refine (HN2.out _ (HG.out.below (HB2.out.alloc HB2.out.size _))).mono ?_; rintro e w3 ⟨rfl, hb3⟩; have hrow := row_kept hb3 (heap_alloc_new w2 _); have c30 := (cell_of_row _ _ 0 _ _ _ hrow).trans rfl; have c31 := (cell_of_row _ _ 1 _ _ _ hrow).trans rfl; have f30 := Lib.frozen_of_heap hrow 0; have f31 := Lib.frozen_of_heap hrow 1; have hz3 := hb3.size; have c32 := cell_be hb3 (cell_al c2 _); have HB3 := Lib.hid ((HB2.out.alloc HB2.out.size (.cells #[.int .i64 0, .int .i64 0] 103)).trans (hb3.mono (by have := HB2.out.size; simp; omega))); clear hb3 hrow) | fail)
      rw [rounds_succ]
      have HS := Lib.hid (HB3.out.setCell (p := ⟨w2.heap.size, 0, none⟩) HB2.out.size (.int .i64 x))
      go_wp2_with (first | (go_at_call 114; refine (HM2.out _ (HG.out.below HS.out)).mono ?_; rintro e w4 ⟨n, rfl, hb4⟩) | fail)
      go_ret2
      exact ⟨_, rfl, (fun bs h => by cases h), HS.out.trans (hb4.mono HS.out.size)⟩
    | some y =>
      have ho2 : (if (writeS c x y).2 = 0 then some (writeS c x y).1 else none) = o := by rw [← ho, argsS, if_pos hk, hnp, hmp]
      have HR := Lib.hid (fun W h => wr_calls c x y o ho2 W h)
      have HM2 := Lib.hid (good d y hsd hmp)
      clear hG hW hc hk hnp hmp HN HM bad good ho ho2
      go_enter Tryd.func64, Tryd.ntmps64
      go_wp2_with (first | (go_at_call 23; refine (HK.out _ HG.out.g).mono ?_; rintro e w1 ⟨rfl, hb1⟩) | (go_at_call 44; refine (HP.out _ (HG.out.below hb1).g).mono ?_; rintro e w2 ⟨b, off, cap, rfl, hb2⟩; have hbb := hb1.trans (hb2.mono hb1.size); have c1 := cell_be hbb h1; have c2 := cell_be hbb h2; have hA2 : A < w2.heap.size := block_lt_of_cell c1; have hz2 := hbb.size; have HB2 := Lib.hid hbb; clear hb1 hb2 hbb) | fail)
      refine wp_loop_rounds 3 ?_
      rw [rounds_succ]
      go_wp2_with (first | (go_at_call 114; refine (HN2.out _ (HG.out.below (HB2.out.alloc HB2.out.size _))).mono ?_; rintro e w3 ⟨rfl, hb3⟩; have hrow := row_kept hb3 (heap_alloc_new w2 _); have c30 := (cell_of_row _ _ 0 _ _ _ hrow).trans rfl; have c31 := (cell_of_row _ _ 1 _ _ _ hrow).trans rfl; have f30 := Lib.frozen_of_heap hrow 0; have f31 := Lib.frozen_of_heap hrow 1; have hz3 := hb3.size; have c32 := cell_be hb3 (cell_al c2 _); have HW3 := Lib.hid hrow; have HB3 := Lib.hid ((HB2.out.alloc HB2.out.size (.cells #[.int .i64 0, .int .i64 0] 103)).trans (hb3.mono (by have := HB2.out.size; simp; omega))); clear hb3 hrow) | fail)
      rw [rounds_succ]
      have HS := Lib.hid (HB3.out.setCell (p := ⟨w2.heap.size, 0, none⟩) HB2.out.size (.int .i64 x))
      have HW4 := Lib.hid (setCell_row2 HW3.out (.int .i64 x))
      go_wp2_with (first | (go_at_call 114; refine (HM2.out _ (HG.out.below HS.out)).mono ?_; rintro e w4 ⟨rfl, hb4⟩; have hrow := row_kept hb4 HW4.out; have c40 := (cell_of_row _ _ 0 _ _ _ hrow).trans rfl; have c41 := (cell_of_row _ _ 1 _ _ _ hrow).trans rfl; have f40 := Lib.frozen_of_heap hrow 0; have f41 := Lib.frozen_of_heap hrow 1; have hz4 := hb4.size; have HB4 := Lib.hid (HS.out.trans (hb4.mono HS.out.size)); clear hb4 hrow) | fail)
      rw [rounds_succ]
      have HT := Lib.hid (HB4.out.setCell (p := ⟨w2.heap.size, 1, none⟩) HB2.out.size (.int .i64 y))
      go_wp2_with (first | (go_at_call 21; refine (HR.out _ (HG.out.below HT.out).g).mono ?_; rintro e w5 ⟨v5, u, rfl, hy, hown, hb5⟩) | fail)
      go_ret2
      refine ⟨v5, ?_, fun bs h => row_base (hown bs h) HT.out.size, HT.out.trans (hb5.mono HT.out.size)⟩
      rw [← hy]
      rfl

/-- Whatever the words are. -/
theorem line_calls (A : Nat) (fs : List ByteArray) (w : World) (hW : Words w A fs.length fs) (hne : fs ≠ []) (hlen : fs.length ≤ 1000000) (hs : ∀ s ∈ fs, s.size ≤ 1000000) (hG : GlobP w) :
    Calls Tryd.prog 64 #[.slice (some ⟨A, 0, none⟩) fs.length fs.length] w (LinePost w (lineS (fs.map fun s => s.data.toList))) := by
  cases fs with
  | nil => exact absurd rfl hne
  | cons s r =>
    have hs0 := hs s (by simp)
    rw [List.map_cons, lineS]
    cases hc : kindTo s.data.toList 41 with
    | none => exact line_none A _ s r w hW hc hG hs0
    | some c =>
      by_cases hm : (s :: r).length = (ksK (opk c)).length + 1
      · cases r with
        | nil =>
          have hk : opk c = 0 := by
            rcases opk_le c with h | h | h | h | h <;> rw [h] at hm <;> simp [ksK] at hm ⊢ <;> exact h
          exact line_m0 A c s w hW hc hk hG hs0
        | cons a r =>
          cases r with
          | nil =>
            have hk : opk c = 1 ∨ opk c = 2 ∨ opk c = 3 := by
              rcases opk_le c with h | h | h | h | h <;> rw [h] at hm ⊢ <;> simp [ksK] at hm ⊢
            exact line_m1 A c _ s a w hW hc rfl hk hG hs0 (hs a (by simp))
          | cons d r =>
            cases r with
            | nil =>
              have hk : opk c = 4 := by
                rcases opk_le c with h | h | h | h | h <;> rw [h] at hm ⊢ <;> simp [ksK] at hm ⊢
              exact line_m2 A c s a d w hW hc hk hG hs0 (hs a (by simp)) (hs d (by simp))
            | cons z r =>
              exfalso
              rcases opk_le c with h | h | h | h | h <;> rw [h] at hm <;> simp [ksK] at hm
      · have harg : argsS c (r.map fun s => s.data.toList) = none := by
          cases r with
          | nil =>
            rw [List.map_nil, argsS, if_neg]
            intro h; rw [h] at hm; simp [ksK] at hm
          | cons a r =>
            cases r with
            | nil =>
              rw [List.map_cons, List.map_nil, argsS, if_neg]
              rintro (h | h | h) <;> rw [h] at hm <;> simp [ksK] at hm
            | cons d r =>
              cases r with
              | nil =>
                rw [List.map_cons, List.map_cons, List.map_nil, argsS, if_neg]
                intro h; rw [h] at hm; simp [ksK] at hm
              | cons z r => rfl
        show Calls _ _ _ _ (LinePost w (argsS c (r.map fun s => s.data.toList)))
        rw [harg]
        exact line_mis A _ c s r w hW hc hm hlen hG hs0
end Go.Proofs.YtkphijabhoppnaaDoor
