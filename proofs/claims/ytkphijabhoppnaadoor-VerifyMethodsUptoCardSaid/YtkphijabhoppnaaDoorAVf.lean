/- The shape behind a bytecode (brazier/verify.effect). -/
import Derived.Test.YtkphijabhoppnaaDoorAVe
namespace Go.Proofs.YtkphijabhoppnaaDoor
open Go.RowKit Go.Proofs.YtkphijabhoppnaaDoorW.PrintWords
set_option linter.unusedSimpArgs false
set_option linter.unusedVariables false
def heldS (c h : Int) : Int := if c = 36 then h + 1 else if c = 37 then h - 1 else h
def effectS (p : Pg) (m : Meth) (c a b : Int) (s : Shp) : Shp × Int :=
  if c = 6 ∨ c = 7 ∨ c = 8 then (match shuffleS c s.1 with | none => (([], 0), 22) | some l => ((l, s.2), 0))
  else if s.1.length < (movesS p m c a b).1.length then (([], 0), 22)
  else if s.1.drop (s.1.length - (movesS p m c a b).1.length) = (movesS p m c a b).1 then
    (if heldS c s.2 ≠ s.2 ∧ (10 < heldS c s.2 ∨ heldS c s.2 < 0) then (([], 0), 25)
     else ((s.1.take (s.1.length - (movesS p m c a b).1.length) ++ (movesS p m c a b).2, heldS c s.2), 0))
  else (([], 0), 21)
def EffPost (w : World) (r : Shp × Int) (e : Ending) (w' : World) : Prop :=
  ∃ v, e = .returned (.tuple #[.agg #[v, .int .i64 r.1.2], .int .i64 r.2]) ∧ w'.ownsRow w.heap.size 3 1 v r.1.1.length (nums .i64 r.1.1) ∧ Below w.heap.size w w'
abbrev obP (A0 : Option Addr) (c0 : Nat) (A1 : Option Addr) (c1 : Nat) (A2 : Option Addr) (c2 : Nat) (p : Pg) : Obj := .cells #[.slice A0 p.pool.length c0, .slice A1 p.classes.length c1, .slice A2 p.methods.length c2] 59
abbrev obM (B0 : Option Addr) (d0 : Nat) (B2 : Option Addr) (d2 : Nat) (B4 : Option Addr) (d4 : Nat) (m : Meth) : Obj := .cells #[.slice B0 m.f0.length d0, .int .i64 m.f1, .slice B2 m.f2.length d2, .int .i64 m.f3, .slice B4 m.f4.length d4] 64
abbrev obO (c a b o : Int) : Obj := .cells #[.int .i64 c, .int .i64 a, .int .i64 b, .int .i64 o] 25
abbrev obS (S0 : Option Addr) (n sc : Nat) (h : Int) : Obj := .cells #[.slice S0 n sc, .int .i64 h] 81
abbrev obZ : Obj := .cells #[.slice none 0 0, .int .i64 0] 81
theorem alloc5 (w : World) (o1 o2 o3 o4 o5 : Obj) : Below w.heap.size w (((((w.alloc o1).alloc o2).alloc o3).alloc o4).alloc o5) ∧ (((((w.alloc o1).alloc o2).alloc o3).alloc o4).alloc o5).heap.size = w.heap.size + 5 ∧
    (((((w.alloc o1).alloc o2).alloc o3).alloc o4).alloc o5).heap[w.heap.size]? = some o1 ∧ (((((w.alloc o1).alloc o2).alloc o3).alloc o4).alloc o5).heap[w.heap.size + 1]? = some o2 ∧
    (((((w.alloc o1).alloc o2).alloc o3).alloc o4).alloc o5).heap[w.heap.size + 1 + 1]? = some o3 ∧ (((((w.alloc o1).alloc o2).alloc o3).alloc o4).alloc o5).heap[w.heap.size + 1 + 1 + 1]? = some o4 ∧
    (((((w.alloc o1).alloc o2).alloc o3).alloc o4).alloc o5).heap[w.heap.size + 1 + 1 + 1 + 1]? = some o5 := by
  have s1 : (w.alloc o1).heap.size = w.heap.size + 1 := by simp
  have s2 : ((w.alloc o1).alloc o2).heap.size = w.heap.size + 1 + 1 := by simp
  have s3 : (((w.alloc o1).alloc o2).alloc o3).heap.size = w.heap.size + 1 + 1 + 1 := by simp
  have s4 : ((((w.alloc o1).alloc o2).alloc o3).alloc o4).heap.size = w.heap.size + 1 + 1 + 1 + 1 := by simp
  have r1 := heap_alloc_new w o1
  have r2 := heap_alloc_new (w.alloc o1) o2
  have r3 := heap_alloc_new ((w.alloc o1).alloc o2) o3
  have r4 := heap_alloc_new (((w.alloc o1).alloc o2).alloc o3) o4
  have r5 := heap_alloc_new ((((w.alloc o1).alloc o2).alloc o3).alloc o4) o5
  rw [s1] at r2; rw [s2] at r3; rw [s3] at r4; rw [s4] at r5
  refine ⟨(((((Below.refl _ w).alloc (Nat.le_refl _) _).alloc (by omega) _).alloc (by omega) _).alloc (by omega) _).alloc (by omega) _, by simp, ?_, ?_, ?_, ?_, r5⟩
  · exact row_alloc (row_alloc (row_alloc (row_alloc r1 _) _) _) _
  · exact row_alloc (row_alloc (row_alloc r2 _) _) _
  · exact row_alloc (row_alloc r3 _) _
  · exact row_alloc r4 _
theorem cells2V {W : World} {g : Nat} {x y : Value} {q : TypeId} {fr : Nat × Nat} (h : W.heap[g]? = some (Obj.cells #[x, y] q fr)) : W.cell? ⟨g, 0, none⟩ = some x ∧ W.cell? ⟨g, 1, none⟩ = some y :=
  ⟨(cell_of_row _ _ 0 _ _ _ h).trans rfl, (cell_of_row _ _ 1 _ _ _ h).trans rfl⟩
theorem set2a {W : World} {g : Nat} {x y : Value} {q : TypeId} {fr : Nat × Nat} (h : W.heap[g]? = some (Obj.cells #[x, y] q fr)) (u : Value) :
    (W.setCell ⟨g, 0, none⟩ u).heap[g]? = some (Obj.cells #[u, y] q fr) := by
  obtain ⟨hlt, hk⟩ := Array.getElem?_eq_some_iff.1 h
  show (W.heap.modify g _)[g]? = _
  rw [Array.getElem?_eq_getElem (by rw [Array.size_modify]; exact hlt), Array.getElem_modify_self, hk]
  rfl
theorem set2b {W : World} {g : Nat} {x y : Value} {q : TypeId} {fr : Nat × Nat} (h : W.heap[g]? = some (Obj.cells #[x, y] q fr)) (u : Value) :
    (W.setCell ⟨g, 1, none⟩ u).heap[g]? = some (Obj.cells #[x, u] q fr) := by
  obtain ⟨hlt, hk⟩ := Array.getElem?_eq_some_iff.1 h
  show (W.heap.modify g _)[g]? = _
  rw [Array.getElem?_eq_getElem (by rw [Array.size_modify]; exact hlt), Array.getElem_modify_self, hk]
  rfl
theorem set2V {W : World} {g : Nat} {x y : Value} {q : TypeId} {fr : Nat × Nat} (h : W.heap[g]? = some (Obj.cells #[x, y] q fr)) (u v : Value) :
    ((W.setCell ⟨g, 0, none⟩ u).setCell ⟨g, 1, none⟩ v).heap[g]? = some (Obj.cells #[u, v] q fr) := set2b (set2a h u) v
theorem own_set2 {W : World} {base n g : Nat} {e : TypeId} {v : Value} {xs : List Value} (h : W.ownsRow base e 1 v n xs) (hg : g < base) (u u' : Value) :
    ((W.setCell ⟨g, 0, none⟩ u).setCell ⟨g, 1, none⟩ u').ownsRow base e 1 v n xs :=
  own_move h fun k hk => by
    have h1 := row_ge h k hk
    rw [Below.heap_setCell _ ⟨g, 1, none⟩ u' k (by show k ≠ g; omega), Below.heap_setCell _ ⟨g, 0, none⟩ u k (by show k ≠ g; omega)]
theorem below_set2 {W1 W : World} {B g : Nat} (h : Below B W1 W) (hg : B ≤ g) (u u' : Value) : Below B W1 ((W.setCell ⟨g, 0, none⟩ u).setCell ⟨g, 1, none⟩ u') :=
  (h.setCell (p := ⟨g, 0, none⟩) hg u).setCell (p := ⟨g, 1, none⟩) hg u'
section
variable {w : World} {A0 A1 A2 B0 B2 B4 S0 : Option Addr} {c0 c1 c2 d0 d2 d4 sc : Nat} {p : Pg} {m : Meth}
theorem results60 {tmps : Array Value} {W : World} {g : Nat} {fr : Nat × Nat} {v : Value} {h e : Int} (h8 : tmps.getD 8 undef = .pointer (some ⟨g, 0, none⟩)) (h9 : tmps.getD 9 undef = .int .i64 e) (hv : v.oneCell' = true)
    (hrow : W.heap[g]? = some (.cells #[v, .int .i64 h] 81 fr)) : (results Tryd.f60 tmps).run Tryd.prog W = .ok (.tuple #[.agg #[v, .int .i64 h], .int .i64 e]) W := by
  rw [results_cell_tmp (fn := Tryd.f60) rfl, h8, h9]
  simp only [asAddr, Sem.run_pure, Result.andThen_ok, run_loadVar_row W g 81 81 _ fr _ hrow Tryd.underlying81 rfl (by kernel_rfl)]
theorem shuffle_calls (c a b o : Int) (s r : List Int) (ok : Bool) (h : PVerifyMethods.verify_shuffle.f 1 c a b o s = some (r, ok)) (W w1 : World) (v1 : Value) (ho : w1.ownsRow W.heap.size 3 1 v1 s.length (nums .i64 s)) (hb : Below W.heap.size W w1) :
    Calls Tryd.prog 110 #[.agg #[.int .i64 c, .int .i64 a, .int .i64 b, .int .i64 o], v1] w1 fun e w' => ∃ v, e = .returned (.tuple #[v, .bool ok]) ∧ w'.ownsRow W.heap.size 3 1 v r.length (nums .i64 r) ∧ Below W.heap.size W w' := by
  refine (PVerifyMethods.verify_shuffle.calls 1 c a b o (fun _ => True) v1 s r ok W w1 hb (Kd.R_of_own (enc := Value.int .i64) (h1 := fun _ => rfl) ho (fun _ _ => trivial)) h).mono ?_
  rintro e w' ⟨v, rfl, h1, h2, -⟩
  exact ⟨v, rfl, Kd.own_of_R h1, h2⟩
set_option maxRecDepth 100000 in
set_option maxHeartbeats 1600000 in
theorem effect_no (c a b o : Int) (s : List Int) (h : Int) (hc : c = 6 ∨ c = 7 ∨ c = 8) (hn : shuffleS c s = none) (hs : Kd.C (Kd.int .i64) w S0 s.length s) (hsc : s.length ≤ sc) (hl : s.length ≤ 100000) :
    Calls Tryd.prog 60 #[.agg #[.slice A0 p.pool.length c0, .slice A1 p.classes.length c1, .slice A2 p.methods.length c2], .agg #[.slice B0 m.f0.length d0, .int .i64 m.f1, .slice B2 m.f2.length d2, .int .i64 m.f3, .slice B4 m.f4.length d4], .agg #[.int .i64 c, .int .i64 a, .int .i64 b, .int .i64 o], .agg #[.slice S0 s.length sc, .int .i64 h]] w (EffPost w (([], 0), 22)) := by
  have hg : decide (6 ≤ c) = true := by simp; omega
  have hg2 : decide (c ≤ 8) = true := by simp; omega
  have hsh := shuffle_eq c a b o s hc (by omega)
  rw [hn] at hsh
  have HSH := Lib.hid hsh
  clear hsh hn hc
  obtain ⟨hb5, hz5, r1, r2, r3, r4, r5⟩ := alloc5 w (obP A0 c0 A1 c1 A2 c2 p) (obM B0 d0 B2 d2 B4 d4 m) (obO c a b o) (obS S0 s.length sc h) obZ
  have HB5 := Lib.hid hb5
  have HS := Lib.hid hs
  have R1 := Lib.hid r1
  have R2 := Lib.hid r2
  have R3 := Lib.hid r3
  have R4 := Lib.hid r4
  have R5 := Lib.hid r5
  have HZ := Lib.hid hz5
  clear hb5 hz5 r1 r2 r3 r4 r5 hs
  go_enter Tryd.func60, Tryd.ntmps60
  go_wp2_with fail
  generalize ((((w.alloc (obP A0 c0 A1 c1 A2 c2 p)).alloc (obM B0 d0 B2 d2 B4 d4 m)).alloc (obO c a b o)).alloc (obS S0 s.length sc h)).alloc obZ = W at HB5 R1 R2 R3 R4 R5 HZ ⊢
  refine (clone_calls (Kd.C_below HS.out HB5.out) (by omega)).mono ?_
  rintro e w1 ⟨v1, rfl, ho1, hb1⟩
  obtain ⟨o0, o1, o2, o3⟩ := cellsV (row_kept hb1 R3.out)
  obtain ⟨s0, s1⟩ := cells2V (row_kept hb1 R4.out)
  obtain ⟨z0, z1⟩ := cells2V (row_kept hb1 R5.out)
  have HO1 := Lib.hid ho1
  have HB1 := Lib.hid hb1
  clear ho1 hb1
  go_wp2_with fail
  clear o0 o1 o2 o3 s0 s1 z0 z1
  refine (shuffle_calls c a b o s [] false HSH.out W w1 v1 HO1.out HB1.out).mono ?_
  rintro e w2 ⟨v2, rfl, ho2, hb2⟩
  obtain ⟨s0, s1⟩ := cells2V (row_kept hb2 R4.out)
  have z5 := row_kept hb2 R5.out
  have HB2 := Lib.hid hb2
  obtain ⟨A, cc, rfl⟩ := own_slice ho2
  have HO2 := Lib.hid ho2
  have Z5 := Lib.hid z5
  have f0 := Lib.frozen_of_heap z5 0
  have f1 := Lib.frozen_of_heap z5 1
  obtain ⟨z0, z1⟩ := cells2V z5
  clear ho2 hb2 z5
  go_wp2_with fail
  have hz5 := HZ.out
  exact bodyPost_ret (v := .tuple #[.agg #[.slice none 0 0, .int .i64 0], .int .i64 22]) (results60 rfl rfl rfl (set2V Z5.out _ _)) rfl ⟨_, rfl, ⟨rfl, .inl ⟨rfl, rfl⟩⟩, below_set2 (HB5.out.trans (HB2.out.mono HB5.out.size)) (by omega) _ _⟩
set_option maxRecDepth 100000 in
set_option maxHeartbeats 1600000 in
theorem effect_sh (c a b o : Int) (s : List Int) (h : Int) (hc : c = 6 ∨ c = 7 ∨ c = 8) (r : List Int) (hn : shuffleS c s = some r) (hs : Kd.C (Kd.int .i64) w S0 s.length s) (hsc : s.length ≤ sc) (hl : s.length ≤ 100000) :
    Calls Tryd.prog 60 #[.agg #[.slice A0 p.pool.length c0, .slice A1 p.classes.length c1, .slice A2 p.methods.length c2], .agg #[.slice B0 m.f0.length d0, .int .i64 m.f1, .slice B2 m.f2.length d2, .int .i64 m.f3, .slice B4 m.f4.length d4], .agg #[.int .i64 c, .int .i64 a, .int .i64 b, .int .i64 o], .agg #[.slice S0 s.length sc, .int .i64 h]] w (EffPost w ((r, h), 0)) := by
  have hg : decide (6 ≤ c) = true := by simp; omega
  have hg2 : decide (c ≤ 8) = true := by simp; omega
  have hsh := shuffle_eq c a b o s hc (by omega)
  rw [hn] at hsh
  have HSH := Lib.hid hsh
  clear hsh hn hc
  obtain ⟨hb5, hz5, r1, r2, r3, r4, r5⟩ := alloc5 w (obP A0 c0 A1 c1 A2 c2 p) (obM B0 d0 B2 d2 B4 d4 m) (obO c a b o) (obS S0 s.length sc h) obZ
  have HB5 := Lib.hid hb5
  have HS := Lib.hid hs
  have R1 := Lib.hid r1
  have R2 := Lib.hid r2
  have R3 := Lib.hid r3
  have R4 := Lib.hid r4
  have R5 := Lib.hid r5
  have HZ := Lib.hid hz5
  clear hb5 hz5 r1 r2 r3 r4 r5 hs
  go_enter Tryd.func60, Tryd.ntmps60
  go_wp2_with fail
  generalize ((((w.alloc (obP A0 c0 A1 c1 A2 c2 p)).alloc (obM B0 d0 B2 d2 B4 d4 m)).alloc (obO c a b o)).alloc (obS S0 s.length sc h)).alloc obZ = W at HB5 R1 R2 R3 R4 R5 HZ ⊢
  refine (clone_calls (Kd.C_below HS.out HB5.out) (by omega)).mono ?_
  rintro e w1 ⟨v1, rfl, ho1, hb1⟩
  obtain ⟨o0, o1, o2, o3⟩ := cellsV (row_kept hb1 R3.out)
  obtain ⟨s0, s1⟩ := cells2V (row_kept hb1 R4.out)
  obtain ⟨z0, z1⟩ := cells2V (row_kept hb1 R5.out)
  have HO1 := Lib.hid ho1
  have HB1 := Lib.hid hb1
  clear ho1 hb1
  go_wp2_with fail
  clear o0 o1 o2 o3 s0 s1 z0 z1
  refine (shuffle_calls c a b o s r true HSH.out W w1 v1 HO1.out HB1.out).mono ?_
  rintro e w2 ⟨v2, rfl, ho2, hb2⟩
  obtain ⟨s0, s1⟩ := cells2V (row_kept hb2 R4.out)
  have z5 := row_kept hb2 R5.out
  have HB2 := Lib.hid hb2
  obtain ⟨A, cc, rfl⟩ := own_slice ho2
  have HO2 := Lib.hid ho2
  have Z5 := Lib.hid z5
  have f0 := Lib.frozen_of_heap z5 0
  have f1 := Lib.frozen_of_heap z5 1
  obtain ⟨z0, z1⟩ := cells2V z5
  clear ho2 hb2 z5
  go_wp2_with fail
  have hz5 := HZ.out
  exact bodyPost_ret (v := .tuple #[.agg #[.slice A r.length cc, .int .i64 h], .int .i64 0]) (results60 rfl rfl rfl (set2V Z5.out _ _)) rfl ⟨_, rfl, row_base (own_set2 HO2.out (by omega) _ _) HB5.out.size, below_set2 (HB5.out.trans (HB2.out.mono HB5.out.size)) (by omega) _ _⟩
end
end Go.Proofs.YtkphijabhoppnaaDoor
