/- Dup, drop, swap by the reference (brazierref15.any). -/
import Derived.Test.YtkphijabhoppnaaDoorAVg
import Derived.Deep.RegionHeld3
namespace Go.Proofs.YtkphijabhoppnaaDoor
open Go.RowKit Go.Proofs.YtkphijabhoppnaaDoorW.PrintWords
set_option linter.unusedSimpArgs false
set_option linter.unusedVariables false
theorem app_step {ops : Array Oper} {o : Oper} {a : Act} {Kc : Act → World → Prop} {Q : Exit → Act → World → Prop} {w0 W : World} (s x : Operand) (hw : Region.wanted o (yielded ops a.tmps) = true)
    (ho : o.op = .call { callee := .builtin .append, args := #[s, x], argTypes := #[33, 33] }) (base : Nat) (v : Value) (xs ys : List Int) (A : Option Addr) (m c : Nat) (hs : a.eval s = v) (hx : a.eval x = .slice A m c)
    (HO : W.ownsRow base 3 1 v xs.length (nums .i64 xs)) (HR : Kd.C (Kd.int .i64) W A m ys) (HB : Below base w0 W) (hbase : base ≤ W.heap.size) (hl : xs.length + m ≤ 1000000)
    (h : ∀ v1 w1, w1.ownsRow base 3 1 v1 (xs ++ ys).length (nums .i64 (xs ++ ys)) → Below base w0 w1 → W.grownBy w1 v.ownBlock → Kc (a.put o.dst v1) w1) :
    if Region.wanted o (yielded ops a.tmps) = true then Oper.wp Tryd.prog o a W Kc Q else Kc (a.put o.dst undef) W :=
  Kd.R_append_rows_step (Kd.int .i64) (w0 := w0) base hw s x 33 3 (.int .i64 0) 8 ho Tryd.underlying33 PVerifyMethods.info3 rfl (by decide) (by omega) v xs ys A m c (fun _ => True) (fun _ => False) hs hx
    (Kd.R_of_own (enc := Value.int .i64) (h1 := fun _ => rfl) HO (fun _ _ => trivial)) HR (fun _ _ h => h) (fun _ h => h.elim) (fun _ _ => trivial) HB hbase (by omega)
    (fun v1 w1 h1 h2 h3 _ => h v1 w1 (Kd.own_of_R h1) h2 h3)
theorem app_list {ops : Array Oper} {o : Oper} {a : Act} {rest : List Oper} {Q : Exit → Act → World → Prop} {w0 W : World} (s x : Operand) (hg : o.guard = none)
    (ho : o.op = .call { callee := .builtin .append, args := #[s, x], argTypes := #[33, 33] }) (base : Nat) (v : Value) (xs ys : List Int) (A : Option Addr) (m c : Nat) (hs : a.eval s = v) (hx : a.eval x = .slice A m c)
    (HO : W.ownsRow base 3 1 v xs.length (nums .i64 xs)) (HR : Kd.C (Kd.int .i64) W A m ys) (HB : Below base w0 W) (hbase : base ≤ W.heap.size) (hl : xs.length + m ≤ 1000000)
    (h : ∀ v1 w1, w1.ownsRow base 3 1 v1 (xs ++ ys).length (nums .i64 (xs ++ ys)) → Below base w0 w1 → W.grownBy w1 v.ownBlock → wpList Tryd.prog ops Q rest (a.put o.dst v1) w1) :
    wpList Tryd.prog ops Q (o :: rest) a W :=
  Kd.R_append_rows (Kd.int .i64) (w0 := w0) base hg s x 33 3 (.int .i64 0) 8 ho Tryd.underlying33 PVerifyMethods.info3 rfl (by decide) (by omega) v xs ys A m c (fun _ => True) (fun _ => False) hs hx
    (Kd.R_of_own (enc := Value.int .i64) (h1 := fun _ => rfl) HO (fun _ _ => trivial)) HR (fun _ _ h => h) (fun _ h => h.elim) (fun _ _ => trivial) HB hbase (by omega)
    (fun v1 w1 h1 h2 h3 _ => h v1 w1 (Kd.own_of_R h1) h2 h3)
theorem lit_C {w : World} {g : Nat} {l : List Int} (h : w.heap[g]? = some (.cells (l.map (Value.int .i64)).toArray 3 (0, 0))) (hl : l.length ≤ maxLen) : Kd.C (Kd.int .i64) w (some ⟨g, 0, none⟩) l.length l := by
  obtain ⟨A, c, e, -, h3⟩ := RI.lit h hl
  injection e with e1 _ _
  subst e1
  exact h3
theorem own_nil {w : World} {g base : Nat} (h : w.heap[g]? = some (.cells #[] 3 (0, 0))) (hb : base ≤ g) : w.ownsRow base 3 1 (.slice (some ⟨g, 0, none⟩) 0 0) ([] : List Int).length (nums .i64 []) :=
  ⟨rfl, .inr ⟨g, 0, #[], rfl, hb, h, Nat.le_refl _, Nat.zero_le _, rfl, rfl⟩⟩
def AnyPost (w : World) (r : List Int × Int) (e : Ending) (w' : World) : Prop :=
  ∃ v, e = .returned (.tuple #[v, .int .i64 r.2]) ∧ w'.ownsRow w.heap.size 3 1 v r.1.length (nums .i64 r.1) ∧ Below w.heap.size w w'
theorem any_none (w : World) : AnyPost w ([], 22) (.returned (.tuple #[.slice none 0 0, .int .i64 22])) w := ⟨_, rfl, ⟨rfl, .inl ⟨rfl, rfl⟩⟩, Below.refl _ _⟩
theorem swap_eq (l : List Int) (K : Nat) (h : l.length = K + 2) : (l.set (l.length - 1) (l.getD (l.length - 2) 0)).set (l.length - 2) (l.getD (l.length - 1) 0) = l.take K ++ [l.getD (K + 1) 0, l.getD K 0] := by
  rw [h, show K + 2 - 1 = K + 1 by omega, show K + 2 - 2 = K by omega]
  apply List.ext_getElem
  · simp; omega
  · intro i h1 h2
    simp only [List.length_set] at h1
    rw [List.getElem_set, List.getElem_set]
    by_cases e1 : K = i
    · subst e1
      rw [if_pos rfl, List.getElem_append_right (by simp; omega)]
      simp [show min K l.length = K by omega]
    · rw [if_neg e1]
      by_cases e2 : K + 1 = i
      · subst e2
        rw [if_pos rfl, List.getElem_append_right (by simp; omega)]
        simp [show min K l.length = K by omega]
      · rw [if_neg e2, List.getElem_append_left (by simp; omega)]
        simp
section
variable {w : World} {S0 : Option Addr} {sc : Nat}
set_option maxRecDepth 100000 in
theorem rany_few1 (c : Int) (t : List Int) (hc : c = 6 ∨ c = 7) (ht : t.length < 1) : Calls Tryd.prog 164 #[.int .i64 c, .slice S0 t.length sc] w (AnyPost w ([], 22)) := by
  have t1 : decide ((t.length : Int) < 1) = true := decide_eq_true (by omega)
  clear ht
  rcases hc with rfl | rfl
  all_goals
    go_enter Tryd.func164, Tryd.ntmps164
    go_wp2_with fail
    go_ret2
    exact any_none w
set_option maxRecDepth 100000 in
theorem rany_few2 (t : List Int) (ht : t.length < 2) : Calls Tryd.prog 164 #[.int .i64 8, .slice S0 t.length sc] w (AnyPost w ([], 22)) := by
  have t1 : decide ((t.length : Int) < 2) = true := decide_eq_true (by omega)
  clear ht
  go_enter Tryd.func164, Tryd.ntmps164
  go_wp2_with fail
  go_ret2
  exact any_none w
set_option maxRecDepth 100000 in
set_option maxHeartbeats 1600000 in
theorem rany_drop (t : List Int) (K : Nat) (hk : t.length = K + 1) (hs : Kd.C (Kd.int .i64) w S0 t.length t) (hsc : t.length ≤ sc) (hl : t.length ≤ 100000) : Calls Tryd.prog 164 #[.int .i64 7, .slice S0 t.length sc] w (AnyPost w (t.take K, 0)) := by
  obtain ⟨ad, rfl, -⟩ := Kd.at_int hs 0 (by omega) (by omega)
  have hT := Kd.C_take (m := K) hs (by omega)
  rw [List.length_take, Nat.min_eq_left (by omega)] at hT
  obtain ⟨N, hN⟩ : ∃ N, t.length = N := ⟨_, rfl⟩
  rw [hN] at hk hsc hl ⊢
  have t1 : decide ((N : Int) < 1) = false := decide_eq_false (by omega)
  have e1 : wrap64 ((N : Int) - 1) = (K : Int) := by unfold wrap64; omega
  have k0 : (0 : Int) ≤ (K : Int) := by omega
  have k1 : (K : Int) ≤ (sc : Int) := by omega
  have HT := Lib.hid hT
  have HK := Lib.hid hk
  have HL := Lib.hid hl
  clear hs hT hk hsc hl hN
  have hA : Below w.heap.size w (w.alloc (.cells #[] 3)) := (Below.refl _ _).alloc (Nat.le_refl _) _
  have hO := own_nil (heap_alloc_new w (.cells #[] 3)) (Nat.le_refl _)
  have hTA := Kd.C_below HT.out hA
  go_enter Tryd.func164, Tryd.ntmps164
  go_wp2_with (first | (at_builtin; refine app_list (w0 := w) (.tmp 28) (.tmp 32) rfl rfl w.heap.size _ [] (t.take K) (some ad) K _ rfl rfl hO hTA hA hA.size ?hl ?_) | fail)
  case hl => have := HK.out; have := HL.out; simp; omega
  intro v1 w1 ho1 hb1 hg1
  have HO1 : Hid (w1.ownsRow w.heap.size 3 1 v1 (t.take K).length (nums .i64 (t.take K))) := Lib.hid (by simpa using ho1)
  clear ho1 hg1
  go_wp2_with fail
  go_ret2
  exact ⟨_, rfl, HO1.out, hb1⟩
set_option maxRecDepth 100000 in
set_option maxHeartbeats 3200000 in
theorem rany_dup (t : List Int) (K : Nat) (hk : t.length = K + 1) (hs : Kd.C (Kd.int .i64) w S0 t.length t) (hl : t.length ≤ 100000) (x : Int) (hx : t.getD K 0 = x) : Calls Tryd.prog 164 #[.int .i64 6, .slice S0 t.length sc] w (AnyPost w (t ++ [x], 0)) := by
  obtain ⟨ad, rfl, hc⟩ := Kd.at_int hs K (by omega) (by omega)
  rw [Int.toNat_natCast, show rd t K = x by rw [← hx]; simp only [rd, Int.toNat_natCast]] at hc
  obtain ⟨N, hN⟩ : ∃ N, t.length = N := ⟨_, rfl⟩
  have hNt := hN
  rw [hN] at hk hs hl ⊢
  have t1 : decide ((N : Int) < 1) = false := decide_eq_false (by omega)
  have e1 : wrap64 ((N : Int) - 1) = (K : Int) := by unfold wrap64; omega
  have e1' : IntKind.i64.wrap ((N : Int) - 1) = (K : Int) := (by unfold wrap64 at e1; exact (IntKind.wrap_i64 _).trans e1)
  have k0 : (0 : Int) ≤ (K : Int) := by omega
  have k1 : (K : Int) < (N : Int) := by omega
  have HS := Lib.hid hs
  have HK := Lib.hid hk
  have HL := Lib.hid hl
  have HN := Lib.hid hN
  clear hs hk hl hN hNt hx
  go_enter Tryd.func164, Tryd.ntmps164
  go_upto_region 6 with fail
  go_region_held3 (fun w' => w'.cell? (ad.add K) = some (.int .i64 x)) (first | (exact cell_be hb2 hc) | (exact cell_be hb1 hc) | (exact cell_al (cell_be hb1 hc) _) | go_keep)
    (first
      | (refine app_step (w0 := w) (.tmp 16) (.tmp 22) (by rfl) (by rfl) w.heap.size v1 t [x] (some ⟨_, 0, none⟩) 1 1 (by rfl) (by rfl) ?bO ?bR ?bB ?bS ?bL ?_
         (case bO => first | exact ho1 | exact ho1.alloc _)
         (case bR => first | exact lit_C (l := [x]) (heap_alloc_new _ _) (by simp [maxLen]) | exact lit_C (l := [x]) (row_gr hg1 (by intro e; first | (have e2 : some (w.heap.size + 1) = some w.heap.size := e; simp at e2; done) | (have e2 : some w.heap.size = some (w.heap.size + 1) := e; simp at e2; done)) (row_drewV (heap_alloc2 _ _ _))) (by simp [maxLen]) | exact lit_C (l := [x]) (row_gr hg1 (by intro e; first | (have e2 : some (w.heap.size + 1) = some w.heap.size := e; simp at e2; done) | (have e2 : some w.heap.size = some (w.heap.size + 1) := e; simp at e2; done)) (row_drewV (row_alloc (heap_alloc_new _ _) _))) (by simp [maxLen]))
         (case bB => first | exact hb1 | exact hb1.alloc hb1.size _)
         (case bS => first | exact hb1.size | (have := hb1.size; simp; omega))
         (case bL => have := HL.out; have := HN.out; simp; omega)
         intro v2 w2 ho2 hb2 hg2)
      | (refine app_step (w0 := w) (.tmp 14) (.tmp 15) (by rfl) (by rfl) w.heap.size _ [] t (some ad) N sc (by rfl) (by rfl) ?aO ?aR ?aB ?aS ?aL ?_
         (case aO => first | exact own_nil (heap_alloc_new _ _) (Nat.le_refl _) | exact own_nil (row_drewV (heap_alloc_new _ _)) (Nat.le_refl _) | exact own_nil (row_drewV (row_alloc (heap_alloc_new _ _) _)) (Nat.le_refl _) | exact own_nil (row_alloc (heap_alloc_new _ _) _) (Nat.le_refl _) | exact own_nil (row_drewV (heap_alloc2 _ _ _)) (by omega) | exact own_nil (heap_alloc2 _ _ _) (by omega))
         (case aR => refine Kd.C_below HS.out ?_; (repeat (first | exact Below.refl _ _ | refine Below.drew ?_ | refine Below.alloc ?_ ?_ _ | exact Nat.le_refl _ | (simp; done) | (simp; omega))))
         (case aB => (repeat (first | exact Below.refl _ _ | refine Below.drew ?_ | refine Below.alloc ?_ ?_ _ | exact Nat.le_refl _ | (simp; done) | (simp; omega))))
         (case aS => (first | exact Nat.le_refl _ | (simp; done) | (simp; omega)))
         (case aL => have := HL.out; simp; omega)
         intro v1 w1 ho1 hb1 hg1
         rw [List.nil_append] at ho1))
  all_goals
    have HO2 := Lib.hid ho2
    have HB2 := Lib.hid hb2
    clear ho2 hb2 hg2
    go_wp2_with fail
    go_ret2
    exact ⟨_, rfl, HO2.out, HB2.out⟩
set_option maxRecDepth 100000 in
set_option maxHeartbeats 3200000 in
theorem rany_swap (t : List Int) (K : Nat) (hk : t.length = K + 2) (hs : Kd.C (Kd.int .i64) w S0 t.length t) (hsc : t.length ≤ sc) (hl : t.length ≤ 100000) (x y : Int) (hx : t.getD (K + 1) 0 = x) (hy : t.getD K 0 = y) : Calls Tryd.prog 164 #[.int .i64 8, .slice S0 t.length sc] w (AnyPost w (t.take K ++ [x, y], 0)) := by
  obtain ⟨ad, rfl, hc⟩ := Kd.at_int hs (K + 1 : Nat) (by omega) (by omega)
  obtain ⟨ad', e, hd⟩ := Kd.at_int hs K (by omega) (by omega)
  obtain rfl : ad = ad' := Option.some.inj e
  clear e
  rw [Int.toNat_natCast, show rd t (K + 1 : Nat) = x by rw [← hx]; simp only [rd, Int.toNat_natCast]] at hc
  rw [Int.toNat_natCast, show rd t K = y by rw [← hy]; simp only [rd, Int.toNat_natCast]] at hd
  have hT := Kd.C_take (m := K) hs (by omega)
  have hTl : (t.take K).length = K := by rw [List.length_take]; omega
  rw [hTl] at hT
  obtain ⟨N, hN⟩ : ∃ N, t.length = N := ⟨_, rfl⟩
  rw [hN] at hk hsc hl ⊢
  obtain ⟨T, hTT⟩ : ∃ T, t.take K = T := ⟨_, rfl⟩
  rw [hTT] at hT hTl ⊢
  have t1 : decide ((N : Int) < 2) = false := decide_eq_false (by omega)
  have e1 : wrap64 ((N : Int) - 1) = ((K + 1 : Nat) : Int) := by unfold wrap64; omega
  have e2 : wrap64 ((N : Int) - 2) = (K : Int) := by unfold wrap64; omega
  obtain ⟨J, hJ⟩ : ∃ J, K + 1 = J := ⟨_, rfl⟩
  rw [hJ] at e1 hc
  have e1' : IntKind.i64.wrap ((N : Int) - 1) = (J : Int) := (by unfold wrap64 at e1; exact (IntKind.wrap_i64 _).trans e1)
  have e2' : IntKind.i64.wrap ((N : Int) - 2) = (K : Int) := (by unfold wrap64 at e2; exact (IntKind.wrap_i64 _).trans e2)
  have k0 : (0 : Int) ≤ (K : Int) := by omega
  have k1 : (K : Int) < (N : Int) := by omega
  have k2 : (K : Int) ≤ (sc : Int) := by omega
  have k3 : (0 : Int) ≤ (J : Int) := by omega
  have k4 : (J : Int) < (N : Int) := by omega
  have HT := Lib.hid hT
  have HTL := Lib.hid hTl
  have HK := Lib.hid hk
  have HL := Lib.hid hl
  clear hs hT hk hsc hl hN hTl hx hy hTT hJ
  go_enter Tryd.func164, Tryd.ntmps164
  go_upto_region 13 with fail
  go_region_held3 (fun w' => w'.cell? (ad.add J) = some (.int .i64 x) ∧ w'.cell? (ad.add K) = some (.int .i64 y)) (first | (exact ⟨cell_be hb2 hc, cell_be hb2 hd⟩) | (exact ⟨cell_be hb1 hc, cell_be hb1 hd⟩) | (exact ⟨cell_al (cell_be hb1 hc) _, cell_al (cell_be hb1 hd) _⟩) | go_keep)
    (first
      | (refine app_step (w0 := w) (.tmp 41) (.tmp 52) (by rfl) (by rfl) w.heap.size v1 T [x, y] (some ⟨_, 0, none⟩) 2 2 (by rfl) (by rfl) ?bO ?bR ?bB ?bS ?bL ?_
         (case bO => first | exact ho1 | exact ho1.alloc _)
         (case bR => first | exact lit_C (l := [x, y]) (heap_alloc_new _ _) (by simp [maxLen]) | exact lit_C (l := [x, y]) (row_gr hg1 (by intro e; first | (have e2 : some (w.heap.size + 1) = some w.heap.size := e; simp at e2; done) | (have e2 : some w.heap.size = some (w.heap.size + 1) := e; simp at e2; done)) (row_drewV (heap_alloc2 _ _ _))) (by simp [maxLen]) | exact lit_C (l := [x, y]) (row_gr hg1 (by intro e; first | (have e2 : some (w.heap.size + 1) = some w.heap.size := e; simp at e2; done) | (have e2 : some w.heap.size = some (w.heap.size + 1) := e; simp at e2; done)) (row_drewV (row_alloc (heap_alloc_new _ _) _))) (by simp [maxLen]))
         (case bB => first | exact hb1 | exact hb1.alloc hb1.size _)
         (case bS => first | exact hb1.size | (have := hb1.size; simp; omega))
         (case bL => have := HL.out; have := HK.out; have := HTL.out; omega)
         intro v2 w2 ho2 hb2 hg2)
      | (refine app_step (w0 := w) (.tmp 36) (.tmp 40) (by rfl) (by rfl) w.heap.size _ [] T (some ad) K _ (by rfl) (by rfl) ?aO ?aR ?aB ?aS ?aL ?_
         (case aO => first | exact own_nil (heap_alloc_new _ _) (Nat.le_refl _) | exact own_nil (row_drewV (heap_alloc_new _ _)) (Nat.le_refl _) | exact own_nil (row_drewV (row_alloc (heap_alloc_new _ _) _)) (Nat.le_refl _) | exact own_nil (row_alloc (heap_alloc_new _ _) _) (Nat.le_refl _) | exact own_nil (row_drewV (heap_alloc2 _ _ _)) (by omega) | exact own_nil (heap_alloc2 _ _ _) (by omega))
         (case aR => refine Kd.C_below HT.out ?_; (repeat (first | exact Below.refl _ _ | refine Below.drew ?_ | refine Below.alloc ?_ ?_ _ | exact Nat.le_refl _ | (simp; done) | (simp; omega))))
         (case aB => (repeat (first | exact Below.refl _ _ | refine Below.drew ?_ | refine Below.alloc ?_ ?_ _ | exact Nat.le_refl _ | (simp; done) | (simp; omega))))
         (case aS => (first | exact Nat.le_refl _ | (simp; done) | (simp; omega)))
         (case aL => have := HL.out; have := HK.out; simp; omega)
         intro v1 w1 ho1 hb1 hg1
         rw [List.nil_append] at ho1))
  all_goals
    have HO2 := Lib.hid ho2
    have HB2 := Lib.hid hb2
    clear ho2 hb2 hg2
    go_wp2_with fail
    go_ret2
    exact ⟨_, rfl, HO2.out, HB2.out⟩
theorem rany_calls (c : Int) (hc : c = 6 ∨ c = 7 ∨ c = 8) (t : List Int) (hs : Kd.C (Kd.int .i64) w S0 t.length t) (hsc : t.length ≤ sc) (hl : t.length ≤ 100000) :
    Calls Tryd.prog 164 #[.int .i64 c, .slice S0 t.length sc] w (AnyPost w (match shuffleS c t with | none => ([], 22) | some l => (l, 0))) := by
  unfold shuffleS
  by_cases h1 : t.length < 1
  · rw [if_pos (.inl h1)]
    rcases hc with rfl | rfl | rfl
    · exact rany_few1 6 t (.inl rfl) h1
    · exact rany_few1 7 t (.inr rfl) h1
    · exact rany_few2 t (by omega)
  · rcases hc with rfl | rfl | rfl
    · rw [if_neg (by omega), if_pos rfl]
      exact rany_dup t (t.length - 1) (by omega) hs hl _ rfl
    · rw [if_neg (by omega), if_neg (by decide), if_pos rfl]
      exact rany_drop t (t.length - 1) (by omega) hs hsc hl
    · by_cases h2 : t.length < 2
      · rw [if_pos (.inr ⟨h2, rfl⟩)]
        exact rany_few2 t h2
      · rw [if_neg (by omega), if_neg (by decide), if_neg (by decide)]
        show Calls _ _ _ _ (AnyPost w ((t.set (t.length - 1) (t.getD (t.length - 2) 0)).set (t.length - 2) (t.getD (t.length - 1) 0), 0))
        rw [swap_eq t (t.length - 2) (by omega)]
        exact rany_swap t (t.length - 2) (by omega) hs hsc hl _ _ rfl rfl
end
end Go.Proofs.YtkphijabhoppnaaDoor
