/- What is asked of a program (brazier/class.Check). -/
import Derived.Test.YtkphijabhoppnaaDoorAPVerifyMethodsx1
import Derived.Test.YtkphijabhoppnaaDoorAPVerifyMethodsx2
import Derived.Test.YtkphijabhoppnaaDoorAVb
import Derived.Deep.LoopGhost
namespace Go.Proofs.YtkphijabhoppnaaDoor
open Go.RowKit Go.Proofs.YtkphijabhoppnaaDoorW.PrintWords
set_option linter.unusedSimpArgs false
set_option linter.unusedVariables false
def sizesS (m : Meth) : Int :=
  if 40 < m.f0.length + m.f2.length ∨ 40 < m.f3 ∨ 4096 < m.f4.length then 2 else if m.f3 < 0 ∨ m.f1 < 0 ∨ 2 < m.f1 then 1 else if m.f4.length = 0 then 26 else 0
def firstS : List Meth → Int
  | [] => 0
  | m :: ms => if sizesS m ≠ 0 then sizesS m else firstS ms
def typesS (p : Pg) : List Int := (p.classes.map fun c => c.map fun f => f.f0).flatten ++ (p.methods.map fun m => m.f0 ++ m.f2).flatten
def beginsP (p : Pg) : Bool := decide ((methS p 0).f0.length = 0 ∧ (methS p 0).f1 = 0)
def wideC (c : List Fld) : Bool := decide (50 < c.length)
def oddT (t : Int) : Bool := !decide (t = 1 ∨ t = 2)
theorem wideC_int (c : List Fld) : decide (50 < (c.length : Int)) = wideC c := by simp only [wideC, decide_eq_decide]; omega
def wideS (p : Pg) : Bool := p.classes.any wideC
def oddS (p : Pg) : Bool := (typesS p).any oddT
def checkS (p : Pg) : Int :=
  if 200 < p.pool.length ∨ 50 < p.classes.length ∨ 100 < p.methods.length ∨ wideS p = true then 2
  else if p.methods.length = 0 then 3
  else if firstS p.methods ≠ 0 then firstS p.methods
  else if oddS p = true ∨ beginsP p = false then 1
  else 0
theorem first_zero : ∀ ms : List Meth, firstS ms = 0 ↔ ∀ m ∈ ms, sizesS m = 0
  | [] => by simp [firstS]
  | m :: ms => by
    rw [firstS]
    by_cases h : sizesS m = 0
    · rw [if_neg (by simpa using h), first_zero ms]; simp [h]
    · rw [if_pos h]; simp [h]
theorem first_snoc (m : Meth) : ∀ ms : List Meth, firstS ms = 0 → firstS (ms ++ [m]) = sizesS m
  | [], _ => by simp only [List.nil_append, firstS]; split <;> omega
  | x :: ms, h => by
    rw [firstS] at h
    rw [List.cons_append, firstS]
    by_cases hx : sizesS x = 0
    · rw [if_neg (by simpa using hx)] at h ⊢
      exact first_snoc m ms h
    · rw [if_pos hx] at h; exact absurd h hx
theorem first_prefix : ∀ {xs ys : List Meth}, xs <+: ys → firstS xs ≠ 0 → firstS ys = firstS xs
  | [], _, _, h => absurd rfl h
  | x :: xs, [], h, _ => absurd (List.prefix_nil.1 h) (by simp)
  | x :: xs, y :: ys, h, hn => by
    obtain ⟨rfl, h2⟩ := List.cons_prefix_cons.1 h
    rw [firstS] at hn ⊢
    rw [firstS]
    by_cases hx : sizesS x ≠ 0
    · rw [if_pos hx, if_pos hx]
    · rw [if_neg hx] at hn
      rw [if_neg hx, if_neg hx]
      exact first_prefix h2 hn
theorem sizes_eq (m : Meth) (h0 : m.f0.length ≤ 9223372036854775807) (h2 : m.f2.length ≤ 2000000) (h00 : m.f0.length ≤ 2000000) : PVerifyMethods.class_sizes.f 3 m.f0 m.f1 m.f2 m.f3 m.f4 = some (sizesS m) := by
  have j1 : ∀ k b, PVerifyMethods.class_sizes.j1 (k + 1) b m.f0 m.f1 m.f2 m.f3 m.f4 = if b = true then some 1 else if (m.f4.length : Int) = 0 then some 26 else some 0 := fun _ _ => rfl
  unfold PVerifyMethods.class_sizes.f sizesS
  rw [w64v _ (by omega)]
  by_cases c1 : ((m.f0.length : Int) + (m.f2.length : Int)) > 40
  · rw [if_pos c1, if_pos (.inl (by omega)), PVerifyMethods.class_sizes.j0, if_pos rfl]
  · rw [if_neg c1]
    by_cases c2 : m.f3 > 40
    · rw [if_pos c2, if_pos (.inr (.inl (by omega))), PVerifyMethods.class_sizes.j0, if_pos rfl]
    · rw [if_neg c2]
      by_cases c3 : (m.f4.length : Int) > 4096
      · rw [if_pos (.inr (.inr (by omega))), PVerifyMethods.class_sizes.j0, if_pos (by simpa using c3)]
      · rw [if_neg (show ¬ (40 < m.f0.length + m.f2.length ∨ 40 < m.f3 ∨ 4096 < m.f4.length) by omega), PVerifyMethods.class_sizes.j0, if_neg (by simpa using c3)]
        by_cases d1 : m.f3 < 0
        · rw [if_pos d1, if_pos (.inl d1), j1, if_pos rfl]
        · rw [if_neg d1]
          by_cases d2 : m.f1 < 0
          · rw [if_pos d2, if_pos (.inr (.inl d2)), j1, if_pos rfl]
          · rw [if_neg d2, j1]
            by_cases d3 : m.f1 > 2
            · rw [if_pos (by simpa using d3), if_pos (.inr (.inr (by omega)))]
            · rw [if_neg (by simpa using d3), if_neg (show ¬ (m.f3 < 0 ∨ m.f1 < 0 ∨ 2 < m.f1) by omega)]
              by_cases e : m.f4.length = 0
              · rw [if_pos (by omega), if_pos e]
              · rw [if_neg (by omega), if_neg e]
theorem types_l2 (ms : List Meth) (hm : ms.length ≤ 1000) (hs : ∀ m ∈ ms, m.f0.length + m.f2.length ≤ 40) : ∀ (d i : Nat) (x : List Int), i + d = ms.length → x.length + 40 * d ≤ 1000000 →
    ∃ k, PVerifyMethods.class_types.l2 k x ms (ms.length : Int) i = some (x ++ ((ms.drop i).map fun m => m.f0 ++ m.f2).flatten) := by
  intro d
  induction d with
  | zero =>
    intro i x hi hx
    refine ⟨1, ?_⟩
    rw [PVerifyMethods.class_types.l2, if_neg (by omega), List.drop_eq_nil_of_le (by omega)]
    simp
  | succ d ih =>
    intro i x hi hx
    have hlt : i < ms.length := by omega
    have e : PVerifyMethods.rd_T64 ms i = ms[i] := by simp [PVerifyMethods.rd_T64, List.getD_eq_getElem?_getD, hlt]
    have hb := hs ms[i] (List.getElem_mem hlt)
    have e1 : wrap64 ((i : Int) + 1) = ((i + 1 : Nat) : Int) := by rw [w64v _ (by omega)]; omega
    obtain ⟨k, hk⟩ := ih (i + 1) (x ++ (ms[i].f0 ++ ms[i].f2)) (by omega) (by simp only [List.length_append]; omega)
    refine ⟨k + 1, ?_⟩
    rw [PVerifyMethods.class_types.l2, if_pos (by omega), if_pos (by omega), if_pos (by omega), e, if_pos (by omega), Option.bind_some, if_pos (by simp only [List.length_append]; omega), e1, List.append_assoc, hk, List.drop_eq_getElem_cons hlt]
    simp only [List.map_cons, List.flatten_cons, List.append_assoc]
theorem types_l1 (cs : List (List Fld)) (n : Int) (q : Int) (a : List Int) (b : List (List Fld)) (c : List Meth) (fs : List Fld) (hf : fs.length ≤ 1000) (r : List Int) : ∀ (d i : Nat) (x : List Int), i + d = fs.length → x.length + d ≤ 1000000 →
    (∃ k, PVerifyMethods.class_types.l0 k (x ++ ((fs.drop i).map fun f => f.f0)) cs n (wrap64 (q + 1)) a b c = some r) → ∃ k, PVerifyMethods.class_types.l1 k x cs n q fs (fs.length : Int) i a b c = some r := by
  intro d
  induction d with
  | zero =>
    intro i x hi hx ⟨k, hk⟩
    refine ⟨k + 1, ?_⟩
    rw [List.drop_eq_nil_of_le (by omega)] at hk
    rw [PVerifyMethods.class_types.l1, if_neg (by omega)]
    simpa using hk
  | succ d ih =>
    intro i x hi hx hk
    have hlt : i < fs.length := by omega
    have e : PVerifyMethods.rd_T179 fs i = fs[i] := by simp [PVerifyMethods.rd_T179, List.getD_eq_getElem?_getD, hlt]
    have e1 : wrap64 ((i : Int) + 1) = ((i + 1 : Nat) : Int) := by rw [w64v _ (by omega)]; omega
    obtain ⟨k, hk⟩ := ih (i + 1) (x ++ [fs[i].f0]) (by omega) (by simp; omega) (by
      obtain ⟨k, hk⟩ := hk
      refine ⟨k, ?_⟩
      rw [List.drop_eq_getElem_cons hlt, List.map_cons] at hk
      rw [List.append_assoc, List.singleton_append]
      exact hk)
    refine ⟨k + 1, ?_⟩
    rw [PVerifyMethods.class_types.l1, if_pos (by omega), if_pos (by omega), if_pos (by omega), if_pos (by omega), e, e1, hk]
theorem types_l0 (cs : List (List Fld)) (hc : cs.length ≤ 1000) (hw : ∀ c ∈ cs, c.length ≤ 50) (a : List Int) (b : List (List Fld)) (ms : List Meth) (hm : ms.length ≤ 1000) (hs : ∀ m ∈ ms, m.f0.length + m.f2.length ≤ 40) : ∀ (d i : Nat) (x : List Int), i + d = cs.length → x.length + 50 * d + 40 * ms.length ≤ 1000000 →
    ∃ k, PVerifyMethods.class_types.l0 k x cs (cs.length : Int) i a b ms = some (x ++ ((cs.drop i).map fun c => c.map fun f => f.f0).flatten ++ (ms.map fun m => m.f0 ++ m.f2).flatten) := by
  intro d
  induction d with
  | zero =>
    intro i x hi hx
    obtain ⟨k, hk⟩ := types_l2 ms hm hs ms.length 0 x (by omega) (by omega)
    refine ⟨k + 1, ?_⟩
    rw [PVerifyMethods.class_types.l0, if_neg (by omega), List.drop_eq_nil_of_le (by omega)]
    refine hk.trans ?_
    simp
  | succ d ih =>
    intro i x hi hx
    have hlt : i < cs.length := by omega
    have e : PVerifyMethods.rd_L4 cs i = cs[i] := by simp [PVerifyMethods.rd_L4, List.getD_eq_getElem?_getD, hlt]
    have hb := hw cs[i] (List.getElem_mem hlt)
    have e1 : wrap64 ((i : Int) + 1) = ((i + 1 : Nat) : Int) := by rw [w64v _ (by omega)]; omega
    obtain ⟨k, hk⟩ := types_l1 cs (cs.length : Int) i a b ms cs[i] (by omega) (x ++ ((cs.drop i).map fun c => c.map fun f => f.f0).flatten ++ (ms.map fun m => m.f0 ++ m.f2).flatten) cs[i].length 0 x (by omega) (by omega) (by
      obtain ⟨k, hk⟩ := ih (i + 1) (x ++ cs[i].map fun f => f.f0) (by omega) (by simp; omega)
      refine ⟨k, ?_⟩
      rw [e1, List.drop_zero, hk, List.drop_eq_getElem_cons hlt]
      simp only [List.map_cons, List.flatten_cons, List.append_assoc])
    refine ⟨k + 1, ?_⟩
    rw [PVerifyMethods.class_types.l0, if_pos (by omega), if_pos (by omega), if_pos (by omega), e]
    exact hk
theorem types_eq (p : Pg) (hc : p.classes.length ≤ 50) (hw : ∀ c ∈ p.classes, c.length ≤ 50) (hm : p.methods.length ≤ 100) (hs : ∀ m ∈ p.methods, m.f0.length + m.f2.length ≤ 40) : ∃ k, PVerifyMethods.class_types.f k p.pool p.classes p.methods = some (typesS p) := by
  obtain ⟨k, hk⟩ := types_l0 p.classes (by omega) hw p.pool p.classes p.methods (by omega) hs p.classes.length 0 [] (by omega) (by simp; omega)
  refine ⟨k, hk.trans ?_⟩
  simp [typesS]
theorem begins_eq (p : Pg) (h : 0 < p.methods.length) : PVerifyMethods.class_begins.f p.pool p.classes p.methods = some (beginsP p) := by
  unfold PVerifyMethods.class_begins.f beginsP methS
  rw [if_pos (by omega)]
  by_cases h1 : (PVerifyMethods.rd_T64 p.methods 0).f0.length = 0
  · rw [if_pos (by omega)]
    congr 1
    rw [Bool.eq_iff_iff]
    simp [h1]
  · rw [if_neg (by omega)]
    simp [h1]
theorem over_calls (A : Option Addr) (n c : Nat) (w : World) : Calls Tryd.prog 90 #[.slice A n c] w fun e w' => e = .returned (.bool (decide (50 < (n : Int)))) ∧ w' = w := by
  go_enter Tryd.func90, Tryd.ntmps90
  go_wp2_with fail
  go_ret
  exact ⟨rfl, rfl⟩
theorem typed_calls (t : Int) (w : World) : Calls Tryd.prog 95 #[.int .i64 t] w fun e w' => e = .returned (.bool (decide (t = 1 ∨ t = 2))) ∧ w' = w := by
  by_cases h1 : t = 1
  · subst h1
    go_enter Tryd.func95, Tryd.ntmps95
    go_wp2_with fail
    go_ret
    exact ⟨rfl, rfl⟩
  · have t1 : (t == 1) = false := by simpa using h1
    by_cases h2 : t = 2
    · subst h2
      go_enter Tryd.func95, Tryd.ntmps95
      go_wp2_with fail
      go_ret
      exact ⟨rfl, rfl⟩
    · have t2 : (t == 2) = false := by simpa using h2
      have t3 : decide (t = 1 ∨ t = 2) = false := by simp [h1, h2]
      rw [t3]
      go_enter Tryd.func95, Tryd.ntmps95
      go_wp2_with fail
      go_ret
      exact ⟨rfl, rfl⟩
theorem odd_calls (t : Int) (w : World) : Calls Tryd.prog 94 #[.int .i64 t] w fun e w' => e = .returned (.bool (oddT t)) ∧ w' = w := by
  have hT := typed_calls t w
  go_enter Tryd.func94, Tryd.ntmps94
  go_wp2_with (first | (go_at_call 95; refine hT.mono ?_; rintro e w1 ⟨rfl, rfl⟩))
  go_ret
  exact ⟨by simp [oddT], rfl⟩
theorem getD_in {α : Type} {l : List α} {i : Nat} {d : α} (h : i < l.length) : l.getD i d ∈ l := by
  rw [List.getD_eq_getElem?_getD, List.getElem?_eq_getElem h]
  exact List.getElem_mem h
theorem any_no {α : Type} (l : List α) (d : α) (P : α → Bool) (h : ∀ i, i < l.length → P (l.getD i d) = false) : l.any P = false := by
  rw [List.any_eq_false]
  intro x hx
  obtain ⟨i, hi, rfl⟩ := List.getElem_of_mem hx
  have := h i hi
  rw [List.getD_eq_getElem?_getD, List.getElem?_eq_getElem hi] at this
  simpa using this
theorem any_yes {α : Type} (l : List α) (d : α) (P : α → Bool) (i : Nat) (hi : i < l.length) (h : P (l.getD i d) = true) : l.any P = true :=
  List.any_eq_true.2 ⟨_, getD_in hi, h⟩
set_option maxRecDepth 100000 in
set_option maxHeartbeats 1600000 in
theorem index_fields {w : World} {A : Option Addr} {c : Nat} {l : List (List Fld)} (h : Kd.C (Kd.slice 179 PVerifyMethods.k179) w A l.length l) (hl : l.length ≤ 1000000) :
    Calls Tryd.prog 134 #[.slice A l.length c, .func (.func 90) #[] #[]] w fun e w' => ∃ k : Int, e = .returned (.int .i64 k) ∧ decide (0 ≤ k) = l.any wideC ∧ w' = w := by
  have H := Lib.hid h
  have hl' := Lib.hid hl
  clear h
  go_enter Tryd.func134, Tryd.ntmps134
  go_wp2_with fail
  go_loopg [8] l.length (fun g s8 wx => ∃ j : Nat, j + g = l.length ∧ s8 = .int .i64 j ∧ Hid (∀ i, i < j → wideC (l.getD i []) = false) ∧ w = wx)
  case atStart => exact ⟨0, by omega, rfl, Lib.hid (fun i hi => by omega), rfl⟩
  case round =>
    obtain ⟨j, hjg, rfl, HJ, rfl⟩ := hrel
    cases gk with
    | zero =>
      have ht : decide ((j : Int) < (l.length : Int)) = false := by simp; omega
      go_wp2_with fail
      try rw [Exit.noGoto_ret]
      go_ret
      exact ⟨-1, rfl, (any_no l [] _ fun i hi => HJ.out i (by omega)).symm, rfl⟩
    | succ g =>
      have hj : j < l.length := by omega
      have ht : decide ((j : Int) < (l.length : Int)) = true := by simp; omega
      have j0 : (0 : Int) ≤ (j : Int) := by omega
      have j1 : (j : Int) < (l.length : Int) := by omega
      obtain ⟨ad, A0, c0, rfl, hc, hle, -⟩ := PVerifyMethods.at_L4 H.out j j0 j1
      rw [Int.toNat_natCast] at hc
      have hov := over_calls A0 (PVerifyMethods.rd_L4 l j).length c0 w
      rw [wideC_int] at hov
      cases hb : wideC (PVerifyMethods.rd_L4 l j) with
      | true =>
        rw [hb] at hov
        go_wp2_with (first | (go_at_call 90; refine hov.mono ?_; rintro e w1 ⟨rfl, rfl⟩))
        try rw [Exit.noGoto_ret]
        go_ret
        refine ⟨j, rfl, ?_, rfl⟩
        rw [any_yes l [] _ j hj (by simpa [PVerifyMethods.rd_L4] using hb)]
        simp
      | false =>
        rw [hb] at hov
        go_wp2_with (first | (go_at_call 90; refine hov.mono ?_; rintro e w1 ⟨rfl, rfl⟩))
        go_roundg g
        case measure => omega
        case rel =>
          refine ⟨j + 1, by omega, by first | rfl | simp, Lib.hid fun i hi => ?_, rfl⟩
          by_cases hij : i = j
          · subst hij; simpa [PVerifyMethods.rd_L4] using hb
          · exact HJ.out i (by omega)
set_option maxRecDepth 100000 in
set_option maxHeartbeats 1600000 in
theorem index_types {w : World} {A : Option Addr} {c : Nat} {l : List Int} (h : Kd.C (Kd.int .i64) w A l.length l) (hl : l.length ≤ 1000000) :
    Calls Tryd.prog 135 #[.slice A l.length c, .func (.func 94) #[] #[]] w fun e w' => ∃ k : Int, e = .returned (.int .i64 k) ∧ decide (0 ≤ k) = l.any oddT ∧ w' = w := by
  have H := Lib.hid h
  have hl' := Lib.hid hl
  clear h
  go_enter Tryd.func135, Tryd.ntmps135
  go_wp2_with fail
  go_loopg [8] l.length (fun g s8 wx => ∃ j : Nat, j + g = l.length ∧ s8 = .int .i64 j ∧ Hid (∀ i, i < j → oddT (l.getD i 0) = false) ∧ w = wx)
  case atStart => exact ⟨0, by omega, rfl, Lib.hid (fun i hi => by omega), rfl⟩
  case round =>
    obtain ⟨j, hjg, rfl, HJ, rfl⟩ := hrel
    cases gk with
    | zero =>
      have ht : decide ((j : Int) < (l.length : Int)) = false := by simp; omega
      go_wp2_with fail
      try rw [Exit.noGoto_ret]
      go_ret
      exact ⟨-1, rfl, (any_no l 0 _ fun i hi => HJ.out i (by omega)).symm, rfl⟩
    | succ g =>
      have hj : j < l.length := by omega
      have ht : decide ((j : Int) < (l.length : Int)) = true := by simp; omega
      have j0 : (0 : Int) ≤ (j : Int) := by omega
      have j1 : (j : Int) < (l.length : Int) := by omega
      obtain ⟨ad, rfl, hc⟩ := Kd.at_int H.out j j0 j1
      rw [Int.toNat_natCast] at hc
      have hov := odd_calls (rd l j) w
      cases hb : oddT (rd l j) with
      | true =>
        rw [hb] at hov
        go_wp2_with (first | (go_at_call 94; refine hov.mono ?_; rintro e w1 ⟨rfl, rfl⟩))
        try rw [Exit.noGoto_ret]
        go_ret
        refine ⟨j, rfl, ?_, rfl⟩
        rw [any_yes l 0 _ j hj (by simpa [rd] using hb)]
        simp
      | false =>
        rw [hb] at hov
        go_wp2_with (first | (go_at_call 94; refine hov.mono ?_; rintro e w1 ⟨rfl, rfl⟩))
        go_roundg g
        case measure => omega
        case rel =>
          refine ⟨j + 1, by omega, by first | rfl | simp, Lib.hid fun i hi => ?_, rfl⟩
          by_cases hij : i = j
          · subst hij; simpa [rd] using hb
          · exact HJ.out i (by omega)
theorem contains_fields {w : World} {A : Option Addr} {c : Nat} {l : List (List Fld)} (h : Kd.C (Kd.slice 179 PVerifyMethods.k179) w A l.length l) (hl : l.length ≤ 1000000) :
    Calls Tryd.prog 89 #[.slice A l.length c, .func (.func 90) #[] #[]] w fun e w' => e = .returned (.bool (l.any wideC)) ∧ w' = w := by
  have H := index_fields (c := c) h hl
  go_enter Tryd.func89, Tryd.ntmps89
  go_wp2_with (first | (go_at_call 134; refine H.mono ?_; rintro e w1 ⟨k, rfl, hk, rfl⟩))
  go_ret
  exact ⟨rfl, rfl⟩
theorem contains_types {w : World} {A : Option Addr} {c : Nat} {l : List Int} (h : Kd.C (Kd.int .i64) w A l.length l) (hl : l.length ≤ 1000000) :
    Calls Tryd.prog 92 #[.slice A l.length c, .func (.func 94) #[] #[]] w fun e w' => e = .returned (.bool (l.any oddT)) ∧ w' = w := by
  have H := index_types (c := c) h hl
  go_enter Tryd.func92, Tryd.ntmps92
  go_wp2_with (first | (go_at_call 135; refine H.mono ?_; rintro e w1 ⟨k, rfl, hk, rfl⟩))
  go_ret
  exact ⟨rfl, rfl⟩
end Go.Proofs.YtkphijabhoppnaaDoor
