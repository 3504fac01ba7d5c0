/- What the walk through a method comes to, in plain terms. -/
import Derived.Test.YtkphijabhoppnaaDoorAVm
import Derived.Test.YtkphijabhoppnaaDoorAVn
namespace Go.Proofs.YtkphijabhoppnaaDoor
open Go.RowKit
set_option linter.unusedSimpArgs false
set_option linter.unusedVariables false
def markS (n : Nat) (pre : List (Nat × Rd)) : List Bool := pre.foldl (fun b x => b.set x.1 true) (List.replicate n false)
def beginsS (l : List Int) : List Bool := markS l.length (opsL l)
theorem markS_snoc (n : Nat) (pre : List (Nat × Rd)) (x : Nat × Rd) : markS n (pre ++ [x]) = (markS n pre).set x.1 true := by simp [markS, List.foldl_append]
theorem mark_len : ∀ (pre : List (Nat × Rd)) (b : List Bool), (pre.foldl (fun b x => b.set x.1 true) b).length = b.length
  | [], _ => rfl
  | x :: xs, b => by rw [List.foldl_cons, mark_len xs, List.length_set]
theorem markS_len (n : Nat) (pre : List (Nat × Rd)) : (markS n pre).length = n := (mark_len _ _).trans (List.length_replicate ..)
theorem mark_get : ∀ (pre : List (Nat × Rd)) (b : List Bool) (i : Nat), (pre.foldl (fun b x => b.set x.1 true) b).getD i false = true ↔ b.getD i false = true ∨ (i < b.length ∧ ∃ x ∈ pre, x.1 = i)
  | [], b, i => by simp
  | x :: xs, b, i => by
    rw [List.foldl_cons, mark_get xs, List.length_set]
    by_cases h : x.1 = i
    · subst h
      by_cases hl : x.1 < b.length
      · simp [List.getD_eq_getElem?_getD, List.getElem?_set_self hl, hl]
      · have : b.set x.1 true = b := List.set_eq_of_length_le (by omega)
        rw [this]; simp [hl]
    · rw [List.getD_eq_getElem?_getD, List.getElem?_set_ne h, ← List.getD_eq_getElem?_getD]
      simp [h]
theorem begins_iff (l : List Int) (i : Nat) : (beginsS l).getD i false = true ↔ i < l.length ∧ ∃ x ∈ opsL l, x.1 = i := by
  unfold beginsS markS
  rw [mark_get]
  simp [List.getD_eq_getElem?_getD, List.getElem?_replicate]
  intro h
  split at h <;> simp at h
theorem endO_endN (l : List Int) (hl : l.length ≤ 1000000) : endO (opsL l) = (endN 0 (opsL l) : Int) := by
  rcases List.eq_nil_or_concat (opsL l) with h | ⟨xs, x, h⟩
  · rw [h]; rfl
  · have hm := opsFrom_mem l l.length 0 x (show x ∈ opsL l by rw [h]; simp)
    have hc : Chain 0 (opsL l) := chain_from l l.length 0
    rw [h] at hc ⊢
    simp only [List.concat_eq_append] at hc ⊢
    have := ((chain_snoc xs x 0).1 hc).2
    rw [endO_snoc, endN_snoc]
    have hs := readAt_size l x.1 (by rw [← hm.2.2.1]; exact hm.2.2.2)
    rw [← hm.2.2.1] at hs
    have := hm.2.1
    unfold wrap64; omega
theorem places_zero (l : List Int) (hl : l.length ≤ 1000000) (h : (placesS l).2 = 0) : endN 0 (opsL l) = l.length := by
  have e := endO_endN l hl
  have h1 : endN 0 (opsL l) ≤ l.length := (end_from2 l l.length 0 (by omega) (by omega)).1
  unfold placesS at h
  rw [e] at h
  split at h
  · exact absurd h (read_behind l)
  · omega
theorem from_next (l : List Int) : ∀ f i, endN i (opsFrom l f i) = l.length → ∀ x ∈ opsFrom l f i, x.1 + x.2.size.toNat < l.length → ∃ y ∈ opsFrom l f i, y.1 = x.1 + x.2.size.toNat := by
  intro f
  induction f with
  | zero => intro i _ x hx; simp [opsFrom] at hx
  | succ f ih =>
    intro i he x hx hlt
    rw [opsFrom] at he hx ⊢
    split at hx
    · rename_i hi
      rw [if_pos hi] at he ⊢
      split at hx
      · rename_i hr
        rw [if_pos hr] at he ⊢
        rcases List.mem_cons.1 hx with rfl | hx
        · cases hq : opsFrom l f (i + (readAt l i).size.toNat) with
          | nil =>
            rw [hq] at he
            simp only [endN] at he
            dsimp only at hlt
            omega
          | cons y ys =>
            have hc := chain_from l f (i + (readAt l i).size.toNat)
            rw [hq] at hc
            exact ⟨y, by simp, hc.1⟩
        · obtain ⟨y, hy, e⟩ := ih _ he x hx hlt
          exact ⟨y, List.mem_cons_of_mem _ hy, e⟩
      · simp at hx
    · simp at hx
theorem opnd_all (p : Pg) (m : Meth) (n : Nat) (begins : List Bool) : ∀ xs : List (Nat × Rd), (opndS p m n begins xs).2 = 0 → ∀ x ∈ xs, badS p m n begins x = 0
  | [], _, x, hx => by simp at hx
  | y :: ys, h, x, hx => by
    rw [opndS] at h
    by_cases hy : badS p m n begins y = 0
    · rw [if_pos hy] at h
      rcases List.mem_cons.1 hx with rfl | hx
      · exact hy
      · exact opnd_all p m n begins ys h x hx
    · rw [if_neg hy] at h
      exact absurd h hy
theorem bad_zero {p : Pg} {m : Meth} {n : Nat} {begins : List Bool} {x : Nat × Rd} (h : badS p m n begins x = 0) :
    namedS p m x.2.code x.2.a x.2.b = true ∧ (x.2.code = 25 ∨ x.2.code = 26 → 0 ≤ (x.1 : Int) + x.2.a ∧ (x.1 : Int) + x.2.a < n ∧ begins.getD ((x.1 : Int) + x.2.a).toNat false = true) := by
  unfold badS at h
  by_cases h1 : namedS p m x.2.code x.2.a x.2.b = false
  · rw [if_pos h1] at h; simp at h
  · rw [if_neg h1] at h
    refine ⟨by simpa using h1, fun hc => ?_⟩
    by_cases h2 : (x.2.code = 25 ∨ x.2.code = 26) ∧ ((x.1 : Int) + x.2.a < 0 ∨ (n : Int) ≤ (x.1 : Int) + x.2.a ∨ begins.getD ((x.1 : Int) + x.2.a).toNat false = false)
    · rw [if_pos h2] at h; simp at h
    · have h3 := fun h => h2 ⟨hc, h⟩
      refine ⟨by omega, by omega, ?_⟩
      by_cases h4 : begins.getD ((x.1 : Int) + x.2.a).toNat false = true
      · exact h4
      · exact absurd (.inr (.inr (by simpa using h4))) h3
structure Ready (p : Pg) (m : Meth) : Prop where
  by' : ∀ x ∈ m.f4, 0 ≤ x ∧ x ≤ 255
  hn : 0 < m.f4.length
  len : m.f4.length ≤ 4096
  pl : (placesS m.f4).2 = 0
  op : (opndS p m m.f4.length (beginsS m.f4) (opsL m.f4)).2 = 0
  st : 0 ≤ m.f3 ∧ m.f3 ≤ 40
  few : FewPar p
structure Fine (p : Pg) (m : Meth) (i : Nat) : Prop where
  good : Good p m m.f4.length i
  jump : (readAt m.f4 i).code = 25 ∨ (readAt m.f4 i).code = 26 → (i : Int) + (readAt m.f4 i).a < m.f4.length ∧ (beginsS m.f4).getD ((i : Int) + (readAt m.f4 i).a).toNat false = true
  next : i + (readAt m.f4 i).size.toNat < m.f4.length → (beginsS m.f4).getD (i + (readAt m.f4 i).size.toNat) false = true
theorem fine_at {p : Pg} {m : Meth} (h : Ready p m) (i : Nat) (hi : (beginsS m.f4).getD i false = true) : Fine p m i := by
  obtain ⟨hl, x, hx, rfl⟩ := (begins_iff _ _).1 hi
  obtain ⟨-, -, h3, h4⟩ := opsFrom_mem m.f4 _ _ x hx
  have hb := bad_zero (opnd_all p m _ _ _ h.op x hx)
  have hen := places_zero m.f4 (by have := h.len; omega) h.pl
  rw [h3] at h4 hb
  have hg := readAt_good m.f4 h.by' x.1 hl h4
  have hs := readAt_size m.f4 x.1 h4
  refine ⟨⟨hl, h4, hg.1, hb.1, fun hc => (hb.2 hc).1, hs, hg.2.1⟩, fun hc => (hb.2 hc).2, fun hlt => ?_⟩
  obtain ⟨y, hy, e⟩ := from_next m.f4 m.f4.length 0 hen x hx (by rw [h3]; exact hlt)
  rw [h3] at e
  exact (begins_iff _ _).2 ⟨hlt, y, hy, e⟩
theorem begins_zero {p : Pg} {m : Meth} (h : Ready p m) : (beginsS m.f4).getD 0 false = true := by
  refine (begins_iff _ _).2 ⟨h.hn, ?_⟩
  have hen := places_zero m.f4 (by have := h.len; omega) h.pl
  have hc : Chain 0 (opsL m.f4) := chain_from m.f4 m.f4.length 0
  cases hq : opsL m.f4 with
  | nil => rw [hq] at hen; have := h.hn; simp only [endN] at hen; omega
  | cons y ys => rw [hq] at hc; exact ⟨y, by simp, hc.1⟩
structure InvS (m : Meth) (sh : List Shp) (has : List Bool) : Prop where
  ls : sh.length = m.f4.length
  lh : has.length = m.f4.length
  at' : ∀ i, has.getD i false = true → (beginsS m.f4).getD i false = true ∧ 0 ≤ (sh.getD i ([], 0)).2 ∧ (sh.getD i ([], 0)).2 ≤ 10 ∧ (sh.getD i ([], 0)).1.length ≤ 40
def effAt (p : Pg) (m : Meth) (sh : List Shp) (i : Nat) : Shp × Int := effectS p m (readAt m.f4 i).code (readAt m.f4 i).a (readAt m.f4 i).b (sh.getD i ([], 0))
def Grows (sh : List Shp) (has : List Bool) (sh' : List Shp) (has' : List Bool) : Prop := ∀ j, has.getD j false = true → has'.getD j false = true ∧ sh'.getD j ([], 0) = sh.getD j ([], 0)
theorem Grows.trans {a c e : List Shp} {b d f : List Bool} (h : Grows a b c d) (k : Grows c d e f) : Grows a b e f := fun j hj => ⟨(k j (h j hj).1).1, ((k j (h j hj).1).2).trans (h j hj).2⟩
theorem getD_set_self {α : Type} {l : List α} {i : Nat} {a d : α} (h : i < l.length) : (l.set i a).getD i d = a := by
  rw [List.getD_eq_getElem?_getD, List.getElem?_set_self h]; rfl
theorem getD_set_ne {α : Type} {l : List α} {i j : Nat} {a d : α} (h : i ≠ j) : (l.set i a).getD j d = l.getD j d := by
  rw [List.getD_eq_getElem?_getD, List.getElem?_set_ne h, ← List.getD_eq_getElem?_getD]
theorem reach_ok {m : Meth} {sh : List Shp} {has : List Bool} {q : Int} {s : Shp} (hI : InvS m sh has) (h0 : 0 ≤ q) (hq : q < m.f4.length → (beginsS m.f4).getD q.toNat false = true)
    (hs : 0 ≤ s.2 ∧ s.2 ≤ 10 ∧ s.1.length ≤ 40) (hz : (reachS m.f4.length sh has q s).2 = 0) :
    q < m.f4.length ∧ InvS m (reachS m.f4.length sh has q s).1.1 (reachS m.f4.length sh has q s).1.2 ∧ Grows sh has (reachS m.f4.length sh has q s).1.1 (reachS m.f4.length sh has q s).1.2 ∧
      (reachS m.f4.length sh has q s).1.2.getD q.toNat false = true ∧ (reachS m.f4.length sh has q s).1.1.getD q.toNat ([], 0) = s := by
  unfold reachS at hz ⊢
  by_cases h1 : (m.f4.length : Int) ≤ q
  · rw [if_pos h1] at hz; simp at hz
  · rw [if_neg h1] at hz ⊢
    have hlt : q.toNat < m.f4.length := by omega
    by_cases h2 : has.getD q.toNat false = false
    · rw [if_pos h2]
      refine ⟨by omega, ⟨by rw [List.length_set]; exact hI.ls, by rw [List.length_set]; exact hI.lh, fun i hi => ?_⟩, fun j hj => ?_, getD_set_self (by rw [hI.lh]; exact hlt), getD_set_self (by rw [hI.ls]; exact hlt)⟩
      · by_cases hiq : q.toNat = i
        · subst hiq
          dsimp only
          rw [getD_set_self (by rw [hI.ls]; exact hlt)]
          exact ⟨hq (by omega), hs⟩
        · dsimp only at hi ⊢
          rw [getD_set_ne hiq] at hi ⊢
          exact hI.at' i hi
      · have hjq : q.toNat ≠ j := fun e => by rw [e] at h2; rw [h2] at hj; simp at hj
        dsimp only
        rw [getD_set_ne hjq, getD_set_ne hjq]
        exact ⟨hj, rfl⟩
    · rw [if_neg h2] at hz ⊢
      by_cases h3 : (sh.getD q.toNat ([], 0)).1.length ≠ s.1.length
      · rw [if_pos h3] at hz; simp at hz
      · rw [if_neg h3] at hz ⊢
        by_cases h4 : (sh.getD q.toNat ([], 0)).1 ≠ s.1
        · rw [if_pos h4] at hz; simp at hz
        · rw [if_neg h4] at hz ⊢
          by_cases h5 : (sh.getD q.toNat ([], 0)).2 ≠ s.2
          · rw [if_pos h5] at hz; simp at hz
          · rw [if_neg h5]
            exact ⟨by omega, hI, fun j hj => ⟨hj, rfl⟩, by simpa using h2, Prod.ext (Decidable.not_not.1 h4) (Decidable.not_not.1 h5)⟩
theorem shuffle_len {c : Int} {l r : List Int} (h : shuffleS c l = some r) : r.length ≤ l.length + 1 := by
  unfold shuffleS at h
  split at h
  · simp at h
  · split at h
    · simp at h; subst h; simp
    · split at h
      · simp at h; subst h; simp; omega
      · simp at h; subst h; simp
theorem effect_len (p : Pg) (m : Meth) (c a b : Int) (s : Shp) (hp : FewPar p) : (effectS p m c a b s).1.1.length ≤ s.1.length + 2 := by
  unfold effectS
  split
  · split
    · simp
    · rename_i r hr
      have := shuffle_len hr
      dsimp only; omega
  · split
    · simp
    · split
      · split
        · simp
        · have := (moves_len p m c a b hp).2
          simp only [List.length_append, List.length_take]
          omega
      · simp
theorem effect_held (p : Pg) (m : Meth) (c a b : Int) (s : Shp) (h : 0 ≤ s.2 ∧ s.2 ≤ 10) : 0 ≤ (effectS p m c a b s).1.2 ∧ (effectS p m c a b s).1.2 ≤ 10 := by
  unfold effectS
  split
  · split
    · simp
    · exact h
  · split
    · simp
    · split
      · split
        · simp
        · rename_i hh
          dsimp only
          by_cases he : heldS c s.2 = s.2
          · rw [he]; exact h
          · have := fun k => hh ⟨he, k⟩
            omega
      · simp
structure Onward (p : Pg) (m : Meth) (sh : List Shp) (has : List Bool) (i : Nat) : Prop where
  e : (effAt p m sh i).2 = 0
  st : ((effAt p m sh i).1.1.length : Int) ≤ m.f3
  on : (readAt m.f4 i).code ≠ 25 → (readAt m.f4 i).code ≠ 28 → i + (readAt m.f4 i).size.toNat < m.f4.length ∧ has.getD (i + (readAt m.f4 i).size.toNat) false = true ∧ sh.getD (i + (readAt m.f4 i).size.toNat) ([], 0) = (effAt p m sh i).1
  far : (readAt m.f4 i).code = 25 ∨ (readAt m.f4 i).code = 26 → has.getD ((i : Int) + (readAt m.f4 i).a).toNat false = true ∧ sh.getD ((i : Int) + (readAt m.f4 i).a).toNat ([], 0) = (effAt p m sh i).1
theorem through_ok {p : Pg} {m : Meth} {sh : List Shp} {has : List Bool} {i : Nat} (hR : Ready p m) (hI : InvS m sh has) (hi : has.getD i false = true) (hz : (throughS p m m.f4.length sh has i).2 = 0) :
    InvS m (throughS p m m.f4.length sh has i).1.1 (throughS p m m.f4.length sh has i).1.2 ∧ Grows sh has (throughS p m m.f4.length sh has i).1.1 (throughS p m m.f4.length sh has i).1.2 ∧ Onward p m (throughS p m m.f4.length sh has i).1.1 (throughS p m m.f4.length sh has i).1.2 i := by
  obtain ⟨hb, h0, h10, h40⟩ := hI.at' i hi
  have hF := fine_at hR i hb
  have hhe := effect_held p m (readAt m.f4 i).code (readAt m.f4 i).a (readAt m.f4 i).b (sh.getD i ([], 0)) ⟨h0, h10⟩
  have hsz := hF.good.size
  have hst := hR.st
  have key : (throughS p m m.f4.length sh has i).2 = 0 → (effAt p m sh i).2 = 0 ∧ ((effAt p m sh i).1.1.length : Int) ≤ m.f3 ∧ throughS p m m.f4.length sh has i = onS m.f4.length sh has i (readAt m.f4 i) (effAt p m sh i).1 := by
    intro hz
    unfold throughS at hz ⊢
    change (if (effAt p m sh i).2 ≠ 0 then ((sh, has), (effAt p m sh i).2) else if m.f3 < ((effAt p m sh i).1.1.length : Int) ∨ ((readAt m.f4 i).code = 28 ∧ 0 < (effAt p m sh i).1.1.length) then ((sh, has), (22 : Int)) else if (readAt m.f4 i).code = 28 ∧ (effAt p m sh i).1.2 ≠ 0 then ((sh, has), (25 : Int)) else onS m.f4.length sh has i (readAt m.f4 i) (effAt p m sh i).1).2 = 0 at hz
    change _ ∧ _ ∧ (if (effAt p m sh i).2 ≠ 0 then ((sh, has), (effAt p m sh i).2) else if m.f3 < ((effAt p m sh i).1.1.length : Int) ∨ ((readAt m.f4 i).code = 28 ∧ 0 < (effAt p m sh i).1.1.length) then ((sh, has), (22 : Int)) else if (readAt m.f4 i).code = 28 ∧ (effAt p m sh i).1.2 ≠ 0 then ((sh, has), (25 : Int)) else onS m.f4.length sh has i (readAt m.f4 i) (effAt p m sh i).1) = _
    by_cases k1 : (effAt p m sh i).2 ≠ 0
    · rw [if_pos k1] at hz; exact absurd hz k1
    · rw [if_neg k1] at hz ⊢
      by_cases k2 : m.f3 < ((effAt p m sh i).1.1.length : Int) ∨ ((readAt m.f4 i).code = 28 ∧ 0 < (effAt p m sh i).1.1.length)
      · rw [if_pos k2] at hz; simp at hz
      · rw [if_neg k2] at hz ⊢
        by_cases k3 : (readAt m.f4 i).code = 28 ∧ (effAt p m sh i).1.2 ≠ 0
        · rw [if_pos k3] at hz; simp at hz
        · rw [if_neg k3]
          exact ⟨Decidable.not_not.1 k1, by have := fun h => k2 (.inl h); omega, rfl⟩
  obtain ⟨e1, e2, e3⟩ := key hz
  rw [e3] at hz ⊢
  have hs : 0 ≤ (effAt p m sh i).1.2 ∧ (effAt p m sh i).1.2 ≤ 10 ∧ (effAt p m sh i).1.1.length ≤ 40 := ⟨hhe.1, hhe.2, by omega⟩
  have eff : ∀ {sh' has'}, Grows sh has sh' has' → effAt p m sh' i = effAt p m sh i := fun hg => by unfold effAt; rw [(hg i hi).2]
  have hn1 : ((i : Int) + (readAt m.f4 i).size).toNat = i + (readAt m.f4 i).size.toNat := by omega
  unfold onS at hz ⊢
  by_cases c28 : (readAt m.f4 i).code = 28
  · rw [if_pos c28]
    have hg : Grows sh has sh has := fun j hj => ⟨hj, rfl⟩
    exact ⟨hI, hg, ⟨e1, e2, fun _ h => absurd c28 h, fun h => by omega⟩⟩
  · rw [if_neg c28] at hz ⊢
    by_cases c25 : (readAt m.f4 i).code = 25
    · rw [if_pos c25] at hz ⊢
      obtain ⟨q1, q2, q3, q4, q5⟩ := reach_ok hI (hF.good.jump (.inl c25)) (fun _ => (hF.jump (.inl c25)).2) hs hz
      exact ⟨q2, q3, ⟨(eff q3).symm ▸ e1, (eff q3).symm ▸ e2, fun h => absurd c25 h, fun _ => ⟨q4, q5.trans (by rw [eff q3])⟩⟩⟩
    · rw [if_neg c25] at hz ⊢
      have hnx : (i : Int) + (readAt m.f4 i).size < m.f4.length → (beginsS m.f4).getD ((i : Int) + (readAt m.f4 i).size).toNat false = true := fun h => by rw [hn1]; exact hF.next (by omega)
      by_cases c26 : (readAt m.f4 i).code = 26
      · rw [if_pos c26] at hz ⊢
        by_cases hr : (reachS m.f4.length sh has (↑i + (readAt m.f4 i).size) (effAt p m sh i).1).2 = 0
        · rw [if_pos hr] at hz ⊢
          obtain ⟨q1, q2, q3, q4, q5⟩ := reach_ok hI (by omega) hnx hs hr
          obtain ⟨r1, r2, r3, r4, r5⟩ := reach_ok q2 (hF.good.jump (.inr c26)) (fun _ => (hF.jump (.inr c26)).2) hs hz
          have hg := q3.trans r3
          refine ⟨r2, hg, ⟨(eff hg).symm ▸ e1, (eff hg).symm ▸ e2, fun _ _ => ⟨by omega, ?_, ?_⟩, fun _ => ⟨r4, r5.trans (by rw [eff hg])⟩⟩⟩
          · rw [← hn1]; exact (r3 _ q4).1
          · rw [← hn1]; exact ((r3 _ q4).2).trans (q5.trans (by rw [eff hg]))
        · rw [if_neg hr] at hz; exact absurd hz hr
      · rw [if_neg c26] at hz ⊢
        obtain ⟨q1, q2, q3, q4, q5⟩ := reach_ok hI (by omega) hnx hs hz
        refine ⟨q2, q3, ⟨(eff q3).symm ▸ e1, (eff q3).symm ▸ e2, fun _ _ => ⟨by omega, ?_, ?_⟩, fun h => by omega⟩⟩
        · rw [← hn1]; exact q4
        · rw [← hn1]; exact q5.trans (by rw [eff q3])
theorem keeps_inv {E : Env} (hR : Ready E.p E.m) (hn : E.n = E.m.f4.length) : Keeps E (fun sh has => InvS E.m sh has) := by
  refine ⟨fun sh has i hI hi hh => ?_, fun sh has i hI hi hh hz => ?_⟩
  · obtain ⟨hb, h0, h10, h40⟩ := hI.at' i hh
    have hF := fine_at hR i hb
    have hel := effect_len E.p E.m (readAt E.m.f4 i).code (readAt E.m.f4 i).a (readAt E.m.f4 i).b (sh.getD i ([], 0)) hR.few
    rw [hn]
    exact ⟨hF.good, h0, h10, by omega, by omega⟩
  · rw [hn] at hz ⊢
    exact (through_ok hR hI hh hz).1
def shapes0 (n : Nat) : List Shp := List.replicate n ([], 0)
def has0 (n : Nat) : List Bool := (List.replicate n false).set 0 true
def methodS (p : Pg) (m : Meth) : (Int × Int) × (List Shp × List Bool) :=
  if (placesS m.f4).2 ≠ 0 then ((endO (opsL m.f4), (placesS m.f4).2), ([], []))
  else if (opndS p m m.f4.length (beginsS m.f4) (opsL m.f4)).2 ≠ 0 then (opndS p m m.f4.length (beginsS m.f4) (opsL m.f4), ([], []))
  else allS p m m.f4.length (m.f4.length + 1) (shapes0 m.f4.length) (has0 m.f4.length) (List.replicate m.f4.length false)
theorem inv_start {p : Pg} {m : Meth} (hR : Ready p m) : InvS m (shapes0 m.f4.length) (has0 m.f4.length) := by
  refine ⟨by simp [shapes0], by simp [has0], fun i hi => ?_⟩
  unfold has0 at hi
  by_cases h : 0 = i
  · subst h
    have hn := hR.hn
    refine ⟨begins_zero hR, ?_⟩
    simp [shapes0, List.getD_eq_getElem?_getD, List.getElem?_replicate, hn]
  · rw [getD_set_ne h] at hi
    rw [List.getD_eq_getElem?_getD, List.getElem?_replicate] at hi
    split at hi <;> simp at hi
end Go.Proofs.YtkphijabhoppnaaDoor
