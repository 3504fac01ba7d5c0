/- The plain law: bytecodes lie side by side, and what is read of one is written as its bytes. -/
import Derived.Test.YtkphijabhoppnaaDoorBd
namespace Go.Proofs.YtkphijabhoppnaaDoor
open Go.RowKit
set_option linter.unusedSimpArgs false
set_option linter.unusedVariables false

theorem drop_take (l : List Int) (p n : Nat) (h : p + n ≤ l.length) : (l.drop p).take n = (List.range n).map fun j => l.getD (p + j) 0 := by
  apply List.ext_getElem
  · simp; omega
  · intro i h1 h2
    have hi : i < n := by simpa using h2
    have : p + i < l.length := by omega
    simp [List.getElem?_eq_getElem this]
theorem getD_drop2 (l : List Int) (p : Nat) (h : p + 1 < l.length) : (l.drop p).take 2 = [l.getD p 0, l.getD (p + 1) 0] := by
  rw [drop_take l p 2 (by omega)]; rfl
theorem getD_drop3 (l : List Int) (p : Nat) (h : p + 2 < l.length) : (l.drop p).take 3 = [l.getD p 0, l.getD (p + 1) 0, l.getD (p + 2) 0] := by
  rw [drop_take l p 3 (by omega)]; rfl
theorem getD_drop1 (l : List Int) (p : Nat) (h : p < l.length) : (l.drop p).take 1 = [l.getD p 0] := by
  rw [drop_take l p 1 (by omega)]; rfl

/-- What is read is written as the bytes that it was read of. -/
theorem write_read (l : List Int) (hby : ∀ x ∈ l, 0 ≤ x ∧ x ≤ 255) (p : Nat) (hp : p < l.length) (h : (readAt l p).err = 0) :
    writeS (readAt l p).code (readAt l p).a (readAt l p).b = ((l.drop p).take (readAt l p).size.toNat, 0) := by
  have byte : ∀ j, j < l.length → 0 ≤ l.getD j 0 ∧ l.getD j 0 ≤ 255 := fun j hj => hby (l.getD j 0) (by rw [List.getD_eq_getElem?_getD, List.getElem?_eq_getElem hj]; exact List.getElem_mem hj)
  have h0 := byte p hp
  unfold readAt at h ⊢
  split at h
  · simp at h
  · rename_i hx
    rw [if_neg hx]
    have hc : 0 ≤ l.getD p 0 ∧ l.getD p 0 ≤ 40 := ⟨h0.1, by omega⟩
    rcases opk_le (l.getD p 0) with hk | hk | hk | hk | hk <;> rw [hk] at h ⊢ <;> simp only [readK] at h ⊢
    · rw [writeS, if_pos hc, hk]
      simp only [writeK]
      rw [if_pos ⟨by simp, by simp⟩, show (1 : Int).toNat = 1 from rfl, getD_drop1 l p hp]
    · split at h
      · rename_i hy
        rw [if_pos hy, writeS]
        dsimp only
        rw [if_pos hc, hk]
        simp only [writeK]
        rw [if_pos ⟨byte _ hy, by simp⟩, show (2 : Int).toNat = 2 from rfl, getD_drop2 l p hy]
      · simp at h
    · split at h
      · rename_i hy
        have hb := byte _ hy
        have hin : inR 2 (s8 (l.getD (p + 1) 0)) := by
          show -128 ≤ s8 _ ∧ s8 _ ≤ 127
          unfold s8
          split <;> omega
        have hm : s8 (l.getD (p + 1) 0) % 256 = l.getD (p + 1) 0 := by
          unfold s8
          split <;> omega
        rw [if_pos hy, writeS]
        dsimp only
        rw [if_pos hc, hk]
        simp only [writeK]
        rw [if_pos ⟨hin, by simp⟩, hm, show (2 : Int).toNat = 2 from rfl, getD_drop2 l p hy]
      · simp at h
    · split at h
      · rename_i hy
        have hb := byte _ hy
        have hb1 := byte (p + 1) (by omega)
        have hin : inR 3 (s16 (l.getD (p + 1) 0) (l.getD (p + 2) 0)) := by
          show -32768 ≤ s16 _ _ ∧ s16 _ _ < 32768
          unfold s16
          split <;> omega
        have hm : s16 (l.getD (p + 1) 0) (l.getD (p + 2) 0) % 256 = l.getD (p + 1) 0 := by
          unfold s16
          split <;> omega
        have hm2 : s16 (l.getD (p + 1) 0) (l.getD (p + 2) 0) / 256 % 256 = l.getD (p + 2) 0 := by
          unfold s16
          split <;> omega
        rw [if_pos hy, writeS]
        dsimp only
        rw [if_pos hc, hk]
        simp only [writeK]
        rw [if_pos ⟨hin, by simp⟩, hm, hm2, show (3 : Int).toNat = 3 from rfl, getD_drop3 l p hy]
      · simp at h
    · split at h
      · rename_i hy
        rw [if_pos hy, writeS]
        dsimp only
        rw [if_pos hc, hk]
        simp only [writeK]
        rw [if_pos ⟨byte _ (by omega), byte _ hy⟩, show (3 : Int).toNat = 3 from rfl, getD_drop3 l p hy]
      · simp at h

/-- Where the k-th bytecode begins; the end behind the last one. -/
def stI (l : List Int) (k : Nat) : Nat := match (opsL l)[k]? with
  | some x => x.1
  | none => l.length
theorem opsFrom_chain (l : List Int) : ∀ (f i : Nat), (∀ x, (opsFrom l f i)[0]? = some x → x.1 = i) ∧
    (∀ k x y, (opsFrom l f i)[k]? = some x → (opsFrom l f i)[k + 1]? = some y → y.1 = x.1 + x.2.size.toNat) := by
  intro f
  induction f with
  | zero => intro i; simp [opsFrom]
  | succ f ih =>
    intro i
    rw [opsFrom]
    split
    · split
      · obtain ⟨h1, h2⟩ := ih (i + (readAt l i).size.toNat)
        refine ⟨by simp, ?_⟩
        intro k x y hx hy
        cases k with
        | zero =>
          simp at hx hy
          subst hx
          exact h1 y (by simpa using hy)
        | succ k => exact h2 k x y (by simpa using hx) (by simpa using hy)
      · simp
    · simp
theorem ops_at (l : List Int) (hlen : l.length ≤ 1000000) (hE : (placesS l).2 = 0) :
    stI l 0 = 0 ∧ stI l (opsL l).length = l.length ∧ ∀ k x, (opsL l)[k]? = some x → stI l k = x.1 ∧ stI l (k + 1) = x.1 + x.2.size.toNat ∧ x.1 < l.length ∧ x.2 = readAt l x.1 ∧ x.2.err = 0 := by
  obtain ⟨E, e1, e2, e3⟩ := ops_end l hlen
  have hEl : E = l.length := by
    unfold placesS at hE
    rw [e1] at hE
    split at hE
    · rename_i h
      have h' : E < l.length := by omega
      rw [readS_at l E h'] at hE
      exact absurd hE (e3 h')
    · omega
  obtain ⟨c1, c2⟩ := opsFrom_chain l l.length 0
  refine ⟨?_, by simp [stI], ?_⟩
  · unfold stI
    cases h : (opsL l)[0]? with
    | some x => exact c1 x h
    | none =>
      have : opsL l = [] := by
        cases h2 : opsL l with
        | nil => rfl
        | cons y ys => rw [h2] at h; simp at h
      rw [this] at e1
      simp [endO] at e1
      dsimp only
      omega
  · intro k x hx
    have hm := opsFrom_mem l _ _ x (List.mem_of_getElem? hx)
    refine ⟨by unfold stI; rw [hx], ?_, hm.2.1, hm.2.2.1, hm.2.2.2⟩
    unfold stI
    cases h : (opsL l)[k + 1]? with
    | some y => exact c2 k x y hx h
    | none =>
      dsimp only
      have hkl : k + 1 = (opsL l).length := by
        have := List.getElem?_eq_none_iff.1 h
        have := (List.getElem?_eq_some_iff.1 hx).1
        omega
      have hlast : (opsL l).getLast? = some x := by
        rw [List.getLast?_eq_getElem?, ← hkl]
        simpa using hx
      unfold endO at e1
      rw [hlast] at e1
      have hend := readAt_end l x.1 hm.2.1 (by rw [← hm.2.2.1]; exact hm.2.2.2)
      have hsz := readAt_size l x.1 (by rw [← hm.2.2.1]; exact hm.2.2.2)
      rw [← hm.2.2.1] at hend hsz
      simp only [wrap64] at e1
      omega
end Go.Proofs.YtkphijabhoppnaaDoor
