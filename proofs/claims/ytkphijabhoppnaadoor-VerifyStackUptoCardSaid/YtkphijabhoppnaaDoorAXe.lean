/- A program whose one method has another Stack, as it lies in memory. -/
import Derived.Test.YtkphijabhoppnaaDoorAXa
import Derived.Test.YtkphijabhoppnaaDoorAVz
namespace Go.Proofs.YtkphijabhoppnaaDoor
open Go.RowKit Go.Proofs.YtkphijabhoppnaaDoorW.PrintWords
set_option linter.unusedSimpArgs false
set_option linter.unusedVariables false

theorem stk_self (m : Meth) : stk m m.f3 = m := rfl
theorem stkP_self (p : Pg) (k : Nat) (hk : k < p.methods.length) : stkP p k (methS p k).f3 = p := by
  have e : p.methods.set k (methS p k) = p.methods := by
    have hm : methS p k = p.methods[k] := meth_at p k hk
    rw [hm, List.set_getElem_self]
  show (⟨p.pool, p.classes, p.methods.set k (stk (methS p k) (methS p k).f3)⟩ : Pg) = p
  rw [stk_self, e]
/-- What is wrong with it, when it has this Stack. -/
theorem mth_stk {p : Pg} {k : Nat} (hk : k < p.methods.length) (hc : checkS p = 0) (s : Int) (hs : 0 ≤ s ∧ s ≤ 40) : mthS (stkP p k s) k = (methodS (stkP p k s) (stk (methS p k) s)).1 := by
  have hl : (stkP p k s).methods.length = p.methods.length := List.length_set
  unfold mthS
  rw [if_neg (by rw [hl, check_stk hc hk s hs]; omega), methS_stk_self p k s hk]
/-- Copied cells, one of them turned. -/
structure QR (W0 w : World) (g : Nat) (ad : Addr) (n k : Nat) (s : Int) : Prop where
  row : ∃ cells, w.heap[g]? = some (.cells cells 64 (0, 0))
  at' : ∀ j i, j < n → i < 5 → ¬ (j = k ∧ i = 3) → ∀ u, W0.cell? (ad.add (j * 5 + i)) = some u → w.cell? ⟨g, j * 5 + i, none⟩ = some u
  one : w.cell? ⟨g, k * 5 + 3, none⟩ = some (.int .i64 s)
section
variable {W0 w : World} {A0 A1 : Option Addr} {c0 c1 c2 : Nat} {p : Pg} {ad : Addr} {g cap k : Nat} {s : Int}
theorem QR.below {w' : World} {n : Nat} (h : QR W0 w g ad n k s) (hb : Below w.heap.size w w') : QR W0 w' g ad n k s := by
  obtain ⟨cells, hc⟩ := h.row
  exact ⟨⟨cells, row_kept hb hc⟩, fun j i hj hi hn u hu => cell_be hb (h.at' j i hj hi hn u hu), cell_be hb h.one⟩
theorem small_stk (h : SmallP p) : SmallP (stkP p k s) := by
  obtain ⟨h0, h1, h2, h3, h4⟩ := h
  have hl : (stkP p k s).methods.length = p.methods.length := List.length_set
  refine ⟨h0, h1, by rw [hl]; exact h2, fun m hm => ?_, h4⟩
  rcases List.mem_or_eq_of_mem_set hm with h | rfl
  · exact h3 m h
  · unfold methS
    by_cases hk : k < p.methods.length
    · have := h3 p.methods[k] (List.getElem_mem hk)
      rw [meth_at p k hk]
      exact this
    · have e : PVerifyMethods.rd_T64 p.methods k = PVerifyMethods.z64 := by
        unfold PVerifyMethods.rd_T64
        rw [List.getD_eq_getElem?_getD, List.getElem?_eq_none (by rw [Int.toNat_natCast]; omega)]
        rfl
      rw [e]
      simp [stk, PVerifyMethods.z64]
theorem qr_pgx (hp : PgX W0 A0 c0 A1 c1 (some ad) c2 p) (hb : Below W0.heap.size W0 w) (hk : k < p.methods.length) (hq : QR W0 w g ad p.methods.length k s) (hn : p.methods.length ≤ cap) (hc : cap ≤ 9223372036854775807) :
    PgX w A0 c0 A1 c1 (some ⟨g, 0, none⟩) cap (stkP p k s) := by
  have hl : (stkP p k s).methods.length = p.methods.length := List.length_set
  have hB := hp.pg.below hb
  refine ⟨⟨hB.r0, hB.h0, hB.r1, hB.h1, ⟨rfl, by rw [hl]; omega, fun _ => ⟨_, rfl, fun j x hj => ?_⟩⟩, by rw [hl]; exact hn⟩, ?_, ?_, small_stk hp.small⟩
  · have hjl : j < p.methods.length := by rw [← hl]; exact (List.getElem?_eq_some_iff.1 hj).1
    obtain ⟨ad', B0, d0, B2, d2, B4, d4, hM⟩ := mth_at hp j hjl
    obtain rfl : ad = ad' := Option.some.inj hM.e
    have hx : x = if j = k then stk (methS p k) s else methS p j := by
      have e : (p.methods.set k (stk (methS p k) s))[j]? = some x := hj
      by_cases h : j = k
      · subst h
        rw [List.getElem?_set_self hjl] at e
        rw [if_pos rfl]
        exact (Option.some.inj e).symm
      · rw [List.getElem?_set_ne (Ne.symm h), List.getElem?_eq_getElem hjl] at e
        rw [if_neg h]
        unfold methS
        rw [meth_at p j hjl]
        exact (Option.some.inj e).symm
    have hsel : ∀ {β : Type} (f : Meth → β), f (stk (methS p k) s) = f (methS p k) → f x = f (methS p j) := fun f hf => by
      rw [hx]
      by_cases h : j = k
      · rw [if_pos h, hf, h]
      · rw [if_neg h]
    have h0 : x.f0 = (methS p j).f0 := hsel (fun m => m.f0) rfl
    have h1 : x.f1 = (methS p j).f1 := hsel (fun m => m.f1) rfl
    have h2 : x.f2 = (methS p j).f2 := hsel (fun m => m.f2) rfl
    have h4 : x.f4 = (methS p j).f4 := hsel (fun m => m.f4) rfl
    have hmt := hM.mt.below hb
    refine ⟨_, rfl, PVerifyMethods.k64_mk w x (A0 := B0) (c0 := d0) (by rw [h0]; exact hmt.h0) (by rw [h0]; exact hmt.r0) (A2 := B2) (c2 := d2) (by rw [h2]; exact hmt.h2) (by rw [h2]; exact hmt.r2) (A4 := B4) (c4 := d4) (by rw [h4]; exact hmt.h4) (by rw [h4]; exact hmt.r4), fun i u hi => ?_⟩
    show w.cell? ((⟨g, 0, none⟩ : Addr).add (j * 5 + i)) = some u
    rw [addr_lit]
    have m0 : W0.cell? (ad.add (j * 5 + 0)) = _ := hM.m0
    have m1 := hM.m1; rw [← add_field _ _ 1 (by omega)] at m1
    have m2 := hM.m2; rw [← add_field _ _ 2 (by omega)] at m2
    have m3 := hM.m3; rw [← add_field _ _ 3 (by omega)] at m3
    have m4 := hM.m4; rw [← add_field _ _ 4 (by omega)] at m4
    rw [h0, h1, h2, h4] at hi
    rcases i with _ | _ | _ | _ | _ | i
    · exact hq.at' j 0 hjl (by omega) (by omega) _ (by simp at hi; rw [← hi]; exact m0)
    · exact hq.at' j 1 hjl (by omega) (by omega) _ (by simp at hi; rw [← hi]; exact m1)
    · exact hq.at' j 2 hjl (by omega) (by omega) _ (by simp at hi; rw [← hi]; exact m2)
    · by_cases h : j = k
      · subst h
        rw [if_pos rfl] at hx
        simp at hi
        rw [← hi, hx]
        exact hq.one
      · rw [if_neg h] at hx
        exact hq.at' j 3 hjl (by omega) (by omega) _ (by simp at hi; rw [← hi, hx]; exact m3)
    · exact hq.at' j 4 hjl (by omega) (by omega) _ (by simp at hi; rw [← hi]; exact m4)
    · simp at hi
  · intro j ad' A l c hj e hcell
    cases e
    rw [hl] at hj
    obtain ⟨ad', B0, d0, B2, d2, B4, d4, hM⟩ := mth_at hp j hj
    obtain rfl : ad = ad' := Option.some.inj hM.e
    have m4 := hM.m4
    have hcap := hp.cap j ad _ _ _ hj rfl m4
    rw [← add_field _ _ 4 (by omega)] at m4
    have := hq.at' j 4 hj (by omega) (by omega) _ m4
    rw [← add_field _ _ 4 (by omega), addr_lit, this] at hcell
    injection hcell with hcell
    injection hcell with q1 q2 q3
    omega
  · intro m hm
    rcases List.mem_or_eq_of_mem_set hm with h | rfl
    · exact hp.byt m h
    · have hmem : methS p k ∈ p.methods := by unfold methS; rw [meth_at p k hk]; exact List.getElem_mem hk
      exact hp.byt (methS p k) hmem
theorem QR.set {n : Nat} {t : Int} (h : QR W0 w g ad n k s) (hlt : ∃ u, w.cell? ⟨g, k * 5 + 3, none⟩ = some u) : QR W0 (w.setCell ⟨g, k * 5 + 3, none⟩ (.int .i64 t)) g ad n k t := by
  obtain ⟨cells, hc⟩ := h.row
  obtain ⟨l⟩ := cells
  have hl : k * 5 + 3 < l.length := by
    have h1 := h.one
    rw [cell_of_row _ _ _ _ _ _ hc] at h1
    have := (Array.getElem?_eq_some_iff.1 h1).1
    simpa using this
  have hset := set_list hc (k * 5 + 3) (.int .i64 t) rfl hl
  refine ⟨⟨_, hset⟩, fun j i hj hi hn u hu => ?_, ?_⟩
  · have h1 := h.at' j i hj hi hn u hu
    rw [cell_of_row _ _ _ _ _ _ hc] at h1
    rw [cell_of_row _ _ _ _ _ _ hset]
    simp only [List.getElem?_toArray] at h1 ⊢
    rw [List.getElem?_set_ne (by omega)]
    exact h1
  · rw [cell_of_row _ _ _ _ _ _ hset]
    simp [hl]
end
end Go.Proofs.YtkphijabhoppnaaDoor
