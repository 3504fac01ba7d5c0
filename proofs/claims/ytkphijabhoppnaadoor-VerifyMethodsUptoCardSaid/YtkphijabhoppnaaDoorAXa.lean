/- Whether a program is small enough for a play (brazierlaw14.Few); rows that are the same (brazierlaw15.ints). -/
import Derived.Test.YtkphijabhoppnaaDoorAPVerifyMethodsx6
import Derived.Test.YtkphijabhoppnaaDoorAPVerifyMethodsx14
import Derived.Test.YtkphijabhoppnaaDoorAVy
namespace Go.Proofs.YtkphijabhoppnaaDoor
open Go.RowKit Go.Proofs.YtkphijabhoppnaaDoorW.PrintWords
set_option linter.unusedSimpArgs false
set_option linter.unusedVariables false
def totC : List (List Fld) → Nat
  | [] => 0
  | c :: cs => c.length + totC cs
def totM : List Meth → Nat
  | [] => 0
  | m :: ms => m.f0.length + m.f2.length + m.f4.length + totM ms
def fewS (p : Pg) : Bool := decide (p.pool.length + p.classes.length + p.methods.length + totC p.classes + totM p.methods ≤ 32768)
theorem totC_le (cs : List (List Fld)) (h : ∀ c ∈ cs, c.length ≤ 2000000) : totC cs ≤ 2000000 * cs.length := by
  induction cs with
  | nil => simp [totC]
  | cons c cs ih =>
    have h1 := h c (by simp)
    have h2 := ih fun x hx => h x (List.mem_cons_of_mem _ hx)
    rw [totC, List.length_cons]
    omega
theorem totM_le (ms : List Meth) (h : ∀ m ∈ ms, m.f0.length ≤ 2000000 ∧ m.f2.length ≤ 2000000 ∧ m.f4.length ≤ 2000000) : totM ms ≤ 6000000 * ms.length := by
  induction ms with
  | nil => simp [totM]
  | cons c cs ih =>
    have h1 := h c (by simp)
    have h2 := ih fun x hx => h x (List.mem_cons_of_mem _ hx)
    rw [totM, List.length_cons]
    omega
theorem totM_mem {m : Meth} : ∀ {ms : List Meth}, m ∈ ms → m.f0.length ≤ totM ms
  | x :: xs, h => by
    rw [totM]
    rcases List.mem_cons.1 h with rfl | h
    · omega
    · have := totM_mem h; omega
theorem few_l1 (a : List Int) (b : List (List Fld)) (ms : List Meth) (hm : ms.length ≤ 2000000) : ∀ (d i x : Nat), i + d = ms.length → x + totM (ms.drop i) ≤ 1000000000000000 →
    ∃ k, PVerifyMethods.brazierlaw14_Few.l1 k x i a b ms = some (decide (x + totM (ms.drop i) ≤ 32768)) := by
  intro d
  induction d with
  | zero =>
    intro i x hi hx
    refine ⟨1, ?_⟩
    rw [PVerifyMethods.brazierlaw14_Few.l1, if_neg (by omega), List.drop_eq_nil_of_le (by omega)]
    refine congrArg some ?_
    rw [decide_eq_decide, totM]
    omega
  | succ d ih =>
    intro i x hi hx
    have hlt : i < ms.length := by omega
    have e : PVerifyMethods.rd_T64 ms i = ms[i] := by simp [PVerifyMethods.rd_T64, List.getD_eq_getElem?_getD, hlt]
    have e1 : wrap64 ((i : Int) + 1) = ((i + 1 : Nat) : Int) := by rw [w64v _ (by omega)]; omega
    rw [List.drop_eq_getElem_cons hlt, totM] at hx ⊢
    obtain ⟨k, hk⟩ := ih (i + 1) (x + ms[i].f0.length + ms[i].f2.length + ms[i].f4.length) (by omega) (by omega)
    refine ⟨k + 1, ?_⟩
    rw [PVerifyMethods.brazierlaw14_Few.l1, if_pos (by omega), if_pos (by omega), e, e1, w64v ((x : Int) + ms[i].f0.length) (by omega), w64v ((x : Int) + ms[i].f0.length + ms[i].f2.length) (by omega), w64v ((x : Int) + ms[i].f0.length + ms[i].f2.length + ms[i].f4.length) (by omega)]
    have e2 : ((x : Int) + ms[i].f0.length + ms[i].f2.length + ms[i].f4.length) = ((x + ms[i].f0.length + ms[i].f2.length + ms[i].f4.length : Nat) : Int) := by omega
    rw [e2, hk]
    congr 1
    rw [decide_eq_decide]
    omega
theorem few_l0 (a : List Int) (cs : List (List Fld)) (ms : List Meth) (hc : cs.length ≤ 2000000) (hm : ms.length ≤ 2000000) : ∀ (d i x : Nat), i + d = cs.length → x + totC (cs.drop i) + totM ms ≤ 1000000000000000 →
    ∃ k, PVerifyMethods.brazierlaw14_Few.l0 k x i a cs ms = some (decide (x + totC (cs.drop i) + totM ms ≤ 32768)) := by
  intro d
  induction d with
  | zero =>
    intro i x hi hx
    rw [List.drop_eq_nil_of_le (by omega)] at hx ⊢
    obtain ⟨k, hk⟩ := few_l1 a cs ms hm ms.length 0 x (by omega) (by simpa [totC] using hx)
    refine ⟨k + 1, ?_⟩
    rw [PVerifyMethods.brazierlaw14_Few.l0, if_neg (by omega)]
    refine hk.trans (congrArg some ?_)
    rw [decide_eq_decide, List.drop_zero, totC]
    omega
  | succ d ih =>
    intro i x hi hx
    have hlt : i < cs.length := by omega
    have e : PVerifyMethods.rd_L4 cs i = cs[i] := by simp [PVerifyMethods.rd_L4, List.getD_eq_getElem?_getD, hlt]
    have e1 : wrap64 ((i : Int) + 1) = ((i + 1 : Nat) : Int) := by rw [w64v _ (by omega)]; omega
    rw [List.drop_eq_getElem_cons hlt, totC] at hx ⊢
    obtain ⟨k, hk⟩ := ih (i + 1) (x + cs[i].length) (by omega) (by omega)
    refine ⟨k + 1, ?_⟩
    rw [PVerifyMethods.brazierlaw14_Few.l0, if_pos (by omega), if_pos (by omega), e, e1, w64v _ (by omega)]
    have e2 : ((x : Int) + cs[i].length) = ((x + cs[i].length : Nat) : Int) := by omega
    rw [e2, hk]
    congr 1
    rw [decide_eq_decide]
    omega
theorem few_eq (p : Pg) (hs : SmallP p) : ∃ k, PVerifyMethods.brazierlaw14_Few.f k p.pool p.classes p.methods = some (fewS p) := by
  obtain ⟨h0, h1, h2, h3, h4⟩ := hs
  have t1 := totC_le p.classes h4
  have t2 := totM_le p.methods h3
  obtain ⟨k, hk⟩ := few_l0 p.pool p.classes p.methods h1 h2 p.classes.length 0 (p.pool.length + p.classes.length + p.methods.length) (by omega) (by rw [List.drop_zero]; omega)
  refine ⟨k, ?_⟩
  unfold PVerifyMethods.brazierlaw14_Few.f fewS
  rw [w64v ((p.pool.length : Int) + p.classes.length) (by omega), w64v ((p.pool.length : Int) + p.classes.length + p.methods.length) (by omega)]
  have e2 : ((p.pool.length : Int) + p.classes.length + p.methods.length) = ((p.pool.length + p.classes.length + p.methods.length : Nat) : Int) := by omega
  rw [e2]
  exact hk
theorem few_calls {w : World} {A0 A1 A2 : Option Addr} {c0 c1 c2 : Nat} {p : Pg} (hp : PgC w A0 c0 A1 c1 A2 c2 p) (hs : SmallP p) :
    Calls Tryd.prog 28 #[.agg #[.slice A0 p.pool.length c0, .slice A1 p.classes.length c1, .slice A2 p.methods.length c2]] w fun e w' => e = .returned (.bool (fewS p)) ∧ Below w.heap.size w w' := by
  obtain ⟨k, hk⟩ := few_eq p hs
  exact (PVerifyMethods.brazierlaw14_Few.calls k A0 c0 p.pool A1 c1 p.classes A2 c2 p.methods (fewS p) w hp.r0 hp.h0 hp.r1 hp.h1 hp.r2 hp.h2 hk).mono fun _ _ h => ⟨h.1, by first | exact h.2 | exact h.2.below⟩
theorem few_par {p : Pg} (h : fewS p = true) : FewPar p := fun n => by
  have h := of_decide_eq_true h
  unfold methS PVerifyMethods.rd_T64
  by_cases hl : n.toNat < p.methods.length
  · have := totM_mem (getD_in (d := PVerifyMethods.z64) hl)
    omega
  · rw [List.getD_eq_getElem?_getD, List.getElem?_eq_none (by omega)]
    simp [PVerifyMethods.z64]
end Go.Proofs.YtkphijabhoppnaaDoor
