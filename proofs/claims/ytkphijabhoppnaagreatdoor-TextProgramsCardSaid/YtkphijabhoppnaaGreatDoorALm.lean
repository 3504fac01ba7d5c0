/- The program's reading of a number (brazier/text.number); the iterator of all ops (brazier/a64.Ops). -/
import Derived.Test.YtkphijabhoppnaaGreatDoorABd
import Derived.Test.YtkphijabhoppnaaGreatDoorALw
namespace Go.Proofs.YtkphijabhoppnaaGreatDoor
open Go.RowKit Go.Shelf Go.Proofs.YtkphijabhoppnaaGreatDoorW.PrintWords
set_option linter.unusedSimpArgs false
set_option linter.unusedVariables false
attribute [local go_sem] Oper.semAt_some
theorem be_loop (bs : ByteArray) : ∀ (d i : Nat) (r : List UInt8), bs.size - i = d → ByteArray.toList.loop bs i r = r.reverse ++ bs.data.toList.drop i := by
  intro d
  induction d with
  | zero =>
    intro i r h
    unfold ByteArray.toList.loop
    rw [if_neg (by omega), List.drop_eq_nil_of_le (by simp; show bs.size ≤ i; omega), List.append_nil]
  | succ d ih =>
    intro i r h
    unfold ByteArray.toList.loop
    have hi : i < bs.size := by omega
    rw [if_pos hi, ih (i + 1) _ (by omega)]
    have h2 : i < bs.data.toList.length := by simpa using hi
    rw [List.drop_eq_getElem_cons h2]
    have : bs.get! i = bs.data.toList[i] := by
      simp [ByteArray.get!, getElem!_pos, hi]
    simp [this]
theorem be_list (bs : ByteArray) : bs.toList = bs.data.toList := by
  unfold ByteArray.toList
  rw [be_loop bs _ 0 [] rfl]; simp
theorem var_bel {w w' : World} {nm : String} {xs : Array Value} (h : w.var? Tryz.prog nm = some xs) (hb : Below w.heap.size w w') : w'.var? Tryz.prog nm = some xs := by
  cases hg : Tryz.prog.globalNamed nm with
  | none => simp [World.var?, hg] at h
  | some g =>
    refine var?_below hb hg ?_ h
    simp only [World.var?, hg, Option.bind_some] at h
    rcases Nat.lt_or_ge g w.heap.size with h' | h'
    · exact h'
    · rw [Array.getElem?_eq_none h'] at h
      cases h
theorem box_bel {w W : World} {B : Nat} {t : TypeId} {v : Value} (h : Boxed w B t v) (hb : Below w.heap.size w W) : Boxed W B t v :=
  (hb.block B h.lt).trans h
structure GlobT (w : World) : Prop where
  sp : Lib.TabIs Tryz.prog w "strings.asciiSpace" .u8 Lib.asciiSpaceTab
  pw : Lib.TabIs Tryz.prog w "internal/strconv.uint64pow10" .u64 Lib.pow10Tab
  er : ∃ tp p, w.var? Tryz.prog "strconv.ErrRange" = some #[.iface tp p]
  es : ∃ tp p, w.var? Tryz.prog "strconv.ErrSyntax" = some #[.iface tp p]
  mx : ∃ m, w.cell? ⟨1, 0, none⟩ = some (.int .i64 m)
theorem GlobT.below {w w' : World} (h : GlobT w) (hb : Below w.heap.size w w') : GlobT w' :=
  ⟨tab_below h.sp hb, tab_below h.pw hb, let ⟨a, b, c⟩ := h.er; ⟨a, b, var_bel c hb⟩, let ⟨a, b, c⟩ := h.es; ⟨a, b, var_bel c hb⟩, let ⟨m, c⟩ := h.mx; ⟨m, cell_be hb c⟩⟩
theorem pint_calls (s : ByteArray) (w : World) (hlim : s.size ≤ 1000000) (hG : GlobT w) :
    Calls Tryz.prog 55 #[.string s, .int .i64 10, .int .i64 64] w fun e w' => ∃ x, e = .returned (.tuple #[.int .i64 (pI s.data.toList), x]) ∧ Below w.heap.size w w' := by
  obtain ⟨tr, pr, hr⟩ := hG.er
  obtain ⟨ts, ps, hs⟩ := hG.es
  have e64 := Lib.parseIntB_64 s.data.toList
  rcases hx : Lib.atoiAll s.data.toList with v | _ | _
  · refine (Tryz.strconv_ParseInt_10_at64_ok s (by omega) v (e64.trans hx) w).mono ?_
    rintro e w' ⟨rfl, rfl | ⟨t, rfl⟩⟩
    · exact ⟨_, by rw [pI, hx], Below.refl _ _⟩
    · exact ⟨_, by rw [pI, hx], Lib.bytesWorld_below w 5 t⟩
  · refine (Any.strconv_ParseInt_10_at64_syntax_var Tryz.laysC174 s (by omega) (e64.trans hx) ts ps w hs).mono ?_
    rintro e w' ⟨N, rfl, _, _, hb⟩
    exact ⟨_, by rw [pI, hx], hb⟩
  · refine (Any.strconv_ParseInt_10_at64_range_var Tryz.laysC174 s (by omega) (e64.trans hx) tr pr w hr).mono ?_
    rintro e w' ⟨N, rfl, _, _, hb⟩
    exact ⟨_, by rw [pI, hx, Lib.intSat_64], hb⟩
set_option maxRecDepth 100000 in
theorem tnumber_calls (s : ByteArray) (w : World) (hlim : s.size ≤ 1000000) (hG : GlobT w) :
    Calls Tryz.prog 29 #[.string s] w fun e w' => e = .returned (.int .i64 (numV s.data.toList)) ∧ Below w.heap.size w w' := by
  by_cases h1 : s.data.toList = [120, 122, 114]
  · have e1 : s.toList = [120, 122, 114] := by rw [be_list, h1]
    have hn : numV s.data.toList = 31 := by rw [numV, if_pos (Or.inl h1)]
    rw [hn]
    go_enter Tryz.func29, Tryz.ntmps29
    go_wp2_with fail
    go_ret
    exact ⟨rfl, Below.refl _ _⟩
  by_cases h2 : s.data.toList = [115, 112]
  · have e2 : s.toList = [115, 112] := by rw [be_list, h2]
    have hn : numV s.data.toList = 31 := by rw [numV, if_pos (Or.inr h2)]
    rw [hn]
    go_enter Tryz.func29, Tryz.ntmps29
    go_wp2_with fail
    go_ret
    exact ⟨rfl, Below.refl _ _⟩
  · have n1 : ¬ s.toList = [120, 122, 114] := by rw [be_list]; exact h1
    have n2 : ¬ s.toList = [115, 112] := by rw [be_list]; exact h2
    have n3 : (s.toList == [120, 122, 114]) = false := by rw [beq_eq_false_iff_ne]; exact n1
    have n4 : (s.toList == [115, 112]) = false := by rw [beq_eq_false_iff_ne]; exact n2
    obtain ⟨t, ht⟩ : ∃ t : ByteArray, (⟨(Lib.trimPrefix s.data.toList [120]).toArray⟩ : ByteArray) = t := ⟨_, rfl⟩
    obtain ⟨u, hu⟩ : ∃ u : ByteArray, (⟨(Lib.trimPrefix t.data.toList [35]).toArray⟩ : ByteArray) = u := ⟨_, rfl⟩
    have tl : ∀ l p : List UInt8, (Lib.trimPrefix l p).length ≤ l.length := by intro l p; unfold Lib.trimPrefix; split <;> simp
    have hts : t.size ≤ s.size := by
      have := tl s.data.toList [120]
      rw [← ht]
      show (Lib.trimPrefix s.data.toList [120]).toArray.size ≤ s.data.size
      rw [List.size_toArray, ← Array.length_toList]; exact this
    have hus : u.size ≤ t.size := by
      have := tl t.data.toList [35]
      rw [← hu]
      show (Lib.trimPrefix t.data.toList [35]).toArray.size ≤ t.data.size
      rw [List.size_toArray, ← Array.length_toList]; exact this
    have hn : numV s.data.toList = pI u.data.toList := by rw [numV, if_neg (fun x => x.elim h1 h2), ← hu, ← ht]
    have HT := Lib.hid (fun W => (show Calls Tryz.prog 56 #[.string s, .string ⟨#[120]⟩] W fun e w' => e = .returned (.string t) ∧ w' = W from by rw [← ht]; exact Tryz.strings_TrimPrefix s ⟨#[120]⟩ W))
    have HU := Lib.hid (fun W => (show Calls Tryz.prog 56 #[.string t, .string ⟨#[35]⟩] W fun e w' => e = .returned (.string u) ∧ w' = W from by rw [← hu]; exact Tryz.strings_TrimPrefix t ⟨#[35]⟩ W))
    have HP := Lib.hid (fun W h => pint_calls u W (by omega) h)
    rw [hn]
    have HG := Lib.hid hG
    clear hG ht hu hn tl h1 h2
    go_enter Tryz.func29, Tryz.ntmps29
    go_wp2_with (first | (go_at_call 56; refine (HT.out _).mono ?_; rintro e w1 ⟨rfl, rfl⟩) | (go_at_call 56; refine (HU.out _).mono ?_; rintro e w2 ⟨rfl, rfl⟩) | (go_at_call 55; refine (HP.out _ HG.out).mono ?_; rintro e w3 ⟨x, rfl, hb⟩) | fail)
    go_ret
    exact ⟨rfl, hb⟩
def opE (x : Fin 43) : Array Value := #[.int .i64 x.val]
def opsAll : List (Fin 43) := List.finRange 43
theorem ops_calls (w : World) : Calls Tryz.prog 26 #[] w fun e w' => e = .returned (.func (.func 53) #[] #[]) ∧ w' = w := by
  go_enter Tryz.func26, Tryz.ntmps26
  go_wp2_with fail
  go_ret
  exact ⟨rfl, rfl⟩
theorem ops_take (i : Nat) (h : i < 43) : opsAll.take (i + 1) = opsAll.take i ++ [⟨i, h⟩] := by
  have hl : opsAll.length = 43 := List.length_finRange
  rw [List.take_add_one, List.getElem?_eq_getElem (by rw [hl]; exact h)]
  simp [opsAll]
set_option maxHeartbeats 1000000 in
set_option maxRecDepth 100000 in
theorem ops1_in (n : Nat) (hn : 1 ≤ n) (q : Nat) (J Jx : List (Fin 43) → World → Prop) (W : World)
    (hY : ∀ pre x W1, J pre W1 → pre.length < 43 → YieldAt Fence.wide (n - 1) Tryz.prog q (opE x) W1 fun e W' =>
      (e = .returned (.bool true) ∧ J (pre ++ [x]) W' ∧ True) ∨ (e = .returned (.bool false) ∧ Jx (pre ++ [x]) W'))
    (h0 : J [] W) :
    CallsIn Fence.wide n Tryz.prog 53 #[.func (.yield q) #[] #[]] W fun e W' => (∃ u, e = .returned u) ∧
      ((∃ ys, ys = opsAll ∧ J ys W') ∨ (∃ pre, pre <+: opsAll ∧ Jx pre W')) := by
  refine callsIn_of_wp Tryz.func53 rfl trivial ?_ rfl
  simp only [Tryz.ntmps53, List.size_toArray, List.length_cons, List.length_nil, Nat.reduceAdd, Nat.reduceSub, Array.replicate_succ, Array.replicate_zero, List.push_toArray, List.append_toArray, List.nil_append, List.cons_append]
  gi_wp2_with fail
  gi_loopw [2] (fun a wr => ∃ i : Nat, a = .int .i64 i ∧ i ≤ 43 ∧ J (opsAll.take i) wr) (fun a _ => 43 - (intOf a).toNat)
  case atStart => exact ⟨0, rfl, by omega, h0⟩
  case round =>
    obtain ⟨i, rfl, hi, hJs⟩ := hrel
    by_cases hlt : i < 43
    · have c1 : (i : Int) ≤ 42 := by omega
      have hpl : (opsAll.take i).length < 43 := by rw [List.length_take]; omega
      have HT := Lib.hid (ops_take i hlt)
      obtain ⟨fn, tmps, assign, body, hy, hR⟩ := hY (opsAll.take i) ⟨i, hlt⟩ wr hJs hpl
      dsimp only [opE] at hy
      gi_wp2_with fail
      refine hR.mono ?_
      rintro e W3 (⟨rfl, hJ3, -⟩ | ⟨rfl, hJx3⟩)
      · gi_wp2_with fail
        go_roundw
        case rel =>
          refine ⟨i + 1, ?_, by omega, by rw [HT.out]; exact hJ3⟩
          have : ((i + 1 : Nat) : Int) = i + 1 := by omega
          rw [this]
        case measure => simp only [intOf]; omega
      · gi_wp2_with fail
        refine bodyPost_ret (results_none rfl _ _ _) rfl ?_
        exact ⟨⟨_, rfl⟩, .inr ⟨_, by rw [← HT.out]; exact List.take_prefix _ _, hJx3⟩⟩
    · have c1 : ¬ ((i : Int) ≤ 42) := by omega
      have c2 : decide ((i : Int) ≤ 42) = false := decide_eq_false c1
      have hil : i = 43 := by omega
      have HI := Lib.hid hil
      clear hil hlt
      gi_wp2_with fail
      go_end0
      refine ⟨⟨_, rfl⟩, .inl ?_⟩
      rw [HI.out] at hJs
      exact hJs
theorem ops_stops (n : Nat) (hn : 1 ≤ n) (w : World) :
    SeqStopsK Fence.wide n Tryz.prog 53 #[] opE (fun _ _ => True) (fun ys => ys = opsAll) (fun pre => pre <+: opsAll) 43 w := fun q J Jx W hW hJ _ hY h0 =>
  ops1_in n hn q J Jx W (fun pre x W1 h1 h2 => hY pre x W1 h1 h2) h0
end Go.Proofs.YtkphijabhoppnaaGreatDoor
