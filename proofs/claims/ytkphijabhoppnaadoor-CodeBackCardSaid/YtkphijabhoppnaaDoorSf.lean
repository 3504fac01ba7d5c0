/- Numbers as text; a number read. -/
import Derived.Lib.ItoaNum
import Derived.Lib.AtoiAll
import Derived.Test.YtkphijabhoppnaaDoorBe
import Derived.Test.YtkphijabhoppnaaDoorBf
namespace Go.Proofs.YtkphijabhoppnaaDoor
open Go.Lib
set_option linter.unusedSimpArgs false
set_option linter.unusedVariables false

def isDig (c : UInt8) : Prop := 48 ≤ c.toNat ∧ c.toNat ≤ 57
instance (c : UInt8) : Decidable (isDig c) := by unfold isDig; infer_instance
/-- What digits spell behind acc. -/
def valD (acc : Nat) : List UInt8 → Option Nat
  | [] => some acc
  | c :: r => if isDig c then valD (acc * 10 + (c.toNat - 48)) r else none
def numD (d : List UInt8) : Option Nat := if d = [] ∨ 6 < d.length ∨ (1 < d.length ∧ d.head? = some 48) then none else valD 0 d
/-- A number of at most six digits, as the document has it. -/
def numP : List UInt8 → Option Int
  | [] => none
  | c :: d => if c = 45 then (if d = [48] then none else (numD d).map fun (n : Nat) => -(n : Int)) else (numD (c :: d)).map fun (n : Nat) => (n : Int)
def dropMinus : List UInt8 → List UInt8
  | [] => []
  | c :: d => if c = 45 then d else c :: d

theorem valD_snoc (l : List UInt8) (c : UInt8) : ∀ acc, valD acc (l ++ [c]) = (valD acc l).bind fun a => if isDig c then some (a * 10 + (c.toNat - 48)) else none := by
  induction l with
  | nil => intro acc; simp [valD]
  | cons x xs ih =>
    intro acc
    simp only [List.cons_append, valD]
    split
    · exact ih _
    · rfl
theorem dig_of (n : Nat) (h : n < 10) : isDig (UInt8.ofNat (48 + n)) ∧ (UInt8.ofNat (48 + n)).toNat = 48 + n := by
  have : (UInt8.ofNat (48 + n)).toNat = 48 + n := by simp [UInt8.toNat_ofNat']; omega
  refine ⟨?_, this⟩
  unfold isDig
  omega
theorem of_dig (c : UInt8) (h : isDig c) : UInt8.ofNat (48 + (c.toNat - 48)) = c := by
  unfold isDig at h
  rw [show 48 + (c.toNat - 48) = c.toNat by omega]
  simp
theorem decDigits_ne (n : Nat) : decDigits n ≠ [] := by
  rw [decDigits]
  split <;> simp
theorem head_app (l m : List UInt8) (h : l ≠ []) : (l ++ m).head? = l.head? := by
  cases l with
  | nil => exact absurd rfl h
  | cons => rfl
theorem valD_dec (n : Nat) : valD 0 (decDigits n) = some n := by
  induction n using Nat.strongRecOn with
  | ind n ih =>
    rw [decDigits]
    split
    · rename_i h
      obtain ⟨h1, h2⟩ := dig_of n h
      rw [valD, if_pos h1, h2, valD]
      congr 1
      omega
    · rename_i h
      obtain ⟨h1, h2⟩ := dig_of (n % 10) (by omega)
      rw [valD_snoc, ih (n / 10) (by omega)]
      simp only [Option.bind_some, h1, if_true, h2]
      congr 1
      omega
theorem head_dec (n : Nat) : ∀ h, (decDigits n).head? = some h → isDig h ∧ (1 < (decDigits n).length → h ≠ 48) := by
  induction n using Nat.strongRecOn with
  | ind n ih =>
    intro h
    rw [decDigits]
    split
    · rename_i hn
      intro e
      have e' := Option.some.inj e
      subst e'
      exact ⟨(dig_of n hn).1, fun h => absurd h (by simp)⟩
    · rename_i hn
      intro e
      rw [head_app _ _ (decDigits_ne _)] at e
      have hi := ih (n / 10) (by omega) h e
      refine ⟨hi.1, fun _ => ?_⟩
      by_cases hl : 1 < (decDigits (n / 10)).length
      · exact hi.2 hl
      · intro e48
        subst e48
        have hne := decDigits_ne (n / 10)
        have hv := valD_dec (n / 10)
        cases hd : decDigits (n / 10) with
        | nil => exact hne hd
        | cons x xs =>
          rw [hd] at e hl hv
          simp at e
          cases xs with
          | cons => simp at hl
          | nil =>
            subst e
            simp [valD, isDig] at hv
            omega
theorem dec_val : ∀ (k : Nat) (d : List UInt8) (n : Nat), d.length = k → d ≠ [] → (1 < d.length → d.head? ≠ some 48) → valD 0 d = some n → decDigits n = d := by
  intro k
  induction k with
  | zero => intro d n h1 h2; exact absurd (List.eq_nil_of_length_eq_zero h1) h2
  | succ k ih =>
    intro d n h1 h2 h3 h4
    obtain ⟨d', c, rfl⟩ : ∃ d' c, d = d' ++ [c] := ⟨d.dropLast, d.getLast h2, (List.dropLast_concat_getLast h2).symm⟩
    rw [valD_snoc] at h4
    obtain ⟨a, ha, h4⟩ := Option.bind_eq_some_iff.1 h4
    split at h4
    · rename_i hc
      have hn : n = a * 10 + (c.toNat - 48) := (Option.some.inj h4).symm
      have hc2 : c.toNat - 48 < 10 := by unfold isDig at hc; omega
      by_cases hd : d' = []
      · subst hd
        simp [valD] at ha
        subst ha
        have e : n = c.toNat - 48 := by omega
        rw [decDigits, dif_pos (by omega), e, of_dig c hc]
        rfl
      · have hlen : d'.length = k := by simp at h1; exact h1
        have hhead : (d' ++ [c]).head? = d'.head? := head_app _ _ hd
        have h3' : d'.head? ≠ some 48 := by
          rw [hhead] at h3
          refine h3 ?_
          have : 0 < d'.length := List.length_pos_iff.2 hd
          simp
          omega
        have hd' := ih d' a hlen hd (fun _ => h3') ha
        have ha1 : a ≠ 0 := by
          rintro rfl
          rw [← hd'] at h3'
          exact h3' (by decide +kernel)
        rw [decDigits, dif_neg (by omega), hn, show (a * 10 + (c.toNat - 48)) / 10 = a by omega, show (a * 10 + (c.toNat - 48)) % 10 = c.toNat - 48 by omega, hd', of_dig c hc]
    · cases h4
theorem valD_lt : ∀ (d : List UInt8) (acc n k : Nat), valD acc d = some n → acc < 10 ^ k → n < 10 ^ (k + d.length) := by
  intro d
  induction d with
  | nil => intro acc n k h hk; simp [valD] at h; subst h; simpa using hk
  | cons c r ih =>
    intro acc n k h hk
    simp only [valD] at h
    split at h
    · rename_i hc
      unfold isDig at hc
      have := ih _ n (k + 1) h (by rw [Nat.pow_succ]; omega)
      rw [List.length_cons]
      rw [show k + (r.length + 1) = k + 1 + r.length by omega]
      exact this
    · cases h
theorem parse_val : ∀ (d : List UInt8) (acc k : Nat), acc < 10 ^ k → k + d.length ≤ 18 → ∀ n, parseUint10 acc d = .ok n ↔ valD acc d = some n := by
  intro d
  induction d with
  | nil => intro acc k h1 h2 n; simp [parseUint10, valD]
  | cons c r ih =>
    intro acc k h1 h2 n
    simp only [List.length_cons] at h2
    simp only [parseUint10, valD]
    have hk : 10 ^ k ≤ 10 ^ 17 := Nat.pow_le_pow_right (by omega) (by omega)
    by_cases hc : isDig c
    · have hc' : 48 ≤ c.toNat ∧ c.toNat ≤ 57 := hc
      rw [if_pos hc', if_neg (by omega), if_neg (by omega), if_pos hc]
      exact ih _ (k + 1) (by rw [Nat.pow_succ]; omega) (by omega) n
    · have hc' : ¬ (48 ≤ c.toNat ∧ c.toNat ≤ 57) := hc
      rw [if_neg hc', if_neg hc]
      constructor
      · intro h; cases h
      · intro h; cases h

theorem numD_dec (n : Nat) (h : (decDigits n).length ≤ 6) : numD (decDigits n) = some n := by
  unfold numD
  rw [if_neg ?_, valD_dec]
  rintro (h1 | h1 | ⟨h1, h2⟩)
  · exact decDigits_ne n h1
  · omega
  · exact (head_dec n 48 h2).2 h1 rfl
theorem dec_numD (d : List UInt8) (n : Nat) (h : numD d = some n) : decDigits n = d ∧ d.length ≤ 6 ∧ n < 1000000 ∧ d ≠ [] ∧ valD 0 d = some n := by
  unfold numD at h
  split at h
  · cases h
  · rename_i hh
    have h1 : d ≠ [] := fun e => hh (.inl e)
    have h2 : d.length ≤ 6 := by
      rcases Nat.lt_or_ge 6 d.length with h2 | h2
      · exact absurd (.inr (.inl h2)) hh
      · exact h2
    refine ⟨dec_val _ d n rfl h1 (fun h3 h4 => hh (.inr (.inr ⟨h3, h4⟩))) h, h2, ?_, h1, h⟩
    have := valD_lt d 0 n 0 h (by omega)
    have : 10 ^ (0 + d.length) ≤ 10 ^ 6 := Nat.pow_le_pow_right (by omega) (by omega)
    omega

/-- What is a number reads and writes as one. -/
theorem numP_ok (s : List UInt8) (v : Int) (h : numP s = some v) : atoiAll s = .ok v ∧ itoa v = s ∧ (dropMinus s).length ≤ 6 ∧ -1000000 < v ∧ v < 1000000 := by
  cases s with
  | nil => cases h
  | cons c d =>
    simp only [numP] at h
    by_cases hc : c = 45
    · subst hc
      rw [if_pos rfl] at h
      split at h
      · cases h
      · rename_i hd48
        obtain ⟨n, hn, rfl⟩ := Option.map_eq_some_iff.1 h
        obtain ⟨h1, h2, h3, h4, h5⟩ := dec_numD d n hn
        have hn0 : n ≠ 0 := by
          rintro rfl
          exact hd48 (by rw [← h1]; decide +kernel)
        have hp : parseMag d = .ok n := by
          unfold parseMag
          rw [if_neg h4]
          exact (parse_val d 0 0 (by omega) (by omega) n).2 h5
        refine ⟨?_, ?_, ?_, by omega, by omega⟩
        · simp [atoiAll, hp]
          omega
        · rw [itoa, if_pos (by omega), show (-(n : Int)).natAbs = n by omega, h1]
        · simpa [dropMinus] using h2
    · rw [if_neg hc] at h
      obtain ⟨n, hn, rfl⟩ := Option.map_eq_some_iff.1 h
      obtain ⟨h1, h2, h3, h4, h5⟩ := dec_numD (c :: d) n hn
      have hdig : isDig c := (head_dec n c (by rw [h1]; rfl)).1
      unfold isDig at hdig
      have hp : parseMag (c :: d) = .ok n := by
        unfold parseMag
        rw [if_neg h4]
        exact (parse_val (c :: d) 0 0 (by omega) (by omega) n).2 h5
      have n43 : ¬ c.toNat = 43 := by omega
      have n45 : ¬ c.toNat = 45 := by omega
      refine ⟨?_, ?_, ?_, by omega, by omega⟩
      · simp only [atoiAll, n43, n45, or_self, if_false, hp]
        simp
        omega
      · rw [itoa, if_neg (by omega), Int.toNat_natCast, h1]
      · simpa [dropMinus, hc] using h2
theorem ok_numP (s : List UInt8) (v : Int) (h2 : itoa v = s) (h3 : (dropMinus s).length ≤ 6) : numP s = some v := by
  subst h2
  unfold itoa at h3 ⊢
  by_cases hv : v < 0
  · rw [if_pos hv] at h3 ⊢
    simp [dropMinus] at h3
    simp only [numP, if_true]
    rw [if_neg ?_, numD_dec _ h3]
    · simp; omega
    · intro e
      have := valD_dec v.natAbs
      rw [e] at this
      simp [valD, isDig] at this
      omega
  · rw [if_neg hv] at h3 ⊢
    cases hd : decDigits v.toNat with
    | nil => exact absurd hd (decDigits_ne _)
    | cons c d =>
      have hdig : isDig c := (head_dec v.toNat c (by rw [hd]; rfl)).1
      have hc : c ≠ 45 := by
        rintro rfl
        simp [isDig] at hdig
      rw [hd] at h3
      simp [dropMinus, hc] at h3
      simp only [numP, if_neg hc]
      have := numD_dec v.toNat (by rw [hd]; simpa using h3)
      rw [hd] at this
      rw [this]
      simp
      omega
end Go.Proofs.YtkphijabhoppnaaDoor
namespace Go.Proofs.YtkphijabhoppnaaDoor
open Go.RowKit
set_option linter.unusedSimpArgs false
set_option linter.unusedVariables false

/-- The library's two errors, and the tables. -/
structure GlobP (w : World) : Prop where
  g : Glob w
  er : ∃ tp p, w.var? Tryd.prog "strconv.ErrRange" = some #[.iface tp p]
  es : ∃ tp p, w.var? Tryd.prog "strconv.ErrSyntax" = some #[.iface tp p]
theorem var_be {w w' : World} {nm : String} {xs : Array Value} (h : w.var? Tryd.prog nm = some xs) (hb : Below w.heap.size w w') : w'.var? Tryd.prog nm = some xs := by
  cases hg : Tryd.prog.globalNamed nm with
  | none => simp [World.var?, hg] at h
  | some g =>
    refine var?_below hb hg ?_ h
    simp only [World.var?, hg, Option.bind_some] at h
    rcases Nat.lt_or_ge g w.heap.size with h' | h'
    · exact h'
    · rw [Array.getElem?_eq_none h'] at h
      cases h
theorem GlobP.below {w w' : World} (h : GlobP w) (hb : Below w.heap.size w w') : GlobP w' :=
  ⟨h.g.below hb, let ⟨a, b, c⟩ := h.er; ⟨a, b, var_be c hb⟩, let ⟨a, b, c⟩ := h.es; ⟨a, b, var_be c hb⟩⟩

theorem atoi_bad (s : ByteArray) (w : World) (hlim : s.size ≤ 281474976710656) (h : ∀ v, Lib.atoiAll s.data.toList ≠ .ok v) (hG : GlobP w) :
    Calls Tryd.prog 146 #[.string s] w fun e w' => ∃ n p, e = .returned (.tuple #[.int .i64 n, .iface 242 (.pointer (some p))]) ∧ Below w.heap.size w w' := by
  obtain ⟨tr, pr, hr⟩ := hG.er
  obtain ⟨ts, ps, hs⟩ := hG.es
  rcases hx : Lib.atoiAll s.data.toList with v | _ | _
  · exact absurd hx (h v)
  · refine (Any.strconv_Atoi_syntax_var Tryd.laysC172 s hlim hx ts ps w hs).mono ?_
    rintro e w' ⟨N, rfl, _, _, hb⟩
    exact ⟨_, _, rfl, hb⟩
  · refine (Any.strconv_Atoi_range_var Tryd.laysC172 s hlim hx tr pr w hr).mono ?_
    rintro e w' ⟨N, rfl, _, _, hb⟩
    exact ⟨_, _, rfl, hb⟩
theorem atoi_good (s : ByteArray) (w : World) (hlim : s.size ≤ 281474976710656) (v : Int) (h : Lib.atoiAll s.data.toList = .ok v) :
    Calls Tryd.prog 146 #[.string s] w fun e w' => e = .returned (.tuple #[.int .i64 v, .nilIface]) ∧ Below w.heap.size w w' := by
  refine (Tryd.strconv_Atoi_ok s (by omega) v h w).mono ?_
  rintro e w' ⟨rfl, rfl | ⟨t, rfl⟩⟩
  · exact ⟨rfl, Below.refl _ _⟩
  · exact ⟨rfl, Lib.bytesWorld_below w 5 t⟩
theorem dropMinus_trim (s : List UInt8) : Lib.trimPrefix s [45] = dropMinus s := by
  cases s with
  | nil => rfl
  | cons c d =>
    by_cases h : c = 45
    · subst h; simp [Lib.trimPrefix, Lib.hasPrefix, dropMinus]
    · simp [Lib.trimPrefix, Lib.hasPrefix, dropMinus, h]; intro h2; exact absurd h2.symm h
def NumPost (w : World) (s : List UInt8) (e : Ending) (w' : World) : Prop :=
  ∃ n, e = .returned (.tuple #[.int .i64 n, .bool (numP s).isSome]) ∧ (∀ v, numP s = some v → n = v) ∧ Below w.heap.size w w'

set_option maxRecDepth 100000 in
theorem number_calls (s : ByteArray) (w : World) (hlim : s.size ≤ 1000000) (hG : GlobP w) : Calls Tryd.prog 114 #[.string s] w (NumPost w s.data.toList) := by
  by_cases hok : ∃ v, Lib.atoiAll s.data.toList = .ok v
  · obtain ⟨v, hv⟩ := hok
    have hbd := Lib.atoiAll_bounds hv
    have HA := Lib.hid (fun W => atoi_good s W (by omega) v hv)
    obtain ⟨u, hu⟩ : ∃ u : ByteArray, (⟨(Lib.itoa v).toArray⟩ : ByteArray) = u := ⟨_, rfl⟩
    obtain ⟨t, ht⟩ : ∃ t : ByteArray, (⟨(dropMinus s.data.toList).toArray⟩ : ByteArray) = t := ⟨_, rfl⟩
    have htl : (dropMinus s.data.toList).length = t.size := by rw [← ht]; simp [ByteArray.size]
    have HI := Lib.hid (fun W (h : Glob W) => (show Calls Tryd.prog 49 #[.int .i64 v] W fun e w' => e = .returned (.string u) ∧ Below W.heap.size W w' from hu ▸ itoa_calls v hbd.1 hbd.2 W h))
    have HT := Lib.hid (fun W => (show Calls Tryd.prog 120 #[.string s, .string ⟨#[45]⟩] W fun e w' => e = .returned (.string t) ∧ w' = W from by
      have := Tryd.strings_TrimPrefix s ⟨#[45]⟩ W
      rw [show (⟨#[45]⟩ : ByteArray).data.toList = [45] from rfl, dropMinus_trim, ht] at this
      exact this))
    have HG := Lib.hid hG
    by_cases h1 : Lib.itoa v = s.data.toList
    · have hs : s = u := by rw [← hu, h1]
      have HP : Hid (∀ w' b, b = decide (t.size ≤ 6) → Below w.heap.size w w' → NumPost w s.data.toList (.returned (.tuple #[.int .i64 v, .bool b])) w') := Lib.hid (by
        rintro w' b rfl hb
        by_cases h2 : (dropMinus s.data.toList).length ≤ 6
        · have hp := ok_numP _ v h1 h2
          refine ⟨v, ?_, fun v' h => ?_, hb⟩
          · rw [hp, decide_eq_true (by omega)]; rfl
          · rw [hp] at h; exact Option.some.inj h
        · have hp : numP s.data.toList = none := by
            cases hq : numP s.data.toList with
            | none => rfl
            | some v' => exact absurd (numP_ok _ _ hq).2.2.1 h2
          refine ⟨v, ?_, fun v' h => ?_, hb⟩
          · rw [hp, decide_eq_false (by omega)]; rfl
          · rw [hp] at h; cases h)
      subst hs
      clear hv h1 hG hu ht htl
      go_enter Tryd.func114, Tryd.ntmps114
      go_wp2_with (first | (go_at_call 146; refine (HA.out _).mono ?_; rintro e w1 ⟨rfl, hb1⟩) | (go_at_call 49; refine (HI.out _ (HG.out.below hb1).g).mono ?_; rintro e w2 ⟨rfl, hb2⟩) | (go_at_call 120; refine (HT.out _).mono ?_; rintro e w3 ⟨rfl, rfl⟩) | fail)
      go_ret2
      exact HP.out _ _ (by rw [decide_eq_decide]; omega) (hb1.trans (hb2.mono hb1.size))
    · have hp : numP s.data.toList = none := by
        cases hq : numP s.data.toList with
        | none => rfl
        | some v' =>
          have := (numP_ok _ _ hq)
          rw [this.1] at hv
          cases hv
          exact absurd this.2.1 h1
      have hus : u ≠ s := by
        rintro rfl
        exact h1 (by rw [← hu])
      have hne2 : (u.toList == s.toList) = false := by
        rw [beq_eq_false_iff_ne, ba_toList, ba_toList]
        intro e
        exact hus (ByteArray.ext (Array.toList_inj.1 e))
      have hne3 : ¬ u.toList = s.toList := by
        rw [ba_toList, ba_toList]
        intro e
        exact hus (ByteArray.ext (Array.toList_inj.1 e))
      have HP : Hid (∀ w', Below w.heap.size w w' → NumPost w s.data.toList (.returned (.tuple #[.int .i64 v, .bool false])) w') := Lib.hid fun w' hb => ⟨v, by rw [hp]; rfl, (fun v' h => by rw [hp] at h; cases h), hb⟩
      clear hv h1 hG hu ht htl hp hus
      go_enter Tryd.func114, Tryd.ntmps114
      go_wp2_with (first | (go_at_call 146; refine (HA.out _).mono ?_; rintro e w1 ⟨rfl, hb1⟩) | (go_at_call 49; refine (HI.out _ (HG.out.below hb1).g).mono ?_; rintro e w2 ⟨rfl, hb2⟩) | fail)
      go_ret2
      exact HP.out _ (hb1.trans (hb2.mono hb1.size))
  · have hno : ∀ v, Lib.atoiAll s.data.toList ≠ .ok v := fun v h => hok ⟨v, h⟩
    have hp : numP s.data.toList = none := by
      cases hq : numP s.data.toList with
      | none => rfl
      | some v' => exact absurd (numP_ok _ _ hq).1 (hno v')
    have HA := Lib.hid (fun W h => atoi_bad s W (by omega) hno h)
    have HP : Hid (∀ w' n, Below w.heap.size w w' → NumPost w s.data.toList (.returned (.tuple #[.int .i64 n, .bool false])) w') := Lib.hid fun w' n hb => ⟨n, by rw [hp]; rfl, (fun v' h => by rw [hp] at h; cases h), hb⟩
    have HG := Lib.hid hG
    clear hok hno hp hG
    go_enter Tryd.func114, Tryd.ntmps114
    go_wp2_with (first | (go_at_call 146; refine (HA.out _ HG.out).mono ?_; rintro e w1 ⟨n, p, rfl, hb1⟩) | fail)
    go_ret2
    exact HP.out _ _ hb1
end Go.Proofs.YtkphijabhoppnaaDoor
