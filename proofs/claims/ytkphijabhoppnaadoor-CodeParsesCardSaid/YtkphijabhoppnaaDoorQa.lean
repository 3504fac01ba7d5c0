/- The document's bytecodes, as its reference has them: the same functions as code's: Places, Text. -/
import Derived.Test.YtkphijabhoppnaaDoorBg
import Derived.Test.YtkphijabhoppnaaDoorBe
namespace Go.Proofs.YtkphijabhoppnaaDoor
open Go.RowKit Go.Proofs.YtkphijabhoppnaaDoorW.PrintWords Go.Proofs.YtkphijabhoppnaaDoor.PCodeReads
set_option linter.unusedSimpArgs false
set_option linter.unusedVariables false

theorem ops_len_from (l : List Int) : ∀ (f i : Nat), (opsFrom l f i).length ≤ f := by
  intro f
  induction f with
  | zero => intro i; simp [opsFrom]
  | succ f ih =>
    intro i
    rw [opsFrom]
    split
    · split
      · have := ih (i + (readAt l i).size.toNat)
        simp only [List.length_cons]; omega
      · simp
    · simp
theorem ops_len (l : List Int) : (opsL l).length ≤ l.length := ops_len_from l _ _
theorem opsFrom_next (l : List Int) (f i : Nat) (hi : i < l.length) (h : (readAt l i).err = 0) : opsFrom l (f + 1) i = (i, readAt l i) :: opsFrom l f (i + (readAt l i).size.toNat) := by
  rw [opsFrom, if_pos hi, if_pos h]

/-- The reference's Places from a place on: what has come, then the rest; or the error of the first that cannot be read. -/
theorem ref_places_from (l : List Int) (hby : ∀ x ∈ l, 0 ≤ x ∧ x ≤ 255) (hl : l.length ≤ 1000000) : ∀ (f i : Nat) (acc : List Int) (k : Nat), l.length ≤ i + f → i ≤ l.length → acc.length ≤ i → f + 5 ≤ k →
    ∃ r : List Int × Int × Int, brazierref13_Places.l0 k l acc i = some r ∧
      ((∃ E : Nat, E < l.length ∧ (readAt l E).err ≠ 0 ∧ r = ([], (readAt l E).err, (E : Int)) ∧ (opsFrom l f i = [] ∧ E = i ∨ opsFrom l f i ≠ [] ∧ endO (opsFrom l f i) = E)) ∨
       (r = (acc ++ plcs (opsFrom l f i), 0, 0) ∧ (opsFrom l f i = [] ∧ i = l.length ∨ opsFrom l f i ≠ [] ∧ endO (opsFrom l f i) = l.length))) := by
  intro f
  induction f with
  | zero =>
    intro i acc k h1 h2 h3 h4
    obtain ⟨k, rfl⟩ : ∃ m, k = m + 1 := ⟨k - 1, by omega⟩
    refine ⟨_, ?_, .inr ⟨rfl, .inl ⟨by simp [opsFrom], by omega⟩⟩⟩
    rw [brazierref13_Places.l0, if_neg (by omega)]
    simp [opsFrom, plcs]
  | succ f ih =>
    intro i acc k h1 h2 h3 h4
    obtain ⟨k, rfl⟩ : ∃ m, k = m + 1 := ⟨k - 1, by omega⟩
    by_cases hi : i < l.length
    · have hr : brazierref13_Read.f k l i = some (readAt l i).quint := by
        obtain ⟨k, rfl⟩ : ∃ m, k = m + 3 := ⟨k - 3, by omega⟩
        rw [ref_read k l hby hl, readS_at l i hi]
      by_cases he : (readAt l i).err = 0
      · have hs := readAt_size l i he
        have hen := readAt_end l i hi he
        have hw : wrap64 ((i : Int) + (readAt l i).size) = ((i + (readAt l i).size.toNat : Nat) : Int) := by unfold wrap64; omega
        obtain ⟨r, hr1, hr2⟩ := ih (i + (readAt l i).size.toNat) (acc ++ [(i : Int)]) k (by omega) hen (by simp; omega) (by omega)
        refine ⟨r, ?_, ?_⟩
        · rw [brazierref13_Places.l0, if_pos (by omega), hr, Option.bind_some]
          show (if (readAt l i).err = 0 then _ else _) = _
          rw [if_pos he, if_pos (by omega)]
          show brazierref13_Places.l0 k l (acc ++ [(i : Int)]) (wrap64 ((i : Int) + (readAt l i).size)) = _
          rw [hw, hr1]
        · rw [opsFrom_next l f i hi he]
          rcases hr2 with ⟨E, e1, e2, e3, e4⟩ | ⟨e3, e4⟩
          · refine .inl ⟨E, e1, e2, e3, .inr ⟨by simp, ?_⟩⟩
            rw [endO_cons]
            rcases e4 with ⟨e4, e5⟩ | ⟨e4, e5⟩
            · rw [if_pos e4, e5]; exact hw
            · rw [if_neg e4, e5]
          · refine .inr ⟨by rw [e3]; simp [plcs], .inr ⟨by simp, ?_⟩⟩
            rw [endO_cons]
            rcases e4 with ⟨e4, e5⟩ | ⟨e4, e5⟩
            · rw [if_pos e4, ← e5]; exact hw
            · rw [if_neg e4, e5]
      · refine ⟨([], (readAt l i).err, (i : Int)), ?_, .inl ⟨i, hi, he, rfl, .inl ⟨by rw [opsFrom, if_pos hi, if_neg he], rfl⟩⟩⟩
        rw [brazierref13_Places.l0, if_pos (by omega), hr, Option.bind_some]
        show (if (readAt l i).err = 0 then _ else _) = _
        rw [if_neg he]
        rfl
    · refine ⟨_, ?_, .inr ⟨rfl, .inl ⟨by rw [opsFrom, if_neg hi], by omega⟩⟩⟩
      rw [brazierref13_Places.l0, if_neg (by omega)]
      simp [opsFrom, hi, plcs]

theorem ref_places (l : List Int) (hby : ∀ x ∈ l, 0 ≤ x ∧ x ≤ 255) (hl : l.length ≤ 1000000) (k : Nat) (hk : l.length + 5 ≤ k) :
    ∃ z : Int, brazierref13_Places.f k l = some ((placesS l).1, (placesS l).2, z) := by
  obtain ⟨r, h1, h2⟩ := ref_places_from l hby hl l.length 0 [] k (by omega) (by omega) (by simp) hk
  unfold brazierref13_Places.f
  rw [show (0 : Int) = ((0 : Nat) : Int) from rfl, h1]
  unfold placesS
  have e0 : opsFrom l l.length 0 = opsL l := rfl
  rw [e0] at h2
  rcases h2 with ⟨E, e1, e2, e3, e4⟩ | ⟨e3, e4⟩
  · have hE : endO (opsL l) = E := by
      rcases e4 with ⟨e4, e5⟩ | ⟨e4, e5⟩
      · rw [e4, e5]; rfl
      · exact e5
    refine ⟨E, ?_⟩
    rw [hE, if_pos (by omega), readS_at l E e1, e3]
  · have hE : endO (opsL l) = l.length := by
      rcases e4 with ⟨e4, e5⟩ | ⟨e4, e5⟩
      · rw [e4, ← e5]; rfl
      · exact e5
    refine ⟨0, ?_⟩
    rw [hE, if_neg (by omega), e3]
    simp

/-! ### numbers -/
def baL (l : List UInt8) : ByteArray := ⟨l.toArray⟩
theorem baL_cat (l m : List UInt8) : baL l ++ baL m = baL (l ++ m) := by
  apply ByteArray.ext
  simp [baL]
theorem baL_size (l : List UInt8) : (baL l).size = l.length := by simp [baL, ByteArray.size]
theorem digit_num (m : Nat) (h : m ≤ 1000000) : strOfNums ([(wrap64 (48 + (Int.tmod (m : Int) 10))) % 256] : List Int) = baL [UInt8.ofNat (48 + m % 10)] := by
  have e : (wrap64 (48 + (Int.tmod (m : Int) 10))) % 256 = ((48 + m % 10 : Nat) : Int) := by
    rw [Int.tmod_eq_emod_of_nonneg (by omega)]
    unfold wrap64
    omega
  rw [e]
  simp only [strOfNums, List.map, baL, Int.toNat_natCast]
theorem ref_dec_l0 : ∀ (k m : Nat) (s : List UInt8), m < 10 ^ (k + 1) → m ≤ 1000000 → s.length + k ≤ 1000 →
    brazierref13_decimal.l0 (k + 1) m (baL s) = some (baL (if m < 10 then s else Lib.decDigits (m / 10) ++ s)) := by
  intro k
  induction k with
  | zero =>
    intro m s h1 h2 h3
    have : m < 10 := by omega
    rw [brazierref13_decimal.l0, if_neg (by omega), if_pos this]
  | succ k ih =>
    intro m s h1 h2 h3
    rw [brazierref13_decimal.l0]
    by_cases h : m < 10
    · rw [if_neg (by omega), if_pos h]
    · have e1 : wrap64 (Int.tdiv (m : Int) 10) = ((m / 10 : Nat) : Int) := by
        rw [Int.tdiv_eq_ediv_of_nonneg (by omega)]
        unfold wrap64
        omega
      have h4 : m / 10 < 10 ^ (k + 1) := by
        have : 10 ^ (k + 1 + 1) = 10 ^ (k + 1) * 10 := by rw [Nat.pow_succ]
        omega
      rw [if_pos (by omega), if_neg h, e1, Option.bind_some, digit_num (m / 10) (by omega), baL_size, baL_size, if_pos (by simp only [List.length_cons, List.length_nil]; omega), baL_cat, ih (m / 10) _ h4 (by omega) (by simp; omega)]
      congr 2
      rw [Lib.decDigits.eq_def (m / 10)]
      by_cases h5 : m / 10 < 10
      · rw [if_pos h5, dif_pos h5, Nat.mod_eq_of_lt h5]
      · rw [if_neg h5, dif_neg h5, List.append_assoc]
theorem ref_dec_nat (k m : Nat) (h2 : m ≤ 1000000) (hk : 10 ≤ k) (hk2 : k ≤ 900) : brazierref13_decimal.f (k + 1) m = some (baL (Lib.decDigits m)) := by
  have e1 : Int.tmod (m : Int) 10 = Int.tmod (m : Int) 10 := rfl
  rw [brazierref13_decimal.f, if_neg (by omega), digit_num m h2]
  obtain ⟨k, rfl⟩ : ∃ j, k = j + 1 := ⟨k - 1, by omega⟩
  have hp : m < 10 ^ (k + 1) := by
    have : 10 ^ 10 ≤ 10 ^ (k + 1) := Nat.pow_le_pow_right (by omega) hk
    omega
  rw [ref_dec_l0 k m _ hp h2 (by simp; omega)]
  congr 2
  rw [Lib.decDigits.eq_def m]
  by_cases h : m < 10
  · rw [if_pos h, dif_pos h, Nat.mod_eq_of_lt h]
  · rw [if_neg h, dif_neg h]
theorem itoa_len6 (a : Int) (h0 : -1000000 ≤ a) (h1 : a ≤ 1000000) : (Lib.itoa a).length ≤ 21 := by
  have := Lib.itoa_length_le a (by omega) (by omega)
  omega
theorem ref_dec (k : Nat) (a : Int) (h0 : -1000000 ≤ a) (h1 : a ≤ 1000000) (hk : 20 ≤ k) : brazierref13_decimal.f k a = some (baL (Lib.itoa a)) := by
  have base : brazierref13_decimal.f 20 a = some (baL (Lib.itoa a)) := by
    by_cases h : a < 0
    · have e1 : wrap64 (-a) = ((a.natAbs : Nat) : Int) := by unfold wrap64; omega
      have e2 : Lib.itoa a = 45 :: Lib.decDigits a.natAbs := by rw [Lib.itoa, if_pos h]
      have hl := itoa_len6 a h0 h1
      rw [e2] at hl
      simp only [List.length_cons] at hl
      rw [brazierref13_decimal.f, if_pos h, e1, ref_dec_nat 18 _ (by omega) (by omega) (by omega), Option.bind_some, baL_size, if_pos (by omega), e2, show (⟨#[45]⟩ : ByteArray) = baL [45] from rfl, baL_cat]
      rfl
    · obtain ⟨m, rfl⟩ := Int.eq_ofNat_of_zero_le (show 0 ≤ a by omega)
      have e2 : Lib.itoa (m : Int) = Lib.decDigits m := by rw [Lib.itoa, if_neg h, Int.toNat_natCast]
      rw [ref_dec_nat 19 m (by omega) (by omega) (by omega), e2]
  obtain ⟨j, rfl⟩ : ∃ j, k = 20 + j := ⟨k - 20, by omega⟩
  exact dec_up base j

/-! ### names and lines -/
theorem ref_name_in : ∀ n : Nat, n < 41 → brazierref13_Name.f n = some (baL (nmC n)) := by decide +kernel

/-- A line without its end. -/
theorem ref_line (k : Nat) (x : Rd) (p : Nat) (hx : GoodOp (p, x)) (hk : 20 ≤ k) : brazierref13_Line.f k x.code x.a x.b x.size = some (baL (nmC x.code ++ tailT x (opk x.code))) := by
  obtain ⟨code, a, b, size, err⟩ := x
  obtain ⟨⟨g0, g1⟩, ⟨g2, g3⟩, ⟨g4, g5⟩, _⟩ := hx
  replace g0 : 0 ≤ code := g0
  replace g1 : code ≤ 40 := g1
  replace g2 : -32768 ≤ a := g2
  replace g3 : a ≤ 32767 := g3
  replace g4 : -32768 ≤ b := g4
  replace g5 : b ≤ 32767 := g5
  dsimp only
  obtain ⟨n, rfl⟩ := Int.eq_ofNat_of_zero_le g0
  have hn : n < 41 := by omega
  have hl := nm_len n hn
  have la := itoa_len6 a (by omega) (by omega)
  have lb := itoa_len6 b (by omega) (by omega)
  obtain ⟨k, rfl⟩ : ∃ j, k = j + 2 := ⟨k - 2, by omega⟩
  unfold brazierref13_Line.f
  rw [ref_name_in n hn, Option.bind_some, ref_operands, Option.bind_some, opB_list, ref_dec (k + 2) a (by omega) (by omega) hk, ref_dec (k + 2) b (by omega) (by omega) hk, show (⟨#[32]⟩ : ByteArray) = baL [32] from rfl]
  simp only [Option.bind_some, baL_cat, baL_size, List.length_append, List.length_cons, List.length_nil]
  rcases opk_le n with h | h | h | h | h <;> rw [h] <;> simp only [opLs, tailT]
  · rw [if_pos trivial, if_neg (by decide), List.append_nil]
  · rw [if_neg (by decide), if_pos (by omega), if_pos (by omega), if_neg (by decide), List.append_assoc]; rfl
  · rw [if_neg (by decide), if_pos (by omega), if_pos (by omega), if_neg (by decide), List.append_assoc]; rfl
  · rw [if_neg (by decide), if_pos (by omega), if_pos (by omega), if_neg (by decide), List.append_assoc]; rfl
  · rw [if_neg (by decide), if_pos (by omega), if_pos (by omega), if_pos trivial, if_pos (by omega), if_pos (by omega)]
    simp only [List.append_assoc, List.cons_append, List.nil_append]

/-! ### the text -/
theorem strOfNums_bytes (l : List UInt8) : strOfNums (l.map fun b => (b.toNat : Int)) = baL l := by
  simp [strOfNums, baL, Function.comp_def]
theorem ref_text_from (l : List Int) (hby : ∀ x ∈ l, 0 ≤ x ∧ x ≤ 255) (hl : l.length ≤ 1000000) (xs : List (Nat × Rd)) (hxs : ∀ x ∈ xs, GoodOp x ∧ x.1 < l.length ∧ x.2 = readAt l x.1) (hn : xs.length ≤ 1000000) :
    ∀ (d j : Nat) (acc : List UInt8) (k : Nat), xs.length - j = d → j ≤ xs.length → acc.length ≤ 60 * j → d + 30 ≤ k →
      brazierref13_Text.l0 k l (plcs xs) (acc.map fun b => (b.toNat : Int)) j = some (baL (acc ++ ((xs.drop j).map fun x => lineT x.2).flatten), 0) := by
  intro d
  induction d with
  | zero =>
    intro j acc k h1 h2 h3 h4
    obtain ⟨k, rfl⟩ : ∃ m, k = m + 1 := ⟨k - 1, by omega⟩
    have : j = xs.length := by omega
    rw [brazierref13_Text.l0, if_neg (by simp [plcs]; omega), strOfNums_bytes, this, List.drop_length]
    simp
  | succ d ih =>
    intro j acc k h1 h2 h3 h4
    obtain ⟨k, rfl⟩ : ∃ m, k = m + 1 := ⟨k - 1, by omega⟩
    have hj : j < xs.length := by omega
    have f1 : xs.length - (j + 1) = d := by omega
    have f2 : j + 1 ≤ xs.length := hj
    have f4 : d + 30 ≤ k := by omega
    have f5 : 20 ≤ k := by omega
    have f6 : acc.length ≤ 60000000 := by omega
    have f7 : 60 * j + 60 = 60 * (j + 1) := by omega
    have e2 : wrap64 ((j : Int) + 1) = ((j + 1 : Nat) : Int) := by unfold wrap64; omega
    obtain ⟨hg, hp, hr⟩ := hxs xs[j] (List.getElem_mem hj)
    have hrd : rd (plcs xs) j = ((xs[j].1 : Nat) : Int) := by
      have : j < (plcs xs).length := by simpa [plcs] using hj
      simp only [rd, Int.toNat_natCast, List.getD_eq_getElem?_getD, List.getElem?_eq_getElem this, Option.getD_some]
      simp [plcs]
    have hread : brazierref13_Read.f k l (rd (plcs xs) j) = some xs[j].2.quint := by
      obtain ⟨k, rfl⟩ : ∃ m, k = m + 3 := ⟨k - 3, by omega⟩
      rw [hrd, ref_read k l hby hl, readS_at l _ hp, ← hr]
    have hline := ref_line k xs[j].2 xs[j].1 hg f5
    have hll := line_len ⟨xs[j], hg⟩
    have hlt : lineT xs[j].2 = nmC xs[j].2.code ++ tailT xs[j].2 (opk xs[j].2.code) ++ [10] := by rw [lineT, List.append_assoc]
    have hll2 : (lineT xs[j].2).length ≤ 60 := hll
    rw [hlt, List.length_append] at hll2
    simp only [List.length_cons, List.length_nil] at hll2
    rw [brazierref13_Text.l0, if_pos (by simp [plcs]; omega), if_pos (by omega), hread, Option.bind_some]
    show (Option.bind (brazierref13_Line.f k xs[j].2.code xs[j].2.a xs[j].2.b xs[j].2.size) _) = _
    rw [hline, Option.bind_some, baL_size, if_pos (by simp only [List.length_map]; omega), Option.bind_some]
    have hbo : bytesOf (baL (nmC xs[j].2.code ++ tailT xs[j].2 (opk xs[j].2.code))) = (nmC xs[j].2.code ++ tailT xs[j].2 (opk xs[j].2.code)).map fun b => (b.toNat : Int) := rfl
    rw [hbo, if_pos (by simp only [List.length_append, List.length_map]; simp only [List.length_append] at hll2; omega)]
    have e1 : (acc.map fun b => (b.toNat : Int)) ++ ((nmC xs[j].2.code ++ tailT xs[j].2 (opk xs[j].2.code)).map fun b => (b.toNat : Int)) ++ [10] = (acc ++ lineT xs[j].2).map fun b => (b.toNat : Int) := by
      rw [hlt]; simp
    have f3 : (acc ++ lineT xs[j].2).length ≤ 60 * (j + 1) := by
      rw [List.length_append, ← f7]
      exact Nat.add_le_add h3 hll
    rw [e1, e2, ih (j + 1) (acc ++ lineT xs[j].2) k f1 f2 f3 f4]
    rw [List.drop_eq_getElem_cons hj, List.map_cons, List.flatten_cons, List.append_assoc]

theorem ref_text (l : List Int) (hby : ∀ x ∈ l, 0 ≤ x ∧ x ≤ 255) (hl : l.length ≤ 1000000) (k : Nat) (hk : l.length + 30 ≤ k) :
    brazierref13_Text.f k l = some (baL (textS l).1, (textS l).2) := by
  obtain ⟨z, hz⟩ := ref_places l hby hl k (by omega)
  unfold brazierref13_Text.f
  rw [hz, Option.bind_some]
  unfold textS
  dsimp only
  by_cases he : (placesS l).2 = 0
  · rw [if_pos he, if_pos he]
    have hpl : (placesS l).1 = plcs (opsL l) := by
      unfold placesS at he ⊢
      split
      · rename_i h
        rw [if_pos h] at he
        obtain ⟨E, e1, e2, e3⟩ := ops_end l hl
        rw [e1] at he h
        have h' : E < l.length := by omega
        rw [readS_at l E h'] at he
        exact absurd he (e3 h')
      · rfl
    have hlen : (opsL l).length ≤ l.length := ops_len l
    have := ref_text_from l hby hl (opsL l) (fun x hx => ⟨ops_good l hby hl x hx, (opsFrom_mem l _ _ x hx).2.1, (opsFrom_mem l _ _ x hx).2.2.1⟩) (by omega) (opsL l).length 0 [] k (by omega) (by omega) (by simp) (by omega)
    rw [hpl]
    simpa using this
  · rw [if_neg he, if_neg he]
    rfl
end Go.Proofs.YtkphijabhoppnaaDoor
