/- The plain law of CodeBack: what is written is read as it was; the text of bytes is read as these bytes. -/
import Derived.Test.YtkphijabhoppnaaDoorSg
import Derived.Test.YtkphijabhoppnaaDoorSh
namespace Go.Proofs.YtkphijabhoppnaaDoor
open Go.RowKit Go.Lib
set_option linter.unusedSimpArgs false
set_option linter.unusedVariables false

theorem strB_extU (s : ByteArray) (b i : Nat) : strB ((s.data.toList.take i).drop b) = s.extract b i := by
  apply ByteArray.ext
  rw [ByteArray.data_extract]
  apply Array.toList_inj.1
  rw [Array.toList_extract, List.extract_eq_take_drop]
  simp [strB, List.drop_take]
theorem get_listU (s : ByteArray) (i : Nat) (h : i < s.size) : s.get! i = s.data.toList[i]'(by rw [Array.length_toList]; exact h) := by
  rw [get!_eq s i h]
  rfl
theorem ops_len_fromU (l : List Int) : ∀ (f i : Nat), (opsFrom l f i).length ≤ f := by
  intro f
  induction f with
  | zero => intro i; simp [opsFrom]
  | succ f ih =>
    intro i
    rw [opsFrom]
    split
    · split
      · have := ih (i + (readAt l i).size.toNat)
        simp only [List.length_cons]; omega
      · simp
    · simp
theorem ops_lenU (l : List Int) : (opsL l).length ≤ l.length := ops_len_fromU l _ _
theorem readS_cons (c : Int) (r : List Int) (h1 : c ≤ 40) : readS (c :: r) 0 = readK (c :: r) 0 c (opk c) := by
  unfold readS
  rw [if_neg (by simp; omega), if_neg (by rw [List.length_cons]; omega)]
  unfold readAt
  rw [show (0 : Int).toNat = 0 from rfl, show (c :: r).getD 0 0 = c from rfl, if_neg (by omega)]
/-- What is written is read. -/
theorem read_write (c a b : Int) (h : (writeS c a b).2 = 0) : readS (writeS c a b).1 0 = ⟨c, a, b, (writeS c a b).1.length, 0⟩ := by
  unfold writeS at h ⊢
  split at h
  · rename_i hc
    rw [if_pos hc]
    rcases opk_le c with hk | hk | hk | hk | hk <;> rw [hk] at h ⊢ <;> simp only [writeK] at h ⊢
    · split at h
      · rename_i ha
        obtain ⟨rfl, rfl⟩ := ha
        rw [if_pos ⟨rfl, rfl⟩, readS_cons c _ hc.2, hk]
        rfl
      · simp at h
    · split at h
      · rename_i ha
        obtain ⟨h2, rfl⟩ := ha
        rw [if_pos ⟨h2, rfl⟩, readS_cons c _ hc.2, hk]
        rfl
      · simp at h
    · split at h
      · rename_i ha
        obtain ⟨h2, rfl⟩ := ha
        rw [if_pos ⟨h2, rfl⟩, readS_cons c _ hc.2, hk]
        have h3 : -128 ≤ a ∧ a ≤ 127 := h2
        have e : s8 (a % 256) = a := by
          unfold s8
          split <;> omega
        show Rd.mk c (s8 (a % 256)) 0 2 0 = _
        rw [e]
        rfl
      · simp at h
    · split at h
      · rename_i ha
        obtain ⟨h2, rfl⟩ := ha
        rw [if_pos ⟨h2, rfl⟩, readS_cons c _ hc.2, hk]
        have h3 : -32768 ≤ a ∧ a < 32768 := h2
        have e : s16 (a % 256) (a / 256 % 256) = a := by
          unfold s16
          split <;> omega
        show Rd.mk c (s16 (a % 256) (a / 256 % 256)) 0 3 0 = _
        rw [e]
        rfl
      · simp at h
    · split at h
      · rename_i ha
        rw [if_pos ha, readS_cons c _ hc.2, hk]
        rfl
      · simp at h
  · simp at h

/-- The words of a list of bytes. -/
def fieldsL : List UInt8 → Option (List UInt8) → List (List UInt8)
  | [], none => []
  | [], some v => [v]
  | c :: r, st => if c = 32 then (match st with | none => fieldsL r none | some v => v :: fieldsL r none) else fieldsL r (some (st.getD [] ++ [c]))
theorem fieldsL_sp (r : List UInt8) (st : Option (List UInt8)) : fieldsL (32 :: r) st = (match st with | none => fieldsL r none | some v => v :: fieldsL r none) := by
  cases st <;> simp [fieldsL]
theorem fieldsL_ch (c : UInt8) (r : List UInt8) (st : Option (List UInt8)) (h : ¬ c = 32) : fieldsL (c :: r) st = fieldsL r (some (st.getD [] ++ [c])) := by
  cases st <;> simp [fieldsL, h]
theorem spans_list (s : ByteArray) : ∀ (f pos : Nat) (st : Option Nat) (acc : List (Nat × Nat)), s.size ≤ pos + f → pos ≤ s.size → (∀ a, st = some a → a ≤ pos) →
    (Lib.closeSpans s (spansB s f pos st acc)).map (fun x => s.extract x.1 x.2) = acc.map (fun x => s.extract x.1 x.2) ++ (fieldsL (s.data.toList.drop pos) (st.map fun a => (s.data.toList.take pos).drop a)).map strB := by
  have fin : ∀ (f pos : Nat) (st : Option Nat) (acc : List (Nat × Nat)), pos = s.size →
      (Lib.closeSpans s (spansB s f pos st acc)).map (fun x => s.extract x.1 x.2) = acc.map (fun x => s.extract x.1 x.2) ++ (fieldsL (s.data.toList.drop pos) (st.map fun a => (s.data.toList.take pos).drop a)).map strB := by
    intro f pos st acc h
    have hd : s.data.toList.drop pos = [] := List.drop_eq_nil_of_le (by rw [Array.length_toList, h]; exact Nat.le_refl _)
    rw [spansB_end _ _ _ _ _ (by omega), hd]
    cases st with
    | none => simp [Lib.closeSpans, fieldsL]
    | some a =>
      simp only [Lib.closeSpans, Option.map_some, fieldsL, List.map_append, List.map_cons, List.map_nil]
      rw [strB_extU, h]
  intro f
  induction f with
  | zero => intro pos st acc h1 h2 h3; exact fin 0 pos st acc (by omega)
  | succ f ih =>
    intro pos st acc h1 h2 h3
    by_cases hp : pos < s.size
    · have hl : pos < s.data.toList.length := by rw [Array.length_toList]; exact hp
      have hd : s.data.toList.drop pos = s.data.toList[pos] :: s.data.toList.drop (pos + 1) := List.drop_eq_getElem_cons hl
      have hg : s.get! pos = s.data.toList[pos] := get_listU s pos hp
      have ht : s.data.toList.take (pos + 1) = s.data.toList.take pos ++ [s.data.toList[pos]] := by rw [List.take_succ_eq_append_getElem hl]
      have hlen : (s.data.toList.take pos).length = pos := by rw [List.length_take]; omega
      rw [hd]
      by_cases hc : (s.get! pos).toNat = 32
      · have hc' : s.data.toList[pos] = 32 := by rw [← hg]; exact UInt8.toNat_inj.1 hc
        rw [hc', fieldsL_sp]
        cases st with
        | none =>
          rw [spansB_yes _ _ _ _ hp hc, ih (pos + 1) none acc (by omega) (by omega) (by simp)]
          rfl
        | some a =>
          rw [spansB_yes' _ _ _ _ _ hp hc, ih (pos + 1) none _ (by omega) (by omega) (by simp)]
          simp only [Option.map_some, Option.map_none, List.map_append, List.map_cons, List.map_nil, List.append_assoc]
          rw [strB_extU]
          rfl
      · have hc' : ¬ s.data.toList[pos] = 32 := by
          intro e
          rw [hg, e] at hc
          exact hc rfl
        rw [fieldsL_ch _ _ _ hc', spansB_no _ _ _ _ _ hp hc, ih (pos + 1) _ acc (by omega) (by omega) (by
          intro a ha
          cases st with
          | none => simp at ha; omega
          | some b => have := h3 b rfl; simp at ha; omega)]
        congr 2
        have e : (some (st.getD pos)).map (fun a => (s.data.toList.take (pos + 1)).drop a) = some ((st.map fun a => (s.data.toList.take pos).drop a).getD [] ++ [s.data.toList[pos]]) := by
          rw [ht]
          cases st with
          | none =>
            simp only [Option.map_some, Option.getD_none, Option.map_none, List.nil_append]
            rw [List.drop_append, hlen, Nat.sub_self, List.drop_zero, List.drop_eq_nil_of_le (by omega)]
            rfl
          | some a =>
            have := h3 a rfl
            simp only [Option.map_some, Option.getD_some]
            rw [List.drop_append, hlen, show a - pos = 0 by omega, List.drop_zero]
        rw [e]
    · exact fin (f + 1) pos st acc (by omega)
theorem fieldsB_list (s : ByteArray) : fieldsB s = (fieldsL s.data.toList none).map strB := by
  unfold fieldsB
  rw [spans_list s s.size 0 none [] (by omega) (by omega) (by simp)]
  rfl
theorem fieldsL_on (r : List UInt8) : ∀ (w v : List UInt8), (∀ c ∈ w, c ≠ 32) → fieldsL (w ++ r) (some v) = fieldsL r (some (v ++ w))
  | [], v, _ => by rw [List.nil_append, List.append_nil]
  | c :: w, v, h => by
    rw [List.cons_append, fieldsL_ch _ _ _ (h c (by simp))]
    rw [Option.getD_some, fieldsL_on r w (v ++ [c]) (fun x hx => h x (by simp [hx]))]
    simp
theorem fieldsL_word (r w : List UInt8) (hw : w ≠ []) (h : ∀ c ∈ w, c ≠ 32) : fieldsL (w ++ r) none = fieldsL r (some w) := by
  cases w with
  | nil => exact absurd rfl hw
  | cons c w =>
    rw [List.cons_append, fieldsL_ch _ _ _ (h c (by simp)), fieldsL_on r w _ (fun x hx => h x (by simp [hx]))]
    rfl
theorem splitB_line (r : List UInt8) : ∀ w : List UInt8, (∀ c ∈ w, c ≠ 10) → splitB (w ++ 10 :: r) = w :: splitB r
  | [], _ => by rw [List.nil_append, splitB, if_pos rfl]
  | c :: w, h => by
    rw [List.cons_append, splitB, if_neg (h c (by simp)), splitB_line r w (fun x hx => h x (by simp [hx]))]

theorem decDigits_dig (n : Nat) : ∀ c ∈ decDigits n, isDig c := by
  induction n using Nat.strongRecOn with
  | ind n ih =>
    intro c hc
    rw [decDigits] at hc
    split at hc
    · rename_i h
      obtain rfl := List.mem_singleton.1 hc
      exact (dig_of n h).1
    · rcases List.mem_append.1 hc with hc | hc
      · exact ih _ (by omega) c hc
      · obtain rfl := List.mem_singleton.1 hc
        exact (dig_of _ (by omega)).1
theorem itoa_chars (a : Int) : ∀ c ∈ itoa a, c = 45 ∨ isDig c := by
  intro c hc
  unfold itoa at hc
  split at hc
  · rcases List.mem_cons.1 hc with rfl | hc
    · exact .inl rfl
    · exact .inr (decDigits_dig _ c hc)
  · exact .inr (decDigits_dig _ c hc)
theorem itoa_sp (a : Int) : ∀ c ∈ itoa a, c ≠ 32 := by
  intro c hc
  rcases itoa_chars a c hc with rfl | h
  · decide
  · rintro rfl; exact absurd h (by decide)
theorem itoa_nl (a : Int) : ∀ c ∈ itoa a, c ≠ 10 := by
  intro c hc
  rcases itoa_chars a c hc with rfl | h
  · decide
  · rintro rfl; exact absurd h (by decide)
theorem itoa_ne (a : Int) : itoa a ≠ [] := by
  unfold itoa
  split
  · simp
  · exact decDigits_ne _
theorem dec_len : ∀ (k n : Nat), n < 10 ^ (k + 1) → (decDigits n).length ≤ k + 1
  | 0, n, h => by
    rw [decDigits, dif_pos (by omega)]
    simp
  | k + 1, n, h => by
    rw [decDigits]
    split
    · simp
    · have := dec_len k (n / 10) (by rw [Nat.pow_succ] at h; omega)
      rw [List.length_append, List.length_singleton]
      omega
theorem num_itoa (a : Int) (h0 : -32768 ≤ a) (h1 : a ≤ 32767) : numP (itoa a) = some a := by
  refine ok_numP _ _ rfl ?_
  unfold itoa
  split
  · rename_i h
    rw [dropMinus, if_pos rfl]
    exact dec_len 5 _ (by omega)
  · have hl := dec_len 5 a.toNat (by omega)
    cases hd : decDigits a.toNat with
    | nil => simp [dropMinus]
    | cons c d =>
      rw [hd] at hl
      rw [dropMinus]
      split
      · simp at hl ⊢; omega
      · exact hl
theorem nm_chars : ∀ n : Nat, n < 41 → (nmC n).all (fun c => c != 32 && c != 10) = true ∧ (nmC n).isEmpty = false := by decide +kernel
theorem kind_name : ∀ n : Nat, n < 41 → kindTo (nmC n) 41 = some n := by decide +kernel

/-- A bytecode's line without its end. -/
def bodyT (r : Rd) : List UInt8 := nmC r.code ++ tailT r (opk r.code)
theorem lineT_body (r : Rd) : lineT r = bodyT r ++ [10] := by simp [lineT, bodyT]
theorem body_fields (p : Nat) (r : Rd) (h : GoodOp (p, r)) : fieldsL (bodyT r) none = match opk r.code with
    | 0 => [nmC r.code]
    | 4 => [nmC r.code, itoa r.a, itoa r.b]
    | _ => [nmC r.code, itoa r.a] := by
  obtain ⟨n, hn⟩ := Int.eq_ofNat_of_zero_le h.1.1
  have hn : r.code = n := hn
  have hc : n < 41 := by have h2 : r.code ≤ 40 := h.1.2; omega
  have h32 : ∀ c ∈ nmC r.code, c ≠ 32 := by
    intro c hm
    have := (nm_chars n hc).1
    rw [← hn, List.all_eq_true] at this
    have := this c hm
    simp at this
    exact this.1
  have hne : nmC r.code ≠ [] := by
    intro e
    have := (nm_chars n hc).2
    rw [← hn, e] at this
    cases this
  have one : fieldsL (nmC r.code ++ 32 :: itoa r.a) none = [nmC r.code, itoa r.a] := by
    rw [fieldsL_word _ _ hne h32, fieldsL_sp]
    dsimp only
    have := fieldsL_word [] (itoa r.a) (itoa_ne _) (itoa_sp _)
    rw [List.append_nil] at this
    rw [this]
    rfl
  unfold bodyT
  rcases opk_le r.code with hk | hk | hk | hk | hk <;> rw [hk] <;> simp only [tailT]
  · rw [fieldsL_word _ _ hne h32]
    rfl
  · exact one
  · exact one
  · exact one
  · rw [fieldsL_word _ _ hne h32, List.cons_append, fieldsL_sp]
    dsimp only
    rw [fieldsL_word _ _ (itoa_ne _) (itoa_sp _), fieldsL_sp]
    dsimp only
    have := fieldsL_word [] (itoa r.b) (itoa_ne _) (itoa_sp _)
    rw [List.append_nil] at this
    rw [this]
    rfl
theorem body_nl (p : Nat) (r : Rd) (h : GoodOp (p, r)) : ∀ c ∈ bodyT r, c ≠ 10 := by
  obtain ⟨n, hn⟩ := Int.eq_ofNat_of_zero_le h.1.1
  have hn : r.code = n := hn
  have hc : n < 41 := by have h2 : r.code ≤ 40 := h.1.2; omega
  intro c hm
  unfold bodyT at hm
  rcases List.mem_append.1 hm with hm | hm
  · have := (nm_chars n hc).1
    rw [← hn, List.all_eq_true] at this
    have := this c hm
    simp at this
    exact this.2
  · have one : c ∈ 32 :: itoa r.a → c ≠ 10 := by
      intro hm
      rcases List.mem_cons.1 hm with rfl | hm
      · decide
      · exact itoa_nl _ c hm
    rcases opk_le r.code with hk | hk | hk | hk | hk <;> rw [hk] at hm <;> simp only [tailT] at hm
    · cases hm
    · exact one hm
    · exact one hm
    · exact one hm
    · rcases List.mem_append.1 hm with hm | hm
      · exact one hm
      · rcases List.mem_cons.1 hm with rfl | hm
        · decide
        · exact itoa_nl _ c hm
/-- A bytecode's line is read as what is written of it. -/
theorem body_line (p : Nat) (r : Rd) (h : GoodOp (p, r)) (he : (writeS r.code r.a r.b).2 = 0) (hz : opk r.code ≠ 4 → r.b = 0) (hza : opk r.code = 0 → r.a = 0) : lineO (strB (bodyT r)) = some (writeS r.code r.a r.b).1 := by
  obtain ⟨n, hn⟩ := Int.eq_ofNat_of_zero_le h.1.1
  have hn : r.code = n := hn
  have hc : n < 41 := by have h2 : r.code ≤ 40 := h.1.2; omega
  have hl : ∀ l : List UInt8, (strB l).data.toList = l := fun l => rfl
  have hf := body_fields p r h
  have hna := num_itoa r.a h.2.1.1 h.2.1.2
  have hnb := num_itoa r.b h.2.2.1.1 h.2.2.1.2
  unfold lineO
  rw [fieldsB_list, hl, hf]
  have hkn : kindTo (nmC r.code) 41 = some n := by rw [hn]; exact kind_name n hc
  rcases opk_le r.code with hk | hk | hk | hk | hk <;> rw [hk] <;> (try dsimp only) <;> rw [if_neg (by simp)] <;> simp only [List.map_cons, List.map_nil, hl, lineS, hkn, argsS, ← hn, hk]
  · rw [if_pos trivial]
    have := hz (by rw [hk]; decide)
    have h2 := hza hk
    rw [this, h2] at he ⊢
    rw [if_pos he]
  · have := hz (by rw [hk]; decide)
    rw [this] at he ⊢
    rw [if_pos (by decide), hna]
    dsimp only
    rw [if_pos he]
  · have := hz (by rw [hk]; decide)
    rw [this] at he ⊢
    rw [if_pos (by decide), hna]
    dsimp only
    rw [if_pos he]
  · have := hz (by rw [hk]; decide)
    rw [this] at he ⊢
    rw [if_pos (by decide), hna]
    dsimp only
    rw [if_pos he]
  · rw [if_pos trivial, hna, hnb]
    dsimp only
    rw [if_pos he]
theorem readAt_rest (l : List Int) (i : Nat) (h : (readAt l i).err = 0) : (opk (readAt l i).code ≠ 4 → (readAt l i).b = 0) ∧ (opk (readAt l i).code = 0 → (readAt l i).a = 0) := by
  unfold readAt at h ⊢
  split at h
  · simp at h
  · rename_i hx
    rw [if_neg hx]
    rcases opk_le (l.getD i 0) with hk | hk | hk | hk | hk <;> rw [hk] at h ⊢ <;> simp only [readK] at h ⊢
    · exact ⟨fun _ => trivial, fun _ => trivial⟩
    · split at h
      · rename_i hy
        rw [if_pos hy]
        exact ⟨fun _ => rfl, fun e => absurd (hk.symm.trans e) (by decide)⟩
      · simp at h
    · split at h
      · rename_i hy
        rw [if_pos hy]
        exact ⟨fun _ => rfl, fun e => absurd (hk.symm.trans e) (by decide)⟩
      · simp at h
    · split at h
      · rename_i hy
        rw [if_pos hy]
        exact ⟨fun _ => rfl, fun e => absurd (hk.symm.trans e) (by decide)⟩
      · simp at h
    · split at h
      · rename_i hy
        rw [if_pos hy]
        exact ⟨fun e => absurd hk e, fun e => absurd (hk.symm.trans e) (by decide)⟩
      · simp at h
theorem split_text (xs : List (Nat × Rd)) (h : ∀ x ∈ xs, GoodOp x) : splitB ((xs.map fun (x : Nat × Rd) => lineT x.2).flatten) = (xs.map fun (x : Nat × Rd) => bodyT x.2) ++ [[]] := by
  induction xs with
  | nil => rfl
  | cons x xs ih =>
    rw [List.map_cons, List.flatten_cons, lineT_body, List.append_assoc, List.singleton_append, splitB_line _ _ (body_nl x.1 x.2 (h x (by simp))), ih (fun y hy => h y (by simp [hy]))]
    rfl
theorem parse_lines (xs : List (Nat × Rd)) (h : ∀ x ∈ xs, lineO (strB (bodyT x.2)) = some (writeS x.2.code x.2.a x.2.b).1) : ∀ (n : Nat) (out : List Int),
    parseL (((xs.map fun (x : Nat × Rd) => bodyT x.2) ++ [[]]).map strB) n out = (out ++ (xs.map fun (x : Nat × Rd) => (writeS x.2.code x.2.a x.2.b).1).flatten, 0, 0) := by
  induction xs with
  | nil =>
    intro n out
    show parseL [strB []] n out = _
    have e : lineO (strB []) = some [] := by
      unfold lineO
      rw [fieldsB_list]
      rfl
    rw [parseL, e]
    simp [parseL]
  | cons x xs ih =>
    intro n out
    rw [List.map_cons, List.cons_append, List.map_cons, parseL, h x (by simp)]
    dsimp only
    rw [ih (fun y hy => h y (by simp [hy]))]
    simp
theorem ops_flat (l : List Int) (hby : ∀ x ∈ l, 0 ≤ x ∧ x ≤ 255) (hlen : l.length ≤ 1000000) (hE : (placesS l).2 = 0) : ((opsL l).map fun x => (writeS x.2.code x.2.a x.2.b).1).flatten = l := by
  obtain ⟨s0, sN, hat⟩ := ops_at l hlen hE
  have key : ∀ d k, k + d = (opsL l).length → (((opsL l).drop k).map fun x => (writeS x.2.code x.2.a x.2.b).1).flatten = l.drop (stI l k) := by
    intro d
    induction d with
    | zero =>
      intro k hk
      have hk : k = (opsL l).length := by omega
      subst hk
      rw [sN, List.drop_length, List.drop_length]
      rfl
    | succ d ih =>
      intro k hk
      have hlt : k < (opsL l).length := by omega
      have hx : (opsL l)[k]? = some (opsL l)[k] := List.getElem?_eq_getElem hlt
      obtain ⟨h1, h2, h3, h4, h5⟩ := hat k _ hx
      have e5 := h5
      rw [h4] at e5
      rw [List.drop_eq_getElem_cons hlt, List.map_cons, List.flatten_cons, ih (k + 1) (by omega), h1, h2]
      generalize (opsL l)[k] = x at h3 h4 h5 e5 ⊢
      rw [h4, write_read l hby x.1 h3 e5]
      dsimp only
      generalize (readAt l x.1).size.toNat = m
      rw [← List.drop_drop]
      exact List.take_append_drop _ _
  have := key (opsL l).length 0 (by omega)
  rw [s0] at this
  exact this
/-- The text of bytes is these bytes'. -/
theorem parse_text (l : List Int) (hby : ∀ x ∈ l, 0 ≤ x ∧ x ≤ 255) (hlen : l.length ≤ 1000000) (he : (textS l).2 = 0) : parseS (strB (textS l).1) = (l, 0, 0) := by
  have hE : (placesS l).2 = 0 := by
    unfold textS at he
    split at he
    · assumption
    · exact he
  unfold textS
  rw [if_pos hE]
  dsimp only
  have hg : ∀ x ∈ opsL l, GoodOp x := fun x hx => ops_good l hby hlen x hx
  have hr : ∀ x ∈ opsL l, lineO (strB (bodyT x.2)) = some (writeS x.2.code x.2.a x.2.b).1 := by
    intro x hx
    obtain ⟨-, h2, h3, h4⟩ := opsFrom_mem l _ _ x hx
    have e4 := h4
    rw [h3] at e4
    have hw := write_read l hby x.1 h2 e4
    have hz := readAt_rest l x.1 e4
    rw [← h3] at hw hz
    exact body_line x.1 x.2 (hg x hx) (by rw [hw]) hz.1 hz.2
  unfold parseS linesB
  show parseL ((splitB ((opsL l).map fun x => lineT x.2).flatten).map strB) 0 [] = _
  rw [split_text _ hg, parse_lines _ hr, ops_flat l hby hlen hE, List.nil_append]
theorem itoa_len6b (a : Int) (h0 : -32768 ≤ a) (h1 : a ≤ 32767) : (itoa a).length ≤ 6 := by
  unfold itoa
  split
  · have := dec_len 4 a.natAbs (by omega)
    rw [List.length_cons]
    omega
  · have := dec_len 4 a.toNat (by omega)
    omega
theorem nm_len8 : ∀ n : Nat, n < 41 → (nmC n).length ≤ 8 := by decide +kernel
theorem line_small (p : Nat) (r : Rd) (h : GoodOp (p, r)) : (lineT r).length ≤ 23 := by
  obtain ⟨n, hn⟩ := Int.eq_ofNat_of_zero_le h.1.1
  have hn : r.code = n := hn
  have hc : n < 41 := by have h2 : r.code ≤ 40 := h.1.2; omega
  have h8 := nm_len8 n hc
  rw [← hn] at h8
  have ha := itoa_len6b r.a h.2.1.1 h.2.1.2
  have hb : -32768 ≤ r.b := h.2.2.1.1
  have hb2 : r.b ≤ 32767 := h.2.2.1.2
  have hb := itoa_len6b r.b hb hb2
  unfold lineT
  rw [List.length_append, List.length_append, List.length_singleton]
  rcases opk_le r.code with hk | hk | hk | hk | hk <;> rw [hk] <;> simp only [tailT, List.length_append, List.length_cons, List.length_nil] <;> omega
theorem text_small (l : List Int) (hby : ∀ x ∈ l, 0 ≤ x ∧ x ≤ 255) (hlen : l.length ≤ 1000000) : (textS l).1.length ≤ 23 * l.length := by
  unfold textS
  split
  · have key : ∀ xs : List (Nat × Rd), (∀ x ∈ xs, GoodOp x) → ((xs.map fun (x : Nat × Rd) => lineT x.2).flatten).length ≤ 23 * xs.length := by
      intro xs
      induction xs with
      | nil => intro _; simp
      | cons x xs ih =>
        intro h
        have h1 := line_small x.1 x.2 (h x (by simp))
        have h2 := ih (fun y hy => h y (by simp [hy]))
        rw [List.map_cons, List.flatten_cons, List.length_append, List.length_cons]
        omega
    have h1 := key (opsL l) (fun x hx => ops_good l hby hlen x hx)
    have h2 := ops_lenU l
    show ((opsL l).map fun (x : Nat × Rd) => lineT x.2).flatten.length ≤ _
    omega
  · simp
end Go.Proofs.YtkphijabhoppnaaDoor
