/- Range over a function that writes its own variable; the split at line ends (strings.SplitSeq). -/
import Derived.Test.YtkphijabhoppnaaGreatDoorALq
import Derived.Lib.Bytealg
import Derived.Laws.Externs
namespace Go.Proofs.YtkphijabhoppnaaGreatDoor
open Go.RowKit Go.Shelf
set_option linter.unusedSimpArgs false
set_option linter.unusedVariables false
structure Bears {β : Type} (Bs : Nat) (J : β → World → Prop) : Prop where
  new : ∀ s A B, J s A → A.grownBy B none → J s B
  own : ∀ s A v, J s A → J s (A.setCell ⟨Bs, 0, none⟩ v)
def IterW {α : Type} (F : Fence) (n : Nat) (P : Program) (g : Nat) (lb : Array Value) (encs : α → Array Value) (Kp : World → World → Prop) (S Sp : List α → Prop) (N Bs : Nat) (w : World) : Prop :=
  ∀ (l : Nat) (J Jx : List α → World → Prop) (W : World), Below w.heap.size w W → Bears Bs J → Bears Bs Jx →
    (∀ pre x W1, J pre W1 → pre.length < N → YieldAt F (n - 1) P l (encs x) W1 fun e W' =>
      (e = .returned (.bool true) ∧ J (pre ++ [x]) W' ∧ Kp W1 W') ∨ (e = .returned (.bool false) ∧ Jx (pre ++ [x]) W')) →
    J [] W →
    CallsIn F n P g (#[.func (.yield l) #[] #[]] ++ lb) W fun e W' => (∃ v, e = .returned v) ∧ ((∃ xs, S xs ∧ J xs W') ∨ (∃ pre, Sp pre ∧ Jx pre W'))
theorem rec_new {A B : World} {k : Nat} {o : Obj} (hg : A.grownBy B none) (h : A.heap[k]? = some o) : B.heap[k]? = some o :=
  (hg.block k (Array.getElem?_eq_some_iff.1 h).1 (by simp)).trans h
theorem rec_set {A : World} {k Bs : Nat} {o : Obj} (v : Value) (hne : k ≠ Bs) (h : A.heap[k]? = some o) : (A.setCell ⟨Bs, 0, none⟩ v).heap[k]? = some o :=
  (heap_setCell_other A ⟨Bs, 0, none⟩ k v hne).trans h
theorem rangeFunc_w {F : Fence} {n : Nat} {P : Program} {w : World} {α : Type} {g : Operand} {ps : Array Tmp} {assign body : Code} {Q : Exit → Act → World → Prop} {a : Act}
    (hro : F.round = none) (h1 : 1 ≤ n) {gf : Nat} {lb : Array Value} (hg : a.eval g = .func (.func gf) #[] lb) (hFg : F.fn gf) (eg : ∀ args w, (callFunc gf args).run P w = .ok (.enter gf args) w)
    {encs : α → Array Value} {Kp : World → World → Prop} {S Sp : List α → Prop} {N Bs : Nat} {w0 : World} (hseq : IterW F (n - 1) P gf lb encs Kp S Sp N Bs w0) (hBs : Bs < w.heap.size)
    (hKt : ∀ {A B C : World}, Kp A B → Kp B C → Kp A C) (hKb : ∀ (W : World) (l : Nat) (o o' : Obj), w.heap.size ≤ l → W.heap[l]? = some o → o.isCells = false → o.isWalk = false → Kp W (W.putObj l o')) (hb0 : Below w0.heap.size w0 w) (hps : ∀ x, (encs x).size = ps.size)
    (I : List α → World → Prop) (Ix : Code → List α → World → Prop) (hI : OwnFrom w.heap.size I) (hIx : ∀ c, OwnFrom w.heap.size (Ix c))
    (hIb : ∀ s A v, I s A → I s (A.setCell ⟨Bs, 0, none⟩ v)) (hIxb : ∀ c s A v, Ix c s A → Ix c s (A.setCell ⟨Bs, 0, none⟩ v)) (h0 : I [] w)
    (Pa : α → Nat → World → Prop) (hPa : ∀ x b, OwnFrom w.heap.size (fun (_ : Unit) W => Pa x b W)) (upd : α → Nat → Array Value → Array Value)
    (hassign : ∀ (l : Nat) (pre : List α) (x : α) (W : World) (K : Act → World → Prop), I pre W → (∀ b W', KeepsFrom w.heap.size W W' → Kp W W' → I pre W' → Pa x b W' → K { tmps := upd x b a.tmps, defers := [] } W') →
      assign.wpIn (F.inRound l) (n - 1 - 1) P (Exit.then K (fun _ _ _ => False)) { tmps := (ps.zip (encs x)).foldl (fun t (p, v) => t.setIfInBounds p v) a.tmps, defers := [] } W)
    (hbody : ∀ (l : Nat) (pre : List α) (x : α) (b : Nat) (W : World), w.heap.size ≤ l → (∃ r, W.heap[l]? = some (.loop r)) → I pre W → Pa x b W → pre.length < N →
      body.wpIn (F.inRound l) (n - 1 - 1) P (ownPostG w.heap.size Kp I Ix (pre ++ [x]) W) { tmps := upd x b a.tmps, defers := [] } W)
    (hdone : ∀ (D : Nat) (xs : List α) (W : World), w.heap.size ≤ D → S xs → I xs W → W.heap[D]? = some (.deferred (some [])) → Q .normal { a with defers := { target := .collected D, args := #[] } :: a.defers } W)
    (hstop : ∀ (D : Nat) (c : Code) (pre : List α) (W : World), w.heap.size ≤ D → Sp pre → Ix c pre W → W.heap[D]? = some (.deferred (some [])) → c.wpIn F n P Q { a with defers := { target := .collected D, args := #[] } :: a.defers } W) :
    (Code.rangeFunc g ps assign body).wpIn F n P Q a w := by
  refine wpIn_rangeFunc ?_
  intro fn hfn
  rw [hro]
  obtain ⟨rec, hrec⟩ : ∃ rec : LoopState → Option Code → Loop, rec = fun st pe => { state := st, pending := pe, fn, tmps := a.tmps, params := ps, assign, body, defers := w.heap.size } := ⟨_, rfl⟩
  obtain ⟨W1, hW1⟩ : ∃ W1, (w.alloc (.deferred (some []))).alloc (.loop (rec .ready none)) = W1 := ⟨_, rfl⟩
  have hL1 : W1.heap[w.heap.size + 1]? = some (.loop (rec .ready none)) := by
    rw [← hW1]
    have := World.alloc_heap_new (w.alloc (.deferred (some []))) (.loop (rec .ready none))
    rwa [World.size_alloc] at this
  have hK1 : W1.heap[w.heap.size]? = some (.deferred (some [])) := by
    rw [← hW1]
    exact (Below.heap_alloc _ _ _ (by simp)).trans (World.alloc_heap_new w _)
  have hI1 : I [] W1 := by rw [← hW1]; exact hI.alloc _ (hI.alloc _ h0)
  have hb1 : Below w0.heap.size w0 W1 := by
    rw [← hW1]
    exact hb0.trans ((((Below.refl _ w).alloc (Nat.le_refl _) _).alloc (by simp) _).mono hb0.size)
  refine ⟨w.heap.size + 1, [{ target := .collected w.heap.size, args := #[] }], W1, { target := .fn (.func gf) lb, args := #[.func (.yield (w.heap.size + 1)) #[] #[]] }, W1, gf,
    #[.func (.yield (w.heap.size + 1)) #[] #[]] ++ lb, W1, ?_, ?_, ?_, ?_, fun _ => h1, ?_⟩
  · rw [← hW1, hrec]; exact run_enterLoop_outer _ _ _ _ _
  · simp only [resolve, hg]
    simp [go_sem]
  · intro f' hf'; simp [Target.leads] at hf'; subst hf'; exact hFg
  · simp [invoke, go_sem, eg]
  refine (hseq (w.heap.size + 1)
    (fun pre W => I pre W ∧ W.heap[w.heap.size + 1]? = some (.loop (rec .ready none)) ∧ W.heap[w.heap.size]? = some (.deferred (some [])))
    (fun pre W => ∃ c, Ix c pre W ∧ W.heap[w.heap.size + 1]? = some (.loop (rec .done (some c))) ∧ W.heap[w.heap.size]? = some (.deferred (some [])))
    W1 hb1
    ⟨fun s A B hs hgr => ⟨hI s A B none hs.1 hgr (fun r e => by cases e), rec_new hgr hs.2.1, rec_new hgr hs.2.2⟩,
     fun s A v hs => ⟨hIb s A v hs.1, rec_set v (by omega) hs.2.1, rec_set v (by omega) hs.2.2⟩⟩
    ⟨fun s A B ⟨c, hc, hl, hk⟩ hgr => ⟨c, hIx c s A B none hc hgr (fun r e => by cases e), rec_new hgr hl, rec_new hgr hk⟩,
     fun s A v ⟨c, hc, hl, hk⟩ => ⟨c, hIxb c s A v hc, rec_set v (by omega) hl, rec_set v (by omega) hk⟩⟩
    ?_ ⟨hI1, hL1, hK1⟩).mono ?_
  · rintro pre x W ⟨hi, hl, hk⟩ hlen
    have hy := run_yield (P := P) (args := encs x) hl (by rw [hrec]; exact hps x)
    rw [hrec] at hy
    refine ⟨fn, _, assign, body, hy, roundIn_of_wpIn hfn (hassign _ pre x W _ hi ?_)⟩
    clear hy
    intro b Wa hkf hkp hia hax
    have hl1 := hkf.same _ _ (by omega) hl rfl
    have hk1 := hkf.same _ _ (Nat.le_refl _) hk rfl
    have hlt : w.heap.size + 1 < Wa.heap.size := (Array.getElem?_eq_some_iff.1 hl1).1
    refine ⟨_, run_beginRound hl1 (by rw [hrec]), ?_⟩
    obtain ⟨Wb, hWb⟩ : ∃ Wb, Wa.putObj (w.heap.size + 1) (.loop { rec .ready none with state := .busy }) = Wb := ⟨_, rfl⟩
    have hl2 : Wb.heap[w.heap.size + 1]? = some (.loop { rec .ready none with state := .busy }) := by rw [← hWb]; exact World.putObj_heap_same hlt
    have hk2 : Wb.heap[w.heap.size]? = some (.deferred (some [])) := by rw [← hWb]; exact (World.putObj_heap_other (by omega)).trans hk1
    have hw2 : Kp Wa Wb := by rw [← hWb]; exact hKb _ _ _ _ (by omega) hl1 rfl rfl
    have hi2 : I pre Wb := by rw [← hWb]; exact hI.putObj _ hia (by omega) hl1 rfl
    have ha2 : Pa x b Wb := by rw [← hWb]; exact (hPa x b).putObj (s := ()) _ hax (by omega) hl1 rfl
    rw [hWb]
    refine wpIn_mono (hbody _ pre x b _ (by omega) ⟨_, hl2⟩ hi2 ha2 hlen) ?_
    have fin : ∀ (jump : Option Code) (W3 : World), KeepsFrom w.heap.size Wb W3 →
        (Instr.endRound (w.heap.size + 1) jump).run P W3 = .ok (.bool jump.isNone) (W3.putObj (w.heap.size + 1) (.loop (rec (if jump.isNone then .ready else .done) jump))) ∧
        W3.heap[w.heap.size + 1]? = some (.loop { rec .ready none with state := .busy }) ∧
        (W3.putObj (w.heap.size + 1) (.loop (rec (if jump.isNone then .ready else .done) jump))).heap[w.heap.size + 1]? = some (.loop (rec (if jump.isNone then .ready else .done) jump)) ∧
        (W3.putObj (w.heap.size + 1) (.loop (rec (if jump.isNone then .ready else .done) jump))).heap[w.heap.size]? = some (.deferred (some [])) := fun jump W3 hk3 => by
      have hl3 := hk3.same _ _ (by omega) hl2 rfl
      have := run_endRound (P := P) jump hl3
      rw [hrec] at this ⊢
      exact ⟨this, by rw [hrec] at hl3; exact hl3, World.putObj_heap_same (Array.getElem?_eq_some_iff.1 hl3).1, (World.putObj_heap_other (by omega)).trans (hk3.same _ _ (Nat.le_refl _) hk2 rfl)⟩
    rintro e a3 W3 hp
    cases e with
    | normal =>
      obtain ⟨hk3, hkp3, hi3⟩ := hp
      obtain ⟨hr, hl3, hl4, hk4⟩ := fin none W3 hk3
      exact ⟨_, _, hr, .inl ⟨rfl, ⟨hI.putObj _ hi3 (by omega) hl3 rfl, hl4, hk4⟩, hKt hkp (hKt (hKt hw2 hkp3) (hKb _ _ _ _ (by omega) hl3 rfl rfl))⟩⟩
    | ret =>
      obtain ⟨hk3, hi3⟩ := hp
      obtain ⟨hr, hl3, hl4, hk4⟩ := fin (some .ret) W3 hk3
      exact ⟨_, _, hr, .inr ⟨rfl, .ret, (hIx _).putObj _ hi3 (by omega) hl3 rfl, hl4, hk4⟩⟩
    | exit id =>
      obtain ⟨hk3, hi3⟩ := hp
      obtain ⟨hr, hl3, hl4, hk4⟩ := fin (some (.exit id)) W3 hk3
      exact ⟨_, _, hr, .inr ⟨rfl, .exit id, (hIx _).putObj _ hi3 (by omega) hl3 rfl, hl4, hk4⟩⟩
    | goto t =>
      obtain ⟨hk3, hi3⟩ := hp
      obtain ⟨hr, hl3, hl4, hk4⟩ := fin (some (.goto t)) W3 hk3
      exact ⟨_, _, hr, .inr ⟨rfl, .goto t, (hIx _).putObj _ hi3 (by omega) hl3 rfl, hl4, hk4⟩⟩
    | panic ch => exact hp.elim
    | outgrown => exact hp.elim
  · rintro e W2 ⟨⟨v, rfl⟩, (⟨xs, hS, hi, hl, hk⟩ | ⟨pre, hSp, c, hi, hl, hk⟩)⟩
    · exact ⟨none, _, by have := run_endLoop (P := P) hl (by rw [hrec]; simp); rw [hrec] at this; exact this, hdone _ xs _ (Nat.le_refl _) hS (hI.putObj _ hi (by omega) hl rfl) ((World.putObj_heap_other (by omega)).trans hk)⟩
    · exact ⟨some c, _, by have := run_endLoop (P := P) hl (by rw [hrec]; simp); rw [hrec] at this; exact this, hstop _ c pre _ (Nat.le_refl _) hSp ((hIx c).putObj _ hi (by omega) hl rfl) ((World.putObj_heap_other (by omega)).trans hk)⟩
end Go.Proofs.YtkphijabhoppnaaGreatDoor
namespace Go.Proofs.YtkphijabhoppnaaGreatDoor
open Go.RowKit Go.Shelf
set_option linter.unusedSimpArgs false
set_option linter.unusedVariables false
attribute [local go_sem] Oper.semAt_some
set_option maxRecDepth 100000 in
theorem indexByte_calls (s : ByteArray) (w : World) : Calls Tryz.prog 88 #[.string s, .int .u8 10] w fun e w' => e = .returned (.int .i64 (Lib.indexByte s.data.toList 10)) ∧ w' = w := by
  go_enter Tryz.func88, Tryz.ntmps88
  go_wp2_with fail
  rw [run_callFunc_extern Tryz.func112 (by kernel_rfl) (by kernel_rfl) (by kernel_rfl) (e := Extern.BytealgIndexByte.indexByte) (by kernel_rfl)]
  rw [Lib.run_indexByteString]
  simp only [Result.andThen]
  rw [Oper.upon_value]
  go_wp2
  go_ret
  exact ⟨rfl, rfl⟩
set_option maxRecDepth 100000 in
theorem sliteIndex_calls (s : ByteArray) (w : World) : Calls Tryz.prog 65 #[.string s, .string ⟨#[10]⟩] w fun e w' => e = .returned (.int .i64 (Lib.indexByte s.data.toList 10)) ∧ w' = w := by
  have HI := Lib.hid (indexByte_calls s)
  by_cases h : s.data.toList = [10]
  · have hs : s = ⟨#[10]⟩ := ByteArray.ext (Array.toList_inj.1 h)
    subst hs
    go_enter Tryz.func65, Tryz.ntmps65
    go_wp2_with fail
    go_ret
    exact ⟨rfl, rfl⟩
  · have h2 : ([10] == s.toList) = false := by
      rw [beq_eq_false_iff_ne, be_list]
      exact fun e => h e.symm
    have h3 : ¬ [10] = s.toList := by rw [be_list]; exact fun e => h e.symm
    have h4 : ¬ s.toList = [10] := by rw [be_list]; exact h
    clear h
    go_enter Tryz.func65, Tryz.ntmps65
    go_wp2_with (first | (go_at_call 88; refine (HI.out _).mono ?_; rintro e w' ⟨rfl, rfl⟩) | fail)
    go_ret
    exact ⟨rfl, rfl⟩
theorem index_calls (s : ByteArray) (w : World) : Calls Tryz.prog 64 #[.string s, .string ⟨#[10]⟩] w fun e w' => e = .returned (.int .i64 (Lib.indexByte s.data.toList 10)) ∧ w' = w := by
  have HI := Lib.hid (sliteIndex_calls s)
  go_enter Tryz.func64, Tryz.ntmps64
  go_wp2_with (first | (go_at_call 65; refine (HI.out _).mono ?_; rintro e w' ⟨rfl, rfl⟩) | fail)
  go_ret
  exact ⟨rfl, rfl⟩
theorem splitSeq_calls (s : ByteArray) (w : World) : Calls Tryz.prog 35 #[.string s, .string ⟨#[10]⟩, .int .i64 0] w fun e w' =>
    e = .returned (.func (.func 62) #[] #[.pointer (some ⟨w.heap.size + 1, 0, none⟩), .pointer (some ⟨w.heap.size, 0, none⟩), .pointer (some ⟨w.heap.size + 1 + 1, 0, none⟩)]) ∧
    ((w.alloc (.cells #[.string s] 9)).alloc (.cells #[.string ⟨#[10]⟩] 9)).alloc (.cells #[.int .i64 0] 3) = w' := by
  go_enter Tryz.func35, Tryz.ntmps35
  go_wp2_with fail
  go_ret
  exact ⟨rfl, rfl⟩
theorem SplitSeq_calls (s : ByteArray) (w : World) : Calls Tryz.prog 16 #[.string s, .string ⟨#[10]⟩] w fun e w' =>
    e = .returned (.func (.func 62) #[] #[.pointer (some ⟨w.heap.size + 1, 0, none⟩), .pointer (some ⟨w.heap.size, 0, none⟩), .pointer (some ⟨w.heap.size + 1 + 1, 0, none⟩)]) ∧
    ((w.alloc (.cells #[.string s] 9)).alloc (.cells #[.string ⟨#[10]⟩] 9)).alloc (.cells #[.int .i64 0] 3) = w' := by
  go_enter Tryz.func16, Tryz.ntmps16
  go_wp2_with (first | (go_at_call 35; refine (splitSeq_calls _ _).mono ?_; rintro e w' ⟨rfl, rfl⟩) | fail)
  go_ret
  exact ⟨rfl, rfl⟩
def splN : List UInt8 → List (List UInt8)
  | [] => [[]]
  | c :: r => if c = 10 then [] :: splN r else match splN r with
    | [] => [[c]]
    | h :: t => (c :: h) :: t
theorem splN_ne (l : List UInt8) : splN l ≠ [] := by
  cases l with
  | nil => simp [splN]
  | cons c r =>
    rw [splN]
    split
    · simp
    · split <;> simp
theorem index_cases (l : List UInt8) : (Lib.indexByte l 10 = -1 ∧ splN l = [l]) ∨ (∃ i : Nat, Lib.indexByte l 10 = i ∧ i < l.length ∧ splN l = l.take i :: splN (l.drop (i + 1))) := by
  induction l with
  | nil => exact .inl ⟨rfl, rfl⟩
  | cons c r ih =>
    by_cases hc : c = 10
    · subst hc
      exact .inr ⟨0, by simp [Lib.indexByte], by simp, by rw [splN, if_pos rfl]; rfl⟩
    · have hb : (c == 10) = false := by simpa using hc
      rcases ih with ⟨h1, h2⟩ | ⟨i, h1, h2, h3⟩
      · refine .inl ⟨?_, ?_⟩
        · simp [Lib.indexByte, hb, h1]
        · rw [splN, if_neg hc, h2]
      · refine .inr ⟨i + 1, ?_, by simp; omega, ?_⟩
        · rw [Lib.indexByte, hb, h1]
          have : ((i : Int) == -1) = false := by rw [beq_eq_false_iff_ne]; omega
          simp [this]
        · rw [splN, if_neg hc, h3]
          simp
def strB (l : List UInt8) : ByteArray := ⟨l.toArray⟩
def linesB (s : ByteArray) : List ByteArray := (splN s.data.toList).map strB
theorem splN_len (l : List UInt8) : (splN l).length ≤ l.length + 1 := by
  induction l with
  | nil => simp [splN]
  | cons c r ih =>
    rw [splN]
    split
    · simp; omega
    · have := splN_ne r
      split
      · simp
      · rename_i h t e
        rw [e] at ih
        simp at ih ⊢
        omega
theorem linesB_len (s : ByteArray) : (linesB s).length ≤ s.size + 1 := by
  have := splN_len s.data.toList
  rw [Array.length_toList] at this
  rw [linesB, List.length_map]
  exact this
theorem linesB_ne (s : ByteArray) : linesB s ≠ [] := by
  unfold linesB
  intro h
  exact splN_ne _ (List.map_eq_nil_iff.1 h)
theorem lines_cases (s : ByteArray) : (Lib.indexByte s.data.toList 10 = -1 ∧ linesB s = [s]) ∨ (∃ i : Nat, Lib.indexByte s.data.toList 10 = i ∧ i < s.size ∧ linesB s = s.extract 0 i :: linesB (s.extract (i + 1) s.size)) := by
  rcases index_cases s.data.toList with ⟨h1, h2⟩ | ⟨i, h1, h2, h3⟩
  · exact .inl ⟨h1, by rw [linesB, h2]; rfl⟩
  · have hi : i < s.size := by
      show i < s.data.size
      rw [← Array.length_toList]
      exact h2
    refine .inr ⟨i, h1, hi, ?_⟩
    have e1 : strB (s.data.toList.take i) = s.extract 0 i := by
      apply ByteArray.ext
      rw [ByteArray.data_extract]
      apply Array.toList_inj.1
      simp [strB]
    have e2 : (s.extract (i + 1) s.size).data.toList = s.data.toList.drop (i + 1) := by
      rw [ByteArray.data_extract, Array.toList_extract, List.extract_eq_take_drop]
      refine List.take_of_length_le ?_
      rw [List.length_drop, Array.length_toList]
      exact Nat.le_refl _
    rw [linesB, h3, List.map_cons, e1, linesB, e2]
def KpS (Bs Bp Bv : Nat) (W W' : World) : Prop :=
  (∀ v, Boxed W Bs 9 v → Boxed W' Bs 9 v) ∧ (∀ v, Boxed W Bp 9 v → Boxed W' Bp 9 v) ∧ (∀ v, Boxed W Bv 3 v → Boxed W' Bv 3 v) ∧ W.heap.size ≤ W'.heap.size
theorem KpS.trans {Bs Bp Bv : Nat} {A B C : World} (h : KpS Bs Bp Bv A B) (k : KpS Bs Bp Bv B C) : KpS Bs Bp Bv A C :=
  ⟨fun v x => k.1 v (h.1 v x), fun v x => k.2.1 v (h.2.1 v x), fun v x => k.2.2.1 v (h.2.2.1 v x), Nat.le_trans h.2.2.2 k.2.2.2⟩
def restLen (Bs : Nat) (W : World) : Nat := match W.cell? ⟨Bs, 0, none⟩ with
  | some (.string r) => r.size
  | _ => 0
theorem restLen_of {Bs : Nat} {W : World} {r : ByteArray} (h : Boxed W Bs 9 (.string r)) : restLen Bs W = r.size := by
  unfold restLen
  rw [h.cell]
set_option maxHeartbeats 2000000 in
set_option maxRecDepth 100000 in
theorem split_in (Bs Bp Bv : Nat) (hps : Bp ≠ Bs) (hvs : Bv ≠ Bs) (s : ByteArray) (hlen : s.size ≤ 1000000) (n : Nat) (hn : 1 ≤ n) (q : Nat) (J Jx : List ByteArray → World → Prop) (W : World)
    (hJ : Bears Bs J) (hJx : Bears Bs Jx)
    (hY : ∀ pre x W1, x.size ≤ s.size → J pre W1 → pre.length < (linesB s).length → YieldAt Fence.wide (n - 1) Tryz.prog q #[.string x] W1 fun e W' =>
      (e = .returned (.bool true) ∧ J (pre ++ [x]) W' ∧ KpS Bs Bp Bv W1 W') ∨ (e = .returned (.bool false) ∧ Jx (pre ++ [x]) W'))
    (b1 : Boxed W Bs 9 (.string s)) (b2 : Boxed W Bp 9 (.string ⟨#[10]⟩)) (b3 : Boxed W Bv 3 (.int .i64 0)) (h0 : J [] W) :
    CallsIn Fence.wide n Tryz.prog 62 #[.func (.yield q) #[] #[], .pointer (some ⟨Bp, 0, none⟩), .pointer (some ⟨Bs, 0, none⟩), .pointer (some ⟨Bv, 0, none⟩)] W fun e W' => (∃ u, e = .returned u) ∧
      ((∃ ys, ys = linesB s ∧ J ys W') ∨ (∃ pre, pre <+: linesB s ∧ Jx pre W')) := by
  refine callsIn_of_wp Tryz.func62 rfl trivial ?_ rfl
  simp only [Tryz.ntmps62, List.size_toArray, List.length_cons, List.length_nil, Nat.reduceAdd, Nat.reduceSub, Array.replicate_succ, Array.replicate_zero, List.push_toArray, List.append_toArray, List.nil_append, List.cons_append]
  have HL := Lib.hid hlen
  have c2 := b2.cell
  have HB1 := Lib.hid b1
  have HB2 := Lib.hid b2
  have HB3 := Lib.hid b3
  clear b1 b2 b3 hlen
  gi_wp2_with fail
  gi_loopw [7, 8] (fun a b wr => ∃ (r : ByteArray) (pre : List ByteArray), r.size ≤ s.size ∧ Boxed wr Bs 9 (.string r) ∧ Boxed wr Bp 9 (.string ⟨#[10]⟩) ∧ Boxed wr Bv 3 (.int .i64 0) ∧ pre ++ linesB r = linesB s ∧ J pre wr)
    (fun a b wr => restLen Bs wr)
  case atStart => exact ⟨s, [], Nat.le_refl _, HB1.out, HB2.out, HB3.out, rfl, h0⟩
  case round =>
    obtain ⟨r, pre, hr, k1, k2, k3, hpre, hJs⟩ := hrel
    have c1 := k1.cell
    have d2 := k2.cell
    have c3 := k3.cell
    have f1 := k1.frozen
    have hrl := restLen_of k1
    have hne := linesB_ne r
    have hlt : pre.length < (linesB s).length := by
      rw [← hpre, List.length_append]
      have := List.length_pos_iff.2 hne
      omega
    have HRL := Lib.hid hrl
    have HPR := Lib.hid hpre
    have K1 := Lib.hid k1
    have K2 := Lib.hid k2
    have K3 := Lib.hid k3
    clear hrl hpre k1 k2 k3 hne
    rcases lines_cases r with ⟨e1, e2⟩ | ⟨i, e1, e2, e3⟩
    · have HI : Hid (∀ W, Calls Tryz.prog 64 #[.string r, .string ⟨#[10]⟩] W fun e w' => e = .returned (.int .i64 (-1)) ∧ w' = W) := Lib.hid (fun W => e1 ▸ index_calls r W)
      obtain ⟨fn, tmps, assign, body, hy, hR⟩ := hY pre r wr hr hJs hlt
      have HE := Lib.hid e2
      clear e1 e2 hY
      gi_wp2_with (first | (refine ⟨trivial, ?_⟩; gi_at_call 64; refine (callsIn_wide.2 (HI.out _)).mono ?_; rintro e w' ⟨rfl, rfl⟩) | fail)
      refine hR.mono ?_
      rintro e W3 (⟨rfl, hj, -⟩ | ⟨rfl, hj⟩)
      · gi_wp2_with fail
        go_end0
        exact ⟨⟨_, rfl⟩, .inl ⟨_, by rw [← HPR.out, HE.out], hj⟩⟩
      · gi_wp2_with fail
        go_end0
        exact ⟨⟨_, rfl⟩, .inr ⟨_, by rw [← HPR.out, HE.out]; exact List.prefix_refl _, hj⟩⟩
    · have HI : Hid (∀ W, Calls Tryz.prog 64 #[.string r, .string ⟨#[10]⟩] W fun e w' => e = .returned (.int .i64 i) ∧ w' = W) := Lib.hid (fun W => e1 ▸ index_calls r W)
      have hx0 : (r.extract 0 i).size ≤ s.size := by
        have : (r.extract 0 i).size = min i r.size - 0 := by simp
        omega
      obtain ⟨fn, tmps, assign, body, hy, hR⟩ := hY pre (r.extract 0 i) wr hx0 hJs hlt
      have HE := Lib.hid e3
      have hi6 : (i : Int) ≤ 1000000 := by have := HL.out; omega
      have hir : i + 1 ≤ r.size := e2
      clear e1 e3 hY hx0
      gi_wp2_with (first | (refine ⟨trivial, ?_⟩; gi_at_call 64; refine (callsIn_wide.2 (HI.out _)).mono ?_; rintro e w' ⟨rfl, rfl⟩) | fail)
      refine hR.mono ?_
      rintro e W3 (⟨rfl, hj, hk⟩ | ⟨rfl, hj⟩)
      · have m1 := hk.1 _ K1.out
        have m2 := hk.2.1 _ K2.out
        have m3 := hk.2.2.1 _ K3.out
        have c1' := m1.cell
        have c2' := m2.cell
        have f1' := m1.frozen
        have M1 := Lib.hid m1
        have M2 := Lib.hid m2
        have M3 := Lib.hid m3
        clear m1 m2 m3 hk
        gi_wp2_with fail
        refine ⟨?_, ?_⟩
        · refine ⟨r.extract (i + 1) r.size, pre ++ [r.extract 0 i], ?_, M1.out.set _, M2.out.other hps _, M3.out.other hvs _, ?_, hJ.own _ _ _ hj⟩
          · have : (r.extract (i + 1) r.size).size = r.size - (i + 1) := by simp
            omega
          · rw [List.append_assoc, ← HPR.out, HE.out]
            rfl
        · rw [restLen_of (M1.out.set _), HRL.out]
          have : (r.extract (i + 1) r.size).size = r.size - (i + 1) := by simp
          omega
      · gi_wp2_with fail
        refine ⟨rfl, _, results_none rfl _ _ _, ?_⟩
        exact ⟨⟨_, rfl⟩, .inr ⟨_, by rw [← HPR.out, HE.out]; exact ⟨linesB (r.extract (i + 1) r.size), by simp⟩, hj⟩⟩
end Go.Proofs.YtkphijabhoppnaaGreatDoor
namespace Go.Proofs.YtkphijabhoppnaaGreatDoor
open Go.RowKit Go.Shelf
set_option linter.unusedSimpArgs false
set_option linter.unusedVariables false
def LineOf (s : ByteArray) : Type := {x : ByteArray // x.size ≤ s.size}
def lvals {s : ByteArray} (l : List (LineOf s)) : List ByteArray := l.map (·.1)
theorem lvals_snoc {s : ByteArray} (l : List (LineOf s)) (x : LineOf s) : lvals (l ++ [x]) = lvals l ++ [x.1] := by simp [lvals]
theorem lvals_len {s : ByteArray} (l : List (LineOf s)) : (lvals l).length = l.length := by simp [lvals]
theorem split_iter (s : ByteArray) (hlen : s.size ≤ 1000000) (n : Nat) (hn : 1 ≤ n) (Bs Bp Bv : Nat) (hps : Bp ≠ Bs) (hvs : Bv ≠ Bs) (w : World)
    (b1 : Boxed w Bs 9 (.string s)) (b2 : Boxed w Bp 9 (.string ⟨#[10]⟩)) (b3 : Boxed w Bv 3 (.int .i64 0)) :
    IterW Fence.wide n Tryz.prog 62 #[.pointer (some ⟨Bp, 0, none⟩), .pointer (some ⟨Bs, 0, none⟩), .pointer (some ⟨Bv, 0, none⟩)] (fun x : LineOf s => #[.string x.1])
      (KpS Bs Bp Bv) (fun ys => lvals ys = linesB s) (fun pre => lvals pre <+: linesB s) (linesB s).length Bs w := by
  intro l J Jx W hb hJ hJx hY h0
  refine (split_in Bs Bp Bv hps hvs s hlen n hn l (fun zs V => ∃ ys : List (LineOf s), lvals ys = zs ∧ J ys V) (fun zs V => ∃ ys : List (LineOf s), lvals ys = zs ∧ Jx ys V) W ?_ ?_ ?_ (box_bel b1 hb) (box_bel b2 hb) (box_bel b3 hb) ⟨[], rfl, h0⟩).mono ?_
  · exact ⟨fun z A B ⟨ys, e, h⟩ hg => ⟨ys, e, hJ.new _ _ _ h hg⟩, fun z A v ⟨ys, e, h⟩ => ⟨ys, e, hJ.own _ _ _ h⟩⟩
  · exact ⟨fun z A B ⟨ys, e, h⟩ hg => ⟨ys, e, hJx.new _ _ _ h hg⟩, fun z A v ⟨ys, e, h⟩ => ⟨ys, e, hJx.own _ _ _ h⟩⟩
  · rintro zs x W1 hx ⟨ys, rfl, h⟩ hlt
    rw [lvals_len] at hlt
    obtain ⟨fn, tmps, assign, body, hy, hR⟩ := hY ys ⟨x, hx⟩ W1 h hlt
    refine ⟨fn, tmps, assign, body, hy, hR.mono ?_⟩
    rintro e W' (⟨rfl, h1, h2⟩ | ⟨rfl, h1⟩)
    · exact .inl ⟨rfl, ⟨_, lvals_snoc ys ⟨x, hx⟩, h1⟩, h2⟩
    · exact .inr ⟨rfl, ⟨_, lvals_snoc ys ⟨x, hx⟩, h1⟩⟩
  · rintro e W' ⟨hu, h⟩
    refine ⟨hu, ?_⟩
    rcases h with ⟨zs, hz, ys, e1, h1⟩ | ⟨zs, hz, ys, e1, h1⟩
    · exact .inl ⟨ys, e1.trans hz, h1⟩
    · exact .inr ⟨ys, by show lvals ys <+: linesB s; rw [e1]; exact hz, h1⟩
end Go.Proofs.YtkphijabhoppnaaGreatDoor
