/- Range over a function that writes variables of its own: the law, where its blocks are known. -/
import Derived.Test.YtkphijabhoppnaaGreatDoorAMa
namespace Go.Proofs.YtkphijabhoppnaaGreatDoor
open Go.RowKit Go.Shelf
set_option linter.unusedSimpArgs false
set_option linter.unusedVariables false
structure BearsX {β : Type} (B K : Nat) (J : β → World → Prop) : Prop where
  turn : OwnFrom B J
  own : ∀ s A b v, B ≤ b → b < B + K → J s A → J s (A.setCell ⟨b, 0, none⟩ v)
def KpX (B K : Nat) (W W' : World) : Prop := KeepsFrom B W W' ∧ ∀ b o, B ≤ b → b < B + K → W.heap[b]? = some o → W'.heap[b]? = some o
theorem KpX.trans {B K : Nat} {X Y Z : World} (h : KpX B K X Y) (k : KpX B K Y Z) : KpX B K X Z :=
  ⟨h.1.trans k.1, fun b o h1 h2 h3 => k.2 b o h1 h2 (h.2 b o h1 h2 h3)⟩
theorem KpX.put {B K : Nat} (W : World) (l : Nat) (o' : Obj) (hl : l < B) : KpX B K W (W.putObj l o') :=
  ⟨⟨by simp, fun k o hB hk _ => (World.putObj_heap_other (by omega)).trans hk⟩, fun b o h1 _ h3 => (World.putObj_heap_other (by omega)).trans h3⟩
def IterX {α : Type} (F : Fence) (n : Nat) (P : Program) (g : Nat) (lb : Array Value) (encs : α → Array Value) (S Sp : List α → Prop) (N K : Nat) (G : World → Prop) (w : World) : Prop :=
  ∀ (l : Nat) (J Jx : List α → World → Prop) (W : World), Below w.heap.size w W → BearsX W.heap.size K J → BearsX W.heap.size K Jx → (∀ s A, J s A → G A) →
    (∀ pre x W1, J pre W1 → pre.length < N → W.heap.size + K ≤ W1.heap.size → YieldAt F (n - 1) P l (encs x) W1 fun e W' =>
      (e = .returned (.bool true) ∧ J (pre ++ [x]) W' ∧ KpX W.heap.size K W1 W') ∨ (e = .returned (.bool false) ∧ Jx (pre ++ [x]) W' ∧ KeepsFrom W.heap.size W1 W')) →
    J [] W →
    CallsIn F n P g (#[.func (.yield l) #[] #[]] ++ lb) W fun e W' => (∃ v, e = .returned v) ∧ ((∃ xs, S xs ∧ J xs W') ∨ (∃ pre, Sp pre ∧ Jx pre W'))
theorem _root_.Go.KeepsFrom.up {B C : Nat} {X Y : World} (h : KeepsFrom B X Y) (hc : B ≤ C) : KeepsFrom C X Y := ⟨h.size, fun k o hk h0 ho => h.same k o (Nat.le_trans hc hk) h0 ho⟩
theorem RoundIn.anyX {F : Fence} (hd : F.depth = none) {m m' : Nat} {P : Program} {l : Nat} {f : FuncId} {tmps : Array Value} {assign body : Code} {w : World} {R : Ending → World → Prop} (q : Nat)
    (h : RoundIn F m P l f tmps assign body w R) : RoundIn (F.inRound q) m' P l f tmps assign body w R := ⟨h.1, fun c cs _ => h.2 c cs (fun d hh => by rw [hd] at hh; cases hh)⟩
theorem rec_turn {A B : World} {k : Nat} {o : Obj} {row : Option Nat} (hg : A.grownBy B row) (hr : ∀ r, row = some r → k ≠ r) (h : A.heap[k]? = some o) : B.heap[k]? = some o :=
  (hg.block k (Array.getElem?_eq_some_iff.1 h).1 (fun e => hr k e.symm rfl)).trans h
theorem rangeFunc_x {F : Fence} {n : Nat} {P : Program} {w : World} {α : Type} {g : Operand} {ps : Array Tmp} {assign body : Code} {Q : Exit → Act → World → Prop} {a : Act}
    (hro : F.round = none) (h1 : 1 ≤ n) {gf : Nat} {lb : Array Value} (hg : a.eval g = .func (.func gf) #[] lb) (hFg : F.fn gf) (eg : ∀ args w, (callFunc gf args).run P w = .ok (.enter gf args) w)
    {encs : α → Array Value} {S Sp : List α → Prop} {N M : Nat} {G : World → Prop} {w0 : World} (hseq : IterX F (n - 1) P gf lb encs S Sp N M G w0)
    (hb0 : Below w0.heap.size w0 w) (hps : ∀ x, (encs x).size = ps.size)
    (I : List α → World → Prop) (Ix : Code → List α → World → Prop) (hI : OwnFrom w.heap.size I) (hIx : ∀ c, OwnFrom w.heap.size (Ix c))
    (hIb : ∀ s A b v, w.heap.size + 2 ≤ b → b < w.heap.size + 2 + M → I s A → I s (A.setCell ⟨b, 0, none⟩ v)) (hIxb : ∀ c s A b v, w.heap.size + 2 ≤ b → b < w.heap.size + 2 + M → Ix c s A → Ix c s (A.setCell ⟨b, 0, none⟩ v)) (hIG : ∀ s A, I s A → G A) (h0 : I [] w)
    (Pa : α → Nat → World → Prop) (hPa : ∀ x b, OwnFrom w.heap.size (fun (_ : Unit) W => Pa x b W)) (upd : α → Nat → Array Value → Array Value)
    (hassign : ∀ (l : Nat) (pre : List α) (x : α) (W : World) (K : Act → World → Prop), I pre W → (∀ b W', KeepsFrom w.heap.size W W' → KpX (w.heap.size + 2) M W W' → I pre W' → Pa x b W' → K { tmps := upd x b a.tmps, defers := [] } W') →
      assign.wpIn (F.inRound l) (n - 1 - 1) P (Exit.then K (fun _ _ _ => False)) { tmps := (ps.zip (encs x)).foldl (fun t (p, v) => t.setIfInBounds p v) a.tmps, defers := [] } W)
    (hbody : ∀ (l : Nat) (pre : List α) (x : α) (b : Nat) (W : World), w.heap.size ≤ l → (∃ r, W.heap[l]? = some (.loop r)) → I pre W → Pa x b W → pre.length < N → w.heap.size + 2 + M ≤ W.heap.size →
      body.wpIn (F.inRound l) (n - 1 - 1) P (ownPostG w.heap.size (KpX (w.heap.size + 2) M) I Ix (pre ++ [x]) W) { tmps := upd x b a.tmps, defers := [] } W)
    (hdone : ∀ (D : Nat) (xs : List α) (W : World), w.heap.size ≤ D → S xs → I xs W → W.heap[D]? = some (.deferred (some [])) → Q .normal { a with defers := { target := .collected D, args := #[] } :: a.defers } W)
    (hstop : ∀ (D : Nat) (c : Code) (pre : List α) (W : World), w.heap.size ≤ D → Sp pre → Ix c pre W → W.heap[D]? = some (.deferred (some [])) → c.wpIn F n P Q { a with defers := { target := .collected D, args := #[] } :: a.defers } W) :
    (Code.rangeFunc g ps assign body).wpIn F n P Q a w := by
  refine wpIn_rangeFunc ?_
  intro fn hfn
  rw [hro]
  obtain ⟨rec, hrec⟩ : ∃ rec : LoopState → Option Code → Loop, rec = fun st pe => { state := st, pending := pe, fn, tmps := a.tmps, params := ps, assign, body, defers := w.heap.size } := ⟨_, rfl⟩
  obtain ⟨W1, hW1⟩ : ∃ W1, (w.alloc (.deferred (some []))).alloc (.loop (rec .ready none)) = W1 := ⟨_, rfl⟩
  have hL1 : W1.heap[w.heap.size + 1]? = some (.loop (rec .ready none)) := by
    rw [← hW1]
    have := World.alloc_heap_new (w.alloc (.deferred (some []))) (.loop (rec .ready none))
    rwa [World.size_alloc] at this
  have hK1 : W1.heap[w.heap.size]? = some (.deferred (some [])) := by
    rw [← hW1]
    exact (Below.heap_alloc _ _ _ (by simp)).trans (World.alloc_heap_new w _)
  have hz1 : W1.heap.size = w.heap.size + 2 := by rw [← hW1]; simp
  have hI1 : I [] W1 := by rw [← hW1]; exact hI.alloc _ (hI.alloc _ h0)
  have hb1 : Below w0.heap.size w0 W1 := by
    rw [← hW1]
    exact hb0.trans ((((Below.refl _ w).alloc (Nat.le_refl _) _).alloc (by simp) _).mono hb0.size)
  refine ⟨w.heap.size + 1, [{ target := .collected w.heap.size, args := #[] }], W1, { target := .fn (.func gf) lb, args := #[.func (.yield (w.heap.size + 1)) #[] #[]] }, W1, gf,
    #[.func (.yield (w.heap.size + 1)) #[] #[]] ++ lb, W1, ?_, ?_, ?_, ?_, fun _ => h1, ?_⟩
  · rw [← hW1, hrec]; exact run_enterLoop_outer _ _ _ _ _
  · simp only [resolve, hg]
    simp [go_sem]
  · intro f' hf'; simp [Target.leads] at hf'; subst hf'; exact hFg
  · simp [invoke, go_sem, eg]
  refine (hseq (w.heap.size + 1)
    (fun pre W => I pre W ∧ W.heap[w.heap.size + 1]? = some (.loop (rec .ready none)) ∧ W.heap[w.heap.size]? = some (.deferred (some [])))
    (fun pre W => ∃ c, Ix c pre W ∧ W.heap[w.heap.size + 1]? = some (.loop (rec .done (some c))) ∧ W.heap[w.heap.size]? = some (.deferred (some [])))
    W1 hb1
    ⟨fun s A B row hs hgr hr => ⟨hI s A B row hs.1 hgr (fun r e => ⟨by have := (hr r e).1; omega, (hr r e).2⟩), rec_turn hgr (fun r e => by have := (hr r e).1; omega) hs.2.1, rec_turn hgr (fun r e => by have := (hr r e).1; omega) hs.2.2⟩,
     fun s A b v h1 h2 hs => ⟨hIb s A b v (by omega) (by omega) hs.1, rec_set v (by omega) hs.2.1, rec_set v (by omega) hs.2.2⟩⟩
    ⟨fun s A B row ⟨c, hc, hl, hk⟩ hgr hr => ⟨c, hIx c s A B row hc hgr (fun r e => ⟨by have := (hr r e).1; omega, (hr r e).2⟩), rec_turn hgr (fun r e => by have := (hr r e).1; omega) hl, rec_turn hgr (fun r e => by have := (hr r e).1; omega) hk⟩,
     fun s A b v h1 h2 ⟨c, hc, hl, hk⟩ => ⟨c, hIxb c s A b v (by omega) (by omega) hc, rec_set v (by omega) hl, rec_set v (by omega) hk⟩⟩
    (fun s A hs => hIG s A hs.1) ?_ ⟨hI1, hL1, hK1⟩).mono ?_
  · rintro pre x W ⟨hi, hl, hk⟩ hlen hsz
    rw [hz1] at hsz ⊢
    have hy := run_yield (P := P) (args := encs x) hl (by rw [hrec]; exact hps x)
    rw [hrec] at hy
    refine ⟨fn, _, assign, body, hy, roundIn_of_wpIn hfn (hassign _ pre x W _ hi ?_)⟩
    clear hy
    intro b Wa hkf hkp hia hax
    have hl1 := hkf.same _ _ (by omega) hl rfl
    have hk1 := hkf.same _ _ (Nat.le_refl _) hk rfl
    have hlt : w.heap.size + 1 < Wa.heap.size := (Array.getElem?_eq_some_iff.1 hl1).1
    refine ⟨_, run_beginRound hl1 (by rw [hrec]), ?_⟩
    obtain ⟨Wb, hWb⟩ : ∃ Wb, Wa.putObj (w.heap.size + 1) (.loop { rec .ready none with state := .busy }) = Wb := ⟨_, rfl⟩
    have hl2 : Wb.heap[w.heap.size + 1]? = some (.loop { rec .ready none with state := .busy }) := by rw [← hWb]; exact World.putObj_heap_same hlt
    have hk2 : Wb.heap[w.heap.size]? = some (.deferred (some [])) := by rw [← hWb]; exact (World.putObj_heap_other (by omega)).trans hk1
    have hw2 : KpX (w.heap.size + 2) M Wa Wb := by rw [← hWb]; exact KpX.put Wa (w.heap.size + 1) _ (by omega)
    have hi2 : I pre Wb := by rw [← hWb]; exact hI.putObj _ hia (by omega) hl1 rfl
    have ha2 : Pa x b Wb := by rw [← hWb]; exact (hPa x b).putObj (s := ()) _ hax (by omega) hl1 rfl
    rw [hWb]
    refine wpIn_mono (hbody _ pre x b _ (by omega) ⟨_, hl2⟩ hi2 ha2 hlen (Nat.le_trans hsz (Nat.le_trans hkf.size (by rw [← hWb]; simp)))) ?_
    have fin : ∀ (jump : Option Code) (W3 : World), KeepsFrom w.heap.size Wb W3 →
        (Instr.endRound (w.heap.size + 1) jump).run P W3 = .ok (.bool jump.isNone) (W3.putObj (w.heap.size + 1) (.loop (rec (if jump.isNone then .ready else .done) jump))) ∧
        W3.heap[w.heap.size + 1]? = some (.loop { rec .ready none with state := .busy }) ∧
        (W3.putObj (w.heap.size + 1) (.loop (rec (if jump.isNone then .ready else .done) jump))).heap[w.heap.size + 1]? = some (.loop (rec (if jump.isNone then .ready else .done) jump)) ∧
        (W3.putObj (w.heap.size + 1) (.loop (rec (if jump.isNone then .ready else .done) jump))).heap[w.heap.size]? = some (.deferred (some [])) := fun jump W3 hk3 => by
      have hl3 := hk3.same _ _ (by omega) hl2 rfl
      have := run_endRound (P := P) jump hl3
      rw [hrec] at this ⊢
      exact ⟨this, by rw [hrec] at hl3; exact hl3, World.putObj_heap_same (Array.getElem?_eq_some_iff.1 hl3).1, (World.putObj_heap_other (by omega)).trans (hk3.same _ _ (Nat.le_refl _) hk2 rfl)⟩
    rintro e a3 W3 hp
    cases e with
    | normal =>
      obtain ⟨hk3, hkp3, hi3⟩ := hp
      obtain ⟨hr, hl3, hl4, hk4⟩ := fin none W3 hk3
      exact ⟨_, _, hr, .inl ⟨rfl, ⟨hI.putObj _ hi3 (by omega) hl3 rfl, hl4, hk4⟩, hkp.trans ((hw2.trans hkp3).trans (KpX.put W3 (w.heap.size + 1) _ (by omega)))⟩⟩
    | ret =>
      obtain ⟨hk3, hi3⟩ := hp
      obtain ⟨hr, hl3, hl4, hk4⟩ := fin (some .ret) W3 hk3
      exact ⟨_, _, hr, .inr ⟨rfl, ⟨.ret, (hIx _).putObj _ hi3 (by omega) hl3 rfl, hl4, hk4⟩, hkp.1.trans ((hw2.1.trans (hk3.up (by omega))).trans (KpX.put (K := M) W3 (w.heap.size + 1) _ (by omega)).1)⟩⟩
    | exit id =>
      obtain ⟨hk3, hi3⟩ := hp
      obtain ⟨hr, hl3, hl4, hk4⟩ := fin (some (.exit id)) W3 hk3
      exact ⟨_, _, hr, .inr ⟨rfl, ⟨.exit id, (hIx _).putObj _ hi3 (by omega) hl3 rfl, hl4, hk4⟩, hkp.1.trans ((hw2.1.trans (hk3.up (by omega))).trans (KpX.put (K := M) W3 (w.heap.size + 1) _ (by omega)).1)⟩⟩
    | goto t =>
      obtain ⟨hk3, hi3⟩ := hp
      obtain ⟨hr, hl3, hl4, hk4⟩ := fin (some (.goto t)) W3 hk3
      exact ⟨_, _, hr, .inr ⟨rfl, ⟨.goto t, (hIx _).putObj _ hi3 (by omega) hl3 rfl, hl4, hk4⟩, hkp.1.trans ((hw2.1.trans (hk3.up (by omega))).trans (KpX.put (K := M) W3 (w.heap.size + 1) _ (by omega)).1)⟩⟩
    | panic ch => exact hp.elim
    | outgrown => exact hp.elim
  · rintro e W2 ⟨⟨v, rfl⟩, (⟨xs, hS, hi, hl, hk⟩ | ⟨pre, hSp, c, hi, hl, hk⟩)⟩
    · exact ⟨none, _, by have := run_endLoop (P := P) hl (by rw [hrec]; simp); rw [hrec] at this; exact this, hdone _ xs _ (Nat.le_refl _) hS (hI.putObj _ hi (by omega) hl rfl) ((World.putObj_heap_other (by omega)).trans hk)⟩
    · exact ⟨some c, _, by have := run_endLoop (P := P) hl (by rw [hrec]; simp); rw [hrec] at this; exact this, hstop _ c pre _ (Nat.le_refl _) hSp ((hIx c).putObj _ hi (by omega) hl rfl) ((World.putObj_heap_other (by omega)).trans hk)⟩
end Go.Proofs.YtkphijabhoppnaaGreatDoor
