/- The sequence of bytecodes (brazier/code.All), as an iterator; where they begin (code.Places); ranges over a function. -/
import Derived.Test.YtkphijabhoppnaaDoorABc
import Derived.RangeFuncNested
import Derived.RangeFuncBound
import Derived.RangeFuncCalls
import Derived.RangeFuncLeaves
import Derived.RangeFuncBox
import Derived.Shelf.Abstract
import Derived.Shelf.RegionOpen
import Derived.OwnWalkIn
import Derived.TacticsInMore
import Derived.LoopNIn
import Derived.LoopIn
import Derived.Maps.AppendAt
namespace Go.Proofs.YtkphijabhoppnaaDoor
open Go.RowKit Go.Shelf
open Go.Proofs.YtkphijabhoppnaaDoorW.PrintWords (grown_of_below)
set_option linter.unusedSimpArgs false
set_option linter.unusedVariables false
attribute [local go_sem] Oper.semAt_some
def opsFrom (l : List Int) : Nat → Nat → List (Nat × Rd)
  | 0, _ => []
  | f + 1, i => if i < l.length then (if (readAt l i).err = 0 then (i, readAt l i) :: opsFrom l f (i + (readAt l i).size.toNat) else []) else []
def opsL (l : List Int) : List (Nat × Rd) := opsFrom l l.length 0
def opV (r : Rd) : Value := .agg #[.int .i64 r.code, .int .i64 r.a, .int .i64 r.b, .int .i64 r.size]
def encO (x : Nat × Rd) : Array Value := #[.int .i64 x.1, opV x.2]
def KpB (Bs : Nat) (v : Value) (l : List Int) (W W' : World) : Prop :=
  (Byt W v l → Byt W' v l) ∧ (W.cell? ⟨Bs, 0, none⟩ = some v → W'.cell? ⟨Bs, 0, none⟩ = some v) ∧ (Glob W → Glob W') ∧ (∀ (g : Nat) (cs : Array Value), W.heap[g]? = some (Obj.cells cs 25 (0, 0)) → W'.heap[g]? = some (Obj.cells cs 25 (0, 0))) ∧ W.heap.size ≤ W'.heap.size
theorem KpB.trans {Bs : Nat} {v : Value} {l : List Int} {A B C : World} (h : KpB Bs v l A B) (k : KpB Bs v l B C) : KpB Bs v l A C :=
  ⟨fun x => k.1 (h.1 x), fun x => k.2.1 (h.2.1 x), fun x => k.2.2.1 (h.2.2.1 x), fun g cs x => k.2.2.2.1 g cs (h.2.2.2.1 g cs x), Nat.le_trans h.2.2.2.2 k.2.2.2.2⟩
theorem KpB.below {Bs : Nat} {v : Value} {l : List Int} {A B : World} (h : Below A.heap.size A B) : KpB Bs v l A B :=
  ⟨fun x => x.below h, fun x => cell_be h x, fun x => x.below h, fun g cs x => row_kept h x, h.size⟩
theorem KpB.put {Bs : Nat} {v : Value} {l : List Int} {w : World} (W : World) (q : Nat) (o o' : Obj) (_ : w.heap.size ≤ q) (h : W.heap[q]? = some o) (hc : o.isCells = false) (_ : o.isWalk = false) : KpB Bs v l W (W.putObj q o') := by
  have hne : ∀ {a : Addr} {u : Value}, W.cell? a = some u → (W.putObj q o').cell? a = some u := by
    intro a u ha
    by_cases e : a.block = q
    · exfalso
      simp only [World.cell?, e, h] at ha
      cases o <;> simp_all [Obj.isCells]
    · exact (World.cell?_of_block (World.putObj_heap_other e)).trans ha
  have htab : ∀ {nm : String} {k : IntKind} {zs : List Int}, Lib.TabIs Tryd.prog W nm k zs → Lib.TabIs Tryd.prog (W.putObj q o') nm k zs := by
    intro nm k zs ht
    unfold Lib.TabIs World.var? at ht ⊢
    cases hg : Tryd.prog.globalNamed nm with
    | none => simp [hg] at ht
    | some g =>
      simp only [hg, Option.bind_some] at ht ⊢
      by_cases e : g = q
      · exfalso
        subst e
        rw [h] at ht
        cases o <;> simp_all [Obj.isCells]
      · rw [World.putObj_heap_other e]
        exact ht
  refine ⟨?h1, fun x => hne x, fun x => ⟨htab x.sp⟩, fun g cs x => ?h2, by simp⟩
  case h2 =>
    have e : g ≠ q := by
      rintro rfl
      rw [h] at x
      cases x
      simp [Obj.isCells] at hc
    rw [World.putObj_heap_other e]
    exact x
  case h1 =>
    rintro ⟨A, c, e, h1, h2, h3, h4⟩
    refine ⟨A, c, e, h1, h2, h3, fun hn => ?_⟩
    obtain ⟨b, off, e2, hcl⟩ := h4 hn
    exact ⟨b, off, e2, fun j hj => hne (hcl j hj)⟩
theorem readAt_size (l : List Int) (i : Nat) (h : (readAt l i).err = 0) : 1 ≤ (readAt l i).size ∧ (readAt l i).size ≤ 3 := by
  unfold readAt at h ⊢
  split at h
  · simp at h
  · rename_i hx
    rw [if_neg hx]
    rcases opk_le (l.getD i 0) with hk | hk | hk | hk | hk <;> rw [hk] at h ⊢ <;> simp only [readK] at h ⊢
    · simp
    all_goals (split at h <;> rename_i hy <;> simp [hy] at h ⊢)
theorem readAt_end (l : List Int) (i : Nat) (hi : i < l.length) (h : (readAt l i).err = 0) : i + (readAt l i).size.toNat ≤ l.length := by
  unfold readAt at h ⊢
  split at h
  · simp at h
  · rename_i hx
    rw [if_neg hx]
    rcases opk_le (l.getD i 0) with hk | hk | hk | hk | hk <;> rw [hk] at h ⊢ <;> simp only [readK] at h ⊢
    · simp; omega
    all_goals (split at h <;> rename_i hy <;> simp [hy] at h ⊢ <;> omega)
theorem readS_at (l : List Int) (i : Nat) (h : i < l.length) : readS l i = readAt l i := by
  unfold readS
  rw [if_neg (by omega), if_neg (by omega), Int.toNat_natCast]
set_option maxHeartbeats 2000000 in
set_option maxRecDepth 100000 in
theorem all1_in (Bs : Nat) (v : Value) (l : List Int) (n : Nat) (hn : 1 ≤ n) (q : Nat) (J Jx : List (Nat × Rd) → World → Prop) (W : World)
    (hJ : AbidesFrom W.heap.size J)
    (hY : ∀ pre x W1, J pre W1 → pre.length < l.length → x ∈ opsL l → YieldAt Fence.wide (n - 1) Tryd.prog q (encO x) W1 fun e W' =>
      (e = .returned (.bool true) ∧ J (pre ++ [x]) W' ∧ KpB Bs v l W1 W') ∨ (e = .returned (.bool false) ∧ Jx (pre ++ [x]) W'))
    (hc : W.cell? ⟨Bs, 0, none⟩ = some v) (hb : Byt W v l) (hG : Glob W) (h0 : J [] W) (hlen : l.length ≤ 1000000) :
    CallsIn Fence.wide n Tryd.prog 52 #[.func (.yield q) #[] #[], .pointer (some ⟨Bs, 0, none⟩)] W fun e W' => (∃ u, e = .returned u) ∧
      ((∃ ys, ys = opsL l ∧ J ys W') ∨ (∃ pre, pre <+: opsL l ∧ Jx pre W')) := by
  refine callsIn_of_wp Tryd.func52 rfl trivial ?_ rfl
  simp only [Tryd.ntmps52, List.size_toArray, List.length_cons, List.length_nil, Nat.reduceAdd, Nat.reduceSub, Array.replicate_succ, Array.replicate_zero, List.push_toArray, List.append_toArray, List.nil_append, List.cons_append]
  obtain ⟨A, c, hv, hnc, hcm, hby, hcl⟩ := id hb
  have HB := Lib.hid hb
  have HGl := Lib.hid hG
  have HL := Lib.hid hlen
  clear hb hG hby hcl
  subst hv
  gi_wp2_with fail
  gi_loopw [3] (fun a wr => ∃ (i f : Nat) (pre : List (Nat × Rd)), a = .int .i64 i ∧ i ≤ l.length ∧ l.length ≤ i + f ∧ pre ++ opsFrom l f i = opsL l ∧ pre.length ≤ i ∧ J pre wr ∧ KpB Bs (.slice A l.length c) l W wr)
    (fun a _ => l.length - (intOf a).toNat)
  case atStart => exact ⟨0, l.length, [], rfl, by omega, by omega, rfl, by simp, h0, ⟨fun x => x, fun x => x, fun x => x, fun _ _ x => x, Nat.le_refl _⟩⟩
  case round =>
    obtain ⟨i, f, pre, rfl, hi, hf, hpre, hpl, hJs, hK⟩ := hrel
    have hcx := hK.2.1 hc
    have hbx := hK.1 HB.out
    have hgx := hK.2.2.1 HGl.out
    by_cases hlt : i < l.length
    · obtain ⟨r, hr⟩ : ∃ r, readAt l i = r := ⟨_, rfl⟩
      have hrd : ∀ w1 : World, Glob w1 → Byt w1 (.slice A l.length c) l → Calls Tryd.prog 13 #[.slice A l.length c, .int .i64 i] w1 fun e w' => e = .returned (Rd.val r) ∧ Below w1.heap.size w1 w' := by
        intro w1 h1 h2
        have := read_calls (.slice A l.length c) l i w1 h1 h2
        rwa [readS_at l i hlt, hr] at this
      have hsz1 := readAt_size l i
      have hend := readAt_end l i hlt
      rw [hr] at hsz1 hend
      obtain ⟨f', rfl⟩ : ∃ f', f = f' + 1 := ⟨f - 1, by omega⟩
      have hops : opsFrom l (f' + 1) i = if r.err = 0 then (i, r) :: opsFrom l f' (i + r.size.toNat) else [] := by
        rw [opsFrom, if_pos hlt, hr]
      have HRD := Lib.hid hrd
      have HOP := Lib.hid hops
      have HP := Lib.hid hpre
      have HLN := HL.out
      clear hrd hops hr hpre
      obtain ⟨code, ra, rb, size, err⟩ := r
      dsimp only at hsz1 hend
      by_cases he : err = 0
      · subst he
        have hs1 := hsz1 rfl
        have he1 := hend rfl
        clear hsz1 hend
        gi_wp2_with (first | (refine ⟨trivial, ?_⟩; gi_at_call 13; refine (callsIn_wide.2 (HRD.out _ hgx hbx)).mono ?_; rintro e w1 ⟨rfl, hb1⟩; unfold Rd.val; dsimp only; have HB1 := Lib.hid hb1; clear hb1; obtain ⟨fn, tmps, assign, body, hy, hR⟩ := hY pre (i, ⟨code, ra, rb, size, 0⟩) (w1.alloc (.cells #[.int .i64 code, .int .i64 ra, .int .i64 rb, .int .i64 size] 25)) (hJ _ _ _ none hJs (grown_of_below (HB1.out.alloc HB1.out.size _) none) (by simp)) (by omega) (by rw [← HP.out, HOP.out]; simp); dsimp only [encO, opV] at hy) | fail)
        refine hR.mono ?_
        rintro e W3 (⟨rfl, hJ3, hk3⟩ | ⟨rfl, hJx3⟩)
        · have hrow3 := hk3.2.2.2.1 w1.heap.size _ (heap_alloc_new w1 _)
          have hsz3 := cell_of_row _ _ 3 _ _ _ hrow3
          simp only [List.getElem?_toArray, List.getElem?_cons_succ, List.getElem?_cons_zero] at hsz3
          have HR3 := Lib.hid hrow3
          have HK3 := Lib.hid hk3
          clear hrow3 hk3
          gi_wp2_with fail
          go_roundw
          case rel =>
            refine ⟨i + size.toNat, f', pre ++ [(i, ⟨code, ra, rb, size, 0⟩)], ?_, by omega, by omega, ?_, ?_, hJ3, ?_⟩
            · have : ((i + size.toNat : Nat) : Int) = i + size := by omega
              rw [this]
            · rw [List.append_assoc, ← HP.out, HOP.out]
              simp
            · simp; omega
            · exact (hK.trans (KpB.below (HB1.out.alloc HB1.out.size _))).trans HK3.out
          case measure => simp only [intOf]; omega
        · gi_wp2_with fail
          refine bodyPost_ret (results_none rfl _ _ _) rfl ?_
          refine ⟨⟨_, rfl⟩, .inr ⟨_, ⟨opsFrom l f' (i + size.toNat), ?_⟩, hJx3⟩⟩
          rw [List.append_assoc, ← HP.out, HOP.out]
          simp
      · have hb1 : (err != 0) = true := by simpa using he
        have hb2 : (err == 0) = false := by simpa using he
        have HE := Lib.hid he
        clear hsz1 hend he
        gi_wp2_with (first | (refine ⟨trivial, ?_⟩; gi_at_call 13; refine (callsIn_wide.2 (HRD.out _ hgx hbx)).mono ?_; rintro e w1 ⟨rfl, hb3⟩; unfold Rd.val; dsimp only; have HB1 := Lib.hid hb3; clear hb3) | fail)
        try (refine ⟨fun _ h => (by cases h), ?_⟩; gi_wp2_with fail)
        refine bodyPost_ret (results_none rfl _ _ _) rfl ?_
        refine ⟨⟨_, rfl⟩, .inl ⟨pre, ?_, hJ _ _ _ none hJs (grown_of_below (HB1.out.alloc HB1.out.size _) none) (by simp)⟩⟩
        rw [← HP.out, HOP.out, if_neg HE.out, List.append_nil]
    · have hil : i = l.length := by omega
      have hpe : pre = opsL l := by
        rw [← hpre]
        cases f with
        | zero => simp [opsFrom]
        | succ f => rw [opsFrom, if_neg hlt, List.append_nil]
      have HP := Lib.hid hpe
      clear hpe hpre
      subst hil
      gi_wp2_with fail
      go_end0
      exact ⟨⟨_, rfl⟩, .inl ⟨_, HP.out, hJs⟩⟩
theorem opsFrom_mem (l : List Int) : ∀ (f i : Nat) (x : Nat × Rd), x ∈ opsFrom l f i → i ≤ x.1 ∧ x.1 < l.length ∧ x.2 = readAt l x.1 ∧ x.2.err = 0 := by
  intro f
  induction f with
  | zero => intro i x h; simp [opsFrom] at h
  | succ f ih =>
    intro i x h
    rw [opsFrom] at h
    split at h
    · rename_i hi
      split at h
      · rename_i he
        rcases List.mem_cons.1 h with rfl | h
        · exact ⟨Nat.le_refl _, hi, rfl, he⟩
        · have := ih _ x h
          exact ⟨by omega, this.2⟩
      · simp at h
    · simp at h
theorem readAt_good (l : List Int) (hby : ∀ x ∈ l, 0 ≤ x ∧ x ≤ 255) (i : Nat) (hi : i < l.length) (h : (readAt l i).err = 0) :
    (0 ≤ (readAt l i).code ∧ (readAt l i).code ≤ 40) ∧ (-32768 ≤ (readAt l i).a ∧ (readAt l i).a ≤ 32767) ∧ (-32768 ≤ (readAt l i).b ∧ (readAt l i).b ≤ 32767) := by
  have byte : ∀ j, j < l.length → 0 ≤ l.getD j 0 ∧ l.getD j 0 ≤ 255 := fun j hj => hby (l.getD j 0) (by rw [List.getD_eq_getElem?_getD, List.getElem?_eq_getElem hj]; exact List.getElem_mem hj)
  have h0 := byte i hi
  unfold readAt at h ⊢
  split at h
  · simp at h
  · rename_i hx
    rw [if_neg hx]
    rcases opk_le (l.getD i 0) with hk | hk | hk | hk | hk <;> rw [hk] at h ⊢ <;> simp only [readK] at h ⊢
    · exact ⟨⟨h0.1, show l.getD i 0 ≤ 40 by omega⟩, by omega, by omega⟩
    · split at h
      · rename_i hy; rw [if_pos hy]; have := byte _ hy; exact ⟨⟨h0.1, show l.getD i 0 ≤ 40 by omega⟩, by dsimp only; omega, by dsimp only; omega⟩
      · simp at h
    · split at h
      · rename_i hy; rw [if_pos hy]; have := byte _ hy; exact ⟨⟨h0.1, show l.getD i 0 ≤ 40 by omega⟩, by dsimp only [s8]; split <;> omega, by dsimp only; omega⟩
      · simp at h
    · split at h
      · rename_i hy; rw [if_pos hy]; have := byte _ hy; have := byte (i + 1) (by omega); exact ⟨⟨h0.1, show l.getD i 0 ≤ 40 by omega⟩, by dsimp only [s16]; split <;> omega, by dsimp only; omega⟩
      · simp at h
    · split at h
      · rename_i hy; rw [if_pos hy]; have := byte _ hy; have := byte (i + 1) (by omega); exact ⟨⟨h0.1, show l.getD i 0 ≤ 40 by omega⟩, by dsimp only; omega, by dsimp only; omega⟩
      · simp at h
theorem all_calls (a : Option Addr) (len cap : Nat) (w : World) :
    Calls Tryd.prog 20 #[.slice a len cap] w fun e w' => e = .returned (.func (.func 52) #[] #[.pointer (some ⟨w.heap.size, 0, none⟩)]) ∧ w.alloc (.cells #[.slice a len cap] 22) = w' := by
  go_enter Tryd.func20, Tryd.ntmps20
  go_wp2_with fail
  go_ret
  exact ⟨rfl, rfl⟩
theorem all_stops (n : Nat) (hn : 1 ≤ n) (Bs : Nat) (v : Value) (l : List Int) (w : World) (hlen : l.length ≤ 1000000)
    (hc : w.cell? ⟨Bs, 0, none⟩ = some v) (hb : Byt w v l) (hG : Glob w) :
    SeqStopsK Fence.wide n Tryd.prog 52 #[.pointer (some ⟨Bs, 0, none⟩)] encO (KpB Bs v l) (fun ys => ys = opsL l) (fun pre => pre <+: opsL l) l.length w := fun q J Jx W hW hJ _ hY h0 =>
  all1_in Bs v l n hn q J Jx W hJ (fun pre x W1 h1 h2 _ => hY pre x W1 h1 h2) (cell_be hW hc) (hb.below hW) (hG.below hW) h0 hlen
end Go.Proofs.YtkphijabhoppnaaDoor
namespace Go.Proofs.YtkphijabhoppnaaDoor
open Go.RowKit Go.Shelf
open Go.Proofs.YtkphijabhoppnaaDoorW.PrintWords (grown_of_below nums)
set_option linter.unusedSimpArgs false
set_option linter.unusedVariables false
attribute [local go_sem] Oper.semAt_some
def endO (pre : List (Nat × Rd)) : Int := match pre.getLast? with
  | none => 0
  | some x => wrap64 (x.1 + x.2.size)
theorem endO_snoc (pre : List (Nat × Rd)) (x : Nat × Rd) : endO (pre ++ [x]) = wrap64 (x.1 + x.2.size) := by simp [endO]
def plcs (pre : List (Nat × Rd)) : List Int := pre.map fun x => (x.1 : Int)
def placesS (l : List Int) : List Int × Int := if endO (opsL l) < l.length then ([], (readS l (endO (opsL l))).err) else (plcs (opsL l), 0)
theorem endO_cons (x : Nat × Rd) (xs : List (Nat × Rd)) : endO (x :: xs) = if xs = [] then wrap64 ((x.1 : Int) + x.2.size) else endO xs := by
  cases xs with
  | nil => simp [endO]
  | cons y ys => simp [endO, List.getLast?_cons_cons]
theorem end_from (l : List Int) (hl : l.length ≤ 1000000) : ∀ (f i : Nat), l.length ≤ i + f → i ≤ l.length → opsFrom l f i ≠ [] →
    ∃ E : Nat, endO (opsFrom l f i) = E ∧ E ≤ l.length ∧ (E < l.length → (readAt l E).err ≠ 0) := by
  intro f
  induction f with
  | zero => intro i _ _ h; simp [opsFrom] at h
  | succ f ih =>
    intro i hf hi hne
    by_cases hlt : i < l.length
    · by_cases he : (readAt l i).err = 0
      · have hs := readAt_size l i he
        have hend := readAt_end l i hlt he
        have e : opsFrom l (f + 1) i = (i, readAt l i) :: opsFrom l f (i + (readAt l i).size.toNat) := by rw [opsFrom, if_pos hlt, if_pos he]
        rw [e, endO_cons]
        by_cases hx : opsFrom l f (i + (readAt l i).size.toNat) = []
        · rw [if_pos hx]
          refine ⟨i + (readAt l i).size.toNat, by dsimp only; unfold wrap64; omega, hend, fun h2 h3 => ?_⟩
          cases f with
          | zero => omega
          | succ f => rw [opsFrom, if_pos h2, if_pos h3] at hx; cases hx
        · rw [if_neg hx]
          exact ih _ (by omega) hend hx
      · rw [opsFrom, if_pos hlt, if_neg he] at hne; exact absurd rfl hne
    · rw [opsFrom, if_neg hlt] at hne; exact absurd rfl hne
theorem ops_end (l : List Int) (hlen : l.length ≤ 1000000) : ∃ E : Nat, endO (opsL l) = E ∧ E ≤ l.length ∧ (E < l.length → (readAt l E).err ≠ 0) := by
  by_cases h : opsL l = []
  · refine ⟨0, by rw [h]; rfl, Nat.zero_le _, fun h2 h3 => ?_⟩
    unfold opsL at h
    cases hl : l.length with
    | zero => omega
    | succ f => rw [hl, opsFrom, if_pos h2, if_pos h3] at h; cases h
  · exact end_from l hlen l.length 0 (by omega) (by omega) h
theorem info3 : (Tryd.prog.info? 3).map (fun i => (i.zero, i.size, i.bytes)) = some (some (.int .i64 0), 1, 8) := by kernel_rfl
def PlPost (w : World) (l : List Int) (e : Ending) (w' : World) : Prop :=
  ∃ v, e = .returned (.tuple #[v, .int .i64 (placesS l).2]) ∧ w'.ownsRow w.heap.size 3 1 v (placesS l).1.length (nums .i64 (placesS l).1) ∧ Below w.heap.size w w'
theorem row_own {β : Type} (B : Nat) (f : β → Array Value) (t : TypeId) : Own (fun s W => W.heap[B]? = some (Obj.cells (f s) t (0, 0))) := fun s X Y row hs hg hr => by
  refine (hg.block B (Array.getElem?_eq_some_iff.1 hs).1 fun e => ?_).trans hs
  obtain ⟨o, ho, hc⟩ := hr B e.symm
  rw [hs] at ho
  cases ho
  simp [Obj.isCells] at hc
theorem row_ne {W : World} {base : Nat} {e : TypeId} {size n : Nat} {v : Value} {xs : List Value} (h : W.ownsRow base e size v n xs) {g : Nat} {cs : Array Value} {t : TypeId} {fr : Nat × Nat} (hg : W.heap[g]? = some (Obj.cells cs t fr)) (hte : t ≠ e) : some g ≠ v.ownBlock := by
  rcases h.2 with ⟨rfl, _⟩ | ⟨k, cap, cur, rfl, _, hk, _⟩
  · simp [Value.ownBlock]
  · intro he
    have : g = k := by simpa [Value.ownBlock] using he
    subst this
    rw [hg] at hk
    cases hk
    exact hte rfl
theorem row_ge {W : World} {base : Nat} {e : TypeId} {size n : Nat} {v : Value} {xs : List Value} (h : W.ownsRow base e size v n xs) (k : Nat) (hk : v.ownBlock = some k) : base ≤ k := by
  rcases h.2 with ⟨rfl, _⟩ | ⟨g, cap, cur, rfl, hb, _⟩
  · simp [Value.ownBlock] at hk
  · have : g = k := by simpa [Value.ownBlock] using hk
    omega
theorem row_base {W : World} {base base' : Nat} {e : TypeId} {size n : Nat} {v : Value} {xs : List Value} (h : W.ownsRow base e size v n xs) (hb : base' ≤ base) : W.ownsRow base' e size v n xs := by
  refine ⟨h.1, ?_⟩
  rcases h.2 with h2 | ⟨g, cap, cur, h1, h2, h3⟩
  · exact .inl h2
  · exact .inr ⟨g, cap, cur, h1, Nat.le_trans hb h2, h3⟩
theorem app_below {W w1 : World} {n₁ : Nat} {e : TypeId} {size n : Nat} {v : Value} {xs : List Value} {tmp : Obj} (hrow : W.ownsRow n₁ e size v n xs) (hn : n₁ ≤ W.heap.size)
    (hg : (W.alloc tmp).grownBy w1 v.ownBlock) : Below n₁ W w1 :=
  ((Below.refl n₁ W).alloc hn tmp).grown hg (by simp; omega) (row_ge hrow)
theorem app_row {W w1 : World} {n₁ : Nat} {e : TypeId} {size n : Nat} {v : Value} {xs : List Value} {tmp : Obj} (hrow : W.ownsRow n₁ e size v n xs)
    (hg : (W.alloc tmp).grownBy w1 v.ownBlock) {g : Nat} {cs : Array Value} {t : TypeId} {fr : Nat × Nat} (h : W.heap[g]? = some (Obj.cells cs t fr)) (hte : t ≠ e) : w1.heap[g]? = some (Obj.cells cs t fr) :=
  (hg.block g (by have := (Array.getElem?_eq_some_iff.1 h).1; simp; omega) (row_ne hrow h hte)).trans (row_alloc h tmp)
theorem app_others {W w1 : World} {n₁ : Nat} {e : TypeId} {size n : Nat} {v : Value} {xs : List Value} {tmp : Obj} (hrow : W.ownsRow n₁ e size v n xs)
    (hg : (W.alloc tmp).grownBy w1 v.ownBlock) : KeepsOthers W w1 := by
  refine (KeepsOthers.alloc W tmp).trans (KeepsOthers.of_grownBy hg fun j o ej hj => ?_)
  rcases (hrow.alloc tmp).2 with ⟨rfl, _⟩ | ⟨g, cap, cur, rfl, _, hgb, _⟩
  · simp [Value.ownBlock] at ej
  · obtain rfl : g = j := by simpa [Value.ownBlock] using ej
    rw [hgb] at hj; cases hj; rfl
theorem boxed_be {B n₁ : Nat} {W w1 : World} {t : TypeId} {v : Value} (h : Boxed W B t v) (hb : Below n₁ W w1) (hlt : B < n₁) : Boxed w1 B t v := (hb.block B hlt).trans h
set_option maxRecDepth 100000 in
set_option maxHeartbeats 2000000 in
theorem places_calls (v : Value) (l : List Int) (w : World) (hlen : l.length ≤ 1000000) (hb : Byt w v l) (hG : Glob w) : Calls Tryd.prog 16 #[v] w (PlPost w l) := by
  refine (callsIn_wide (n := 6)).1 ?_
  obtain ⟨A, c, hv, hnc, hcm, hby, hcl⟩ := id hb
  subst hv
  have HB := Lib.hid hb
  have HG := Lib.hid hG
  clear hb hG hby hcl
  obtain ⟨i0, hi, hz0, hz1, hz2⟩ := info_parts info3
  refine callsIn_of_wp_marks Tryd.func16 rfl trivial ?_ rfl
  simp only [Tryd.ntmps16, List.size_toArray, List.length_cons, List.length_nil, Nat.reduceAdd, Nat.reduceSub, Array.replicate_succ, Array.replicate_zero, List.push_toArray, List.append_toArray, List.nil_append, List.cons_append]
  gi_wp2_with (first | (refine ⟨trivial, ?_⟩; gi_at_call 20; refine (callsIn_wide.2 (all_calls _ _ _ _)).mono ?_; rintro e w' ⟨rfl, rfl⟩) | fail)
  have bO := ((Boxed.new w 33 (.slice none 0 0)).alloc (.cells #[.int .i64 0] 3)).alloc (.cells #[.slice A l.length c] 22)
  have bE := (Boxed.new (w.alloc (.cells #[.slice none 0 0] 33)) 3 (.int .i64 0)).alloc (.cells #[.slice A l.length c] 22)
  have bS := Boxed.new ((w.alloc (.cells #[.slice none 0 0] 33)).alloc (.cells #[.int .i64 0] 3)) 22 (.slice A l.length c)
  simp only [World.size_alloc] at bE bS
  have hB0 : Below w.heap.size w (((w.alloc (.cells #[.slice none 0 0] 33)).alloc (.cells #[.int .i64 0] 3)).alloc (.cells #[.slice A l.length c] 22)) := (((Below.refl _ w).alloc (Nat.le_refl _) _).alloc (by simp) _).alloc (by simp; omega) _
  have hsz : (((w.alloc (.cells #[.slice none 0 0] 33)).alloc (.cells #[.int .i64 0] 3)).alloc (.cells #[.slice A l.length c] 22)).heap.size = w.heap.size + 3 := by simp
  obtain ⟨W0, hW0⟩ : ∃ W0, ((w.alloc (.cells #[.slice none 0 0] 33)).alloc (.cells #[.int .i64 0] 3)).alloc (.cells #[.slice A l.length c] 22) = W0 := ⟨_, rfl⟩
  rw [hW0] at bO bE bS hB0 hsz ⊢
  clear hW0
  refine wpIn_rangeFunc_ownH rfl (by omega) (gf := 52) (lb := #[.pointer (some ⟨w.heap.size + 1 + 1, 0, none⟩)]) rfl trivial (enters_of Tryd.func52 (by kernel_rfl) rfl)
    (all_stops _ (by omega) (w.heap.size + 1 + 1) _ l W0 hlen bS.cell (HB.out.below hB0) (HG.out.below hB0)) KpB.trans KpB.put (Below.refl _ _) (fun _ => rfl)
    (fun pre W => ((∃ v, Boxed W w.heap.size 33 v ∧ W.ownsRow (w.heap.size + 3) 3 1 v (plcs pre).length ((plcs pre).map (Value.int .i64)) ∧ True) ∧ Boxed W (w.heap.size + 1) 3 (.int .i64 (endO pre))) ∧ Below w.heap.size w W ∧ w.heap.size + 3 ≤ W.heap.size)
    (fun _ _ _ => False)
    (OwnFrom.and (OwnFrom.and (Own.from (holdsRow_own (w.heap.size + 3) w.heap.size 33 3 1 (fun pre => (plcs pre).length) (fun pre => (plcs pre).map (Value.int .i64)) (fun _ _ => True)) _) (Own.from (boxed_own _ _ _) _)) (OwnFrom.and (ownFrom_below (Nat.le_refl _) (by omega)) (fun s A B row hs hg hr => Nat.le_trans hs hg.size)))
    (fun _ _ _ _ _ hs _ _ => hs)
    ⟨⟨⟨_, bO, World.ownsRow_nil _ _ _ _, trivial⟩, bE⟩, hB0, by omega⟩
    (fun x a' W => ∃ Bx, w.heap.size + 3 ≤ Bx ∧ W.heap[Bx]? = some (Obj.cells #[.int .i64 x.2.code, .int .i64 x.2.a, .int .i64 x.2.b, .int .i64 x.2.size] 25 (0, 0)) ∧ a' = { tmps := #[.slice A l.length c, undef, .slice none 0 0, .int .i64 0, .pointer (some ⟨w.heap.size, 0, none⟩), .pointer (some ⟨w.heap.size + 1, 0, none⟩), .int .i64 x.1, .pointer (some ⟨Bx, 0, none⟩), undef, undef, .slice A l.length c, .func (.func 52) #[] #[.pointer (some ⟨w.heap.size + 1 + 1, 0, none⟩)], .int .i64 x.1, opV x.2, undef, undef, undef, undef, undef, undef, undef, undef, undef, undef, undef, undef, undef, undef, undef, undef, undef, undef, undef, undef], defers := [] })
    (fun x a' _ X Y row hs hg hr => by obtain ⟨Bx, h1, h2, h3⟩ := hs; exact ⟨Bx, h1, row_own Bx (fun (_ : Unit) => #[.int .i64 x.2.code, .int .i64 x.2.a, .int .i64 x.2.b, .int .i64 x.2.size]) 25 () X Y row h2 hg (fun r e => (hr r e).2), h3⟩)
    ?assign ?body ?done ?stop
  case assign =>
    rintro q pre x W K ⟨⟨⟨v, bv, hrow, -⟩, bE1⟩, hB1, hs1⟩ hK
    simp only [encO, opV]
    gi_wp2
    exact hK _ _ ((KeepsOthers.alloc _ _).from _) (KpB.below ((Below.refl _ W).alloc (Nat.le_refl _) _)) ⟨⟨⟨v, bv.alloc _, hrow.alloc _, trivial⟩, bE1.alloc _⟩, hB1.alloc hB1.size _, by simp; omega⟩ ⟨W.heap.size, hs1, heap_alloc_new W _, rfl⟩
  case body =>
    rintro q pre x a' W hq ⟨r, hr⟩ ⟨⟨⟨v, bv, hrow, -⟩, bE1⟩, hB1, hs1⟩ ⟨Bx, hBx, bX, rfl⟩ hlt
    have hcv := bv.cell
    have hX3 := cell_of_row _ _ 3 _ _ _ bX
    simp only [List.getElem?_toArray, List.getElem?_cons_succ, List.getElem?_cons_zero] at hX3
    have hpl : (plcs pre).length = pre.length := by simp [plcs]
    have HV := Lib.hid bv
    have HR := Lib.hid hrow
    have HX := Lib.hid bX
    have HE := Lib.hid bE1
    have HB1 := Lib.hid hB1
    have HQ := Lib.hid hr
    have HPL := Lib.hid hpl
    clear bv hrow bX bE1 hB1 hr hpl
    obtain ⟨p, ⟨code, ra, rb, size, err⟩⟩ := x
    dsimp only at hX3
    gi_wp2_with (first | (gi_at_builtin; refine wpListIn_append_own _ rfl _ _ 33 rfl (w.heap.size + 3) 3 i0 (.int .i64 0) 1 8 Tryd.underlying33 hi hz0 hz1 hz2 rfl (by decide) _ _ _ rfl (HR.out.alloc _) ⟨W.heap.size, 0, none⟩ 1 1 [.int .i64 p] rfl rfl (cell_one_new _ _ _) (by simp [Value.oneCell']) (by have := HPL.out; unfold maxLen; omega) (by have := HPL.out; omega) (by simp; omega) ?_; intro v' w1 hown' hgrow _; obtain ⟨g', cap', rfl⟩ := ownsRow_succ hown'; have hbl := app_below HR.out hs1 hgrow; have bo1 := boxed_be HV.out hbl (by omega); have be1 := boxed_be HE.out hbl (by omega); have hx1 := app_row HR.out hgrow HX.out (by decide); have hc1 := bo1.cell; have hf1 := bo1.frozen; have hc2 := be1.cell; have hf2 := be1.frozen; have hX1 := cell_of_row _ _ 3 _ _ _ hx1; simp only [List.getElem?_toArray, List.getElem?_cons_succ, List.getElem?_cons_zero] at hX1; have HBL := Lib.hid hbl; have BO1 := Lib.hid bo1; have BE1 := Lib.hid be1; have HX1 := Lib.hid hx1; have HOWN := Lib.hid hown'; have HGR := Lib.hid hgrow; clear hbl bo1 be1 hx1 hown' hgrow) | fail)
    have hk1 : KeepsOthers W ((w1.setCell ⟨w.heap.size, 0, none⟩ (.slice (some ⟨g', 0, none⟩) ((plcs pre).length + 1) cap')).setCell ⟨w.heap.size + 1, 0, none⟩ (.int .i64 (wrap64 (p + size)))) :=
      ((app_others HR.out HGR.out).trans (KeepsOthers.setCell _ _ _)).trans (KeepsOthers.setCell _ _ _)
    have hbW : Below w.heap.size W ((w1.setCell ⟨w.heap.size, 0, none⟩ (.slice (some ⟨g', 0, none⟩) ((plcs pre).length + 1) cap')).setCell ⟨w.heap.size + 1, 0, none⟩ (.int .i64 (wrap64 (p + size)))) :=
      ((HBL.out.mono (B' := w.heap.size) (by omega)).setCell (p := ⟨w.heap.size, 0, none⟩) (Nat.le_refl _) _).setCell (p := ⟨w.heap.size + 1, 0, none⟩) (by simp) _
    refine ⟨hk1.from _, ⟨fun _ => HB.out.below (HB1.out.trans hbW), fun h => ?_, fun _ => HG.out.below (HB1.out.trans hbW), fun g cs h => ?_, hk1.size⟩, ⟨⟨⟨_, (BO1.out.set _).other (by omega) _, ?_⟩, ?_⟩, HB1.out.trans hbW, Nat.le_trans hs1 hk1.size⟩⟩
    · exact (World.cell?_of_block (w := w1) ((heap_setCell_other _ ⟨w.heap.size + 1, 0, none⟩ (w.heap.size + 1 + 1) _ (show w.heap.size + 1 + 1 ≠ w.heap.size + 1 by omega)).trans (heap_setCell_other _ ⟨w.heap.size, 0, none⟩ (w.heap.size + 1 + 1) _ (show w.heap.size + 1 + 1 ≠ w.heap.size by omega)))).trans ((HBL.out.cell (p := ⟨w.heap.size + 1 + 1, 0, none⟩) (show w.heap.size + 1 + 1 < w.heap.size + 3 by omega)).trans h)
    · have h1 := app_row HR.out HGR.out h (by decide)
      have n1 : g ≠ w.heap.size := by rintro rfl; have := HV.out; unfold Boxed at this; rw [h] at this; cases this
      have n2 : g ≠ w.heap.size + 1 := by rintro rfl; have := HE.out; unfold Boxed at this; rw [h] at this; cases this
      exact ((heap_setCell_other _ ⟨w.heap.size + 1, 0, none⟩ g _ n2).trans (heap_setCell_other _ ⟨w.heap.size, 0, none⟩ g _ n1)).trans h1
    · have := ownsRow_setCell_below (ownsRow_setCell_below HOWN.out (a := ⟨w.heap.size, 0, none⟩) (show w.heap.size < w.heap.size + 3 by omega) (.slice (some ⟨g', 0, none⟩) ((plcs pre).length + 1) cap')) (a := ⟨w.heap.size + 1, 0, none⟩) (show w.heap.size + 1 < w.heap.size + 3 by omega) (.int .i64 (wrap64 (p + size)))
      simpa [plcs] using this
    · rw [endO_snoc]
      exact (BE1.out.other (by omega) _).set _
  case done =>
    rintro D ys W hD rfl ⟨⟨⟨v, bv, hrow, -⟩, bE1⟩, hB1, hs1⟩ hK
    obtain ⟨E, hE, hEl, hErr⟩ := ops_end l hlen
    have hcv := bv.cell
    rw [hE] at bE1
    have hce := bE1.cell
    by_cases hlt : E < l.length
    · have hpl : placesS l = ([], (readAt l E).err) := by
        unfold placesS
        rw [hE, if_pos (by omega), readS_at l E hlt]
      obtain ⟨r, hr⟩ : ∃ r, readAt l E = r := ⟨_, rfl⟩
      rw [hr] at hpl
      have hrd : Calls Tryd.prog 13 #[.slice A l.length c, .int .i64 E] W fun e w' => e = .returned (Rd.val r) ∧ Below W.heap.size W w' := by
        have := read_calls (.slice A l.length c) l E W (HG.out.below hB1) (HB.out.below hB1)
        rwa [readS_at l E hlt, hr] at this
      have HRD := Lib.hid hrd
      have HPL := Lib.hid hpl
      have HBB := Lib.hid hB1
      have HKK := Lib.hid hK
      have HRR := Lib.hid hrow
      clear hrd hpl hr hErr hE hB1 hrow bv bE1 hK
      obtain ⟨code, ra, rb, size, err⟩ := r
      gi_wp2_with (first | (refine ⟨trivial, ?_⟩; gi_at_call 13; refine (callsIn_wide.2 HRD.out).mono ?_; rintro e w2 ⟨rfl, hb2⟩; unfold Rd.val; dsimp only; have HB2 := Lib.hid hb2; clear hb2) | fail)
      refine ⟨by simp, .inl ⟨_, _, rfl, run_takeDeferred (row_alloc (row_kept HB2.out HKK.out) _), ?_⟩⟩
      refine ⟨_, results_tmp2 (fn := Tryd.f16) rfl _ _ _, ?_⟩
      rw [PlPost, HPL.out]
      have hb : Below w.heap.size w (w2.alloc (Obj.cells #[.int .i64 code, .int .i64 ra, .int .i64 rb, .int .i64 size] 25)) := ((HBB.out.trans (HB2.out.mono HBB.out.size)).alloc (Nat.le_trans HBB.out.size HB2.out.size) _)
      exact ⟨_, rfl, World.ownsRow_nil _ _ _ _, hb.trans (belowK_b (w := w) (Nat.le_refl _) _ D _ _ (by omega) (row_alloc (row_kept HB2.out HKK.out) _) rfl rfl)⟩
    · have hE2 : E = l.length := by omega
      have hpl : placesS l = (plcs (opsL l), 0) := by
        unfold placesS
        rw [hE, if_neg (by omega)]
      have HPL := Lib.hid hpl
      have HBB := Lib.hid hB1
      have HKK := Lib.hid hK
      have HRR := Lib.hid hrow
      clear hpl hErr hE hB1 hrow bv bE1 hK hlt hEl
      subst hE2
      gi_wp2_with fail
      refine ⟨by simp, .inl ⟨_, _, rfl, run_takeDeferred HKK.out, ?_⟩⟩
      refine ⟨_, results_tmp2 (fn := Tryd.f16) rfl _ _ _, ?_⟩
      rw [PlPost, HPL.out]
      exact ⟨_, rfl, ownsRow_putObj (row_base HRR.out (by omega)) _ HKK.out rfl, HBB.out.trans (belowK_b (w := w) (Nat.le_refl _) _ D _ _ (by omega) HKK.out rfl rfl)⟩
  case stop =>
    rintro D c pre W _ _ h _
    exact h.elim
end Go.Proofs.YtkphijabhoppnaaDoor
namespace Go.Proofs.YtkphijabhoppnaaDoor
open Go.RowKit Go.Shelf
set_option linter.unusedSimpArgs false
set_option linter.unusedVariables false
theorem rangeFunc_fr {F : Fence} {n : Nat} {P : Program} {w : World} {α : Type} {g : Operand} {ps : Array Tmp} {assign body : Code} {Q : Exit → Act → World → Prop} {a : Act}
    (hro : F.round = none) (h1 : 1 ≤ n) {gf : Nat} {lb : Array Value} (hg : a.eval g = .func (.func gf) #[] lb) (hFg : F.fn gf) (eg : ∀ args w, (callFunc gf args).run P w = .ok (.enter gf args) w)
    {encs : α → Array Value} {Kp : World → World → Prop} {S Sp : List α → Prop} {N : Nat} {w0 : World} (hseq : SeqStopsK F (n - 1) P gf lb encs Kp S Sp N w0)
    (hKt : ∀ {A B C : World}, Kp A B → Kp B C → Kp A C) (hKb : ∀ (W : World) (l : Nat) (o o' : Obj), w.heap.size ≤ l → W.heap[l]? = some o → o.isCells = false → o.isWalk = false → Kp W (W.putObj l o')) (hb0 : Below w0.heap.size w0 w) (hps : ∀ x, (encs x).size = ps.size)
    (I : List α → World → Prop) (Ix : Code → List α → World → Prop) (hI : OwnFrom w.heap.size I) (hIx : ∀ c, OwnFrom w.heap.size (Ix c)) (h0 : I [] w)
    (Pa : α → Nat → World → Prop) (hPa : ∀ x b, OwnFrom w.heap.size (fun (_ : Unit) W => Pa x b W)) (upd : α → Nat → Array Value → Array Value)
    (hassign : ∀ (l : Nat) (pre : List α) (x : α) (W : World) (K : Act → World → Prop), I pre W → (∀ b W', KeepsFrom w.heap.size W W' → Kp W W' → I pre W' → Pa x b W' → K { tmps := upd x b a.tmps, defers := [] } W') →
      assign.wpIn (F.inRound l) (n - 1 - 1) P (Exit.then K (fun _ _ _ => False)) { tmps := (ps.zip (encs x)).foldl (fun t (p, v) => t.setIfInBounds p v) a.tmps, defers := [] } W)
    (hbody : ∀ (l : Nat) (pre : List α) (x : α) (b : Nat) (W : World), w.heap.size ≤ l → (∃ r, W.heap[l]? = some (.loop r)) → I pre W → Pa x b W → pre.length < N → body.wpIn (F.inRound l) (n - 1 - 1) P (ownPostG w.heap.size Kp I Ix (pre ++ [x]) W) { tmps := upd x b a.tmps, defers := [] } W)
    (hdone : ∀ (D : Nat) (xs : List α) (W : World), w.heap.size ≤ D → S xs → I xs W → W.heap[D]? = some (.deferred (some [])) → Q .normal { a with defers := { target := .collected D, args := #[] } :: a.defers } W)
    (hstop : ∀ (D : Nat) (c : Code) (pre : List α) (W : World), w.heap.size ≤ D → Sp pre → Ix c pre W → W.heap[D]? = some (.deferred (some [])) → c.wpIn F n P Q { a with defers := { target := .collected D, args := #[] } :: a.defers } W) :
    (Code.rangeFunc g ps assign body).wpIn F n P Q a w := by
  refine wpIn_rangeFunc_ownH hro h1 hg hFg eg hseq hKt hKb hb0 hps I Ix hI hIx h0 (fun x a' W => ∃ b, Pa x b W ∧ a' = { tmps := upd x b a.tmps, defers := [] }) ?_ ?_ ?_ hdone hstop
  · rintro x a' u W W' row ⟨b, hb, rfl⟩ hg hr
    exact ⟨b, hPa x b u W W' row hb hg hr, rfl⟩
  · intro l pre x W K hI hK
    exact hassign l pre x W K hI fun b W' h1 h2 h3 h4 => hK _ W' h1 h2 h3 ⟨b, h4, rfl⟩
  · rintro l pre x a' W hl hr hI ⟨b, hb, rfl⟩ hN
    exact hbody l pre x b W hl hr hI hb hN
abbrev MOp (l : List Int) := { x : Nat × Rd // x ∈ opsL l }
theorem mval_inj {l : List Int} : ∀ {xs ys : List (MOp l)}, xs.map (·.1) = ys.map (·.1) → xs = ys
  | [], [], _ => rfl
  | [], _ :: _, h => by simp at h
  | _ :: _, [], h => by simp at h
  | x :: xs, y :: ys, h => by
    simp only [List.map_cons, List.cons.injEq] at h
    rw [Subtype.ext h.1, mval_inj h.2]
theorem attach_val (l : List Int) : (opsL l).attach.map (·.1) = opsL l := List.attach_map_subtype_val (opsL l)
theorem all_stopsM (n : Nat) (hn : 1 ≤ n) (Bs : Nat) (v : Value) (l : List Int) (w : World) (hlen : l.length ≤ 1000000)
    (hc : w.cell? ⟨Bs, 0, none⟩ = some v) (hb : Byt w v l) (hG : Glob w) :
    SeqStopsK Fence.wide n Tryd.prog 52 #[.pointer (some ⟨Bs, 0, none⟩)] (fun x : MOp l => encO x.1) (KpB Bs v l) (fun ys => ys = (opsL l).attach) (fun pre => pre.map (·.1) <+: opsL l) l.length w := fun q J Jx W hW hJ _ hY h0 => by
  refine (all1_in Bs v l n hn q (fun pre W => ∃ p : List (MOp l), p.map (·.1) = pre ∧ J p W) (fun pre W => ∃ p : List (MOp l), p.map (·.1) = pre ∧ Jx p W) W ?_ ?_ (cell_be hW hc) (hb.below hW) (hG.below hW) ⟨[], rfl, h0⟩ hlen).mono ?_
  · rintro s A B row ⟨p, hp, hs⟩ hg hr
    exact ⟨p, hp, hJ p A B row hs hg hr⟩
  · rintro pre x W1 ⟨p, rfl, hp⟩ hlt hx
    refine (hY p ⟨x, hx⟩ W1 hp (by simpa using hlt)).mono ?_
    rintro e W' (⟨he, hj, hk⟩ | ⟨he, hj⟩)
    · exact .inl ⟨he, ⟨p ++ [⟨x, _⟩], by simp, hj⟩, hk⟩
    · exact .inr ⟨he, ⟨p ++ [⟨x, _⟩], by simp, hj⟩⟩
  · rintro e W' ⟨he, ⟨ys, rfl, p, hp, hj⟩ | ⟨pre, hpre, p, rfl, hj⟩⟩
    · exact ⟨he, .inl ⟨p, mval_inj (hp.trans (attach_val l).symm), hj⟩⟩
    · exact ⟨he, .inr ⟨p, hpre, hj⟩⟩
def Chain (i : Nat) : List (Nat × Rd) → Prop
  | [] => True
  | x :: xs => x.1 = i ∧ Chain (i + x.2.size.toNat) xs
def endN (i : Nat) : List (Nat × Rd) → Nat
  | [] => i
  | x :: xs => endN (i + x.2.size.toNat) xs
theorem endN_snoc (xs : List (Nat × Rd)) (x : Nat × Rd) : ∀ i, endN i (xs ++ [x]) = endN i xs + x.2.size.toNat := by
  induction xs with
  | nil => intro i; rfl
  | cons y ys ih => intro i; simp only [List.cons_append, endN]; exact ih _
theorem chain_snoc (xs : List (Nat × Rd)) (x : Nat × Rd) : ∀ i, Chain i (xs ++ [x]) ↔ Chain i xs ∧ x.1 = endN i xs := by
  induction xs with
  | nil => intro i; simp [Chain, endN]
  | cons y ys ih => intro i; simp only [List.cons_append, Chain, endN, ih, and_assoc]
theorem chain_from (l : List Int) : ∀ f i, Chain i (opsFrom l f i) := by
  intro f
  induction f with
  | zero => intro i; trivial
  | succ f ih =>
    intro i
    rw [opsFrom]
    split
    · split
      · exact ⟨rfl, ih _⟩
      · trivial
    · trivial
theorem end_from2 (l : List Int) : ∀ f i, l.length ≤ i + f → i ≤ l.length → endN i (opsFrom l f i) ≤ l.length ∧ (endN i (opsFrom l f i) < l.length → (readAt l (endN i (opsFrom l f i))).err ≠ 0) := by
  intro f
  induction f with
  | zero => intro i h1 h2; exact ⟨h2, fun h => absurd h (by show ¬ i < l.length; omega)⟩
  | succ f ih =>
    intro i h1 h2
    rw [opsFrom]
    split
    · rename_i hi
      split
      · rename_i he
        have hs := readAt_size l i he
        have hen := readAt_end l i hi he
        exact ih (i + (readAt l i).size.toNat) (by omega) hen
      · rename_i he
        exact ⟨h2, fun _ => he⟩
    · rename_i hi
      exact ⟨h2, fun h => absurd h hi⟩
theorem read_behind (l : List Int) : (readS l (endN 0 (opsL l))).err ≠ 0 := by
  obtain ⟨h1, h2⟩ := end_from2 l l.length 0 (by omega) (by omega)
  change endN 0 (opsL l) ≤ l.length at h1
  change endN 0 (opsL l) < l.length → (readAt l (endN 0 (opsL l))).err ≠ 0 at h2
  by_cases h : endN 0 (opsL l) < l.length
  · rw [readS_at l _ h]; exact h2 h
  · have : endN 0 (opsL l) = l.length := by omega
    rw [this]
    unfold readS
    rw [if_neg (by omega), if_pos rfl]
    simp
end Go.Proofs.YtkphijabhoppnaaDoor
