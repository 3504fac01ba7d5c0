/- The sequence of bytecodes (brazier/code.All), as an iterator. -/
import Derived.Test.YtkphijabhoppnaaDoorCi
import Derived.RangeFuncNested
import Derived.RangeFuncBound
import Derived.RangeFuncCalls
import Derived.RangeFuncLeaves
import Derived.RangeFuncBox
import Derived.Shelf.Abstract
import Derived.Shelf.RegionOpen
import Derived.OwnWalkIn
import Derived.TacticsInMore
import Derived.LoopNIn
import Derived.LoopIn
namespace Go.Proofs.YtkphijabhoppnaaDoor
open Go.RowKit Go.Shelf
open Go.Proofs.YtkphijabhoppnaaDoorW.PrintWords (grown_of_below)
set_option linter.unusedSimpArgs false
set_option linter.unusedVariables false
attribute [local go_sem] Oper.semAt_some

/-- The bytecodes from a place on, up to the first error: places and what is read. -/
def opsFrom (l : List Int) : Nat → Nat → List (Nat × Rd)
  | 0, _ => []
  | f + 1, i => if i < l.length then (if (readAt l i).err = 0 then (i, readAt l i) :: opsFrom l f (i + (readAt l i).size.toNat) else []) else []
def opsL (l : List Int) : List (Nat × Rd) := opsFrom l l.length 0

def opV (r : Rd) : Value := .agg #[.int .i64 r.code, .int .i64 r.a, .int .i64 r.b, .int .i64 r.size]
def encO (x : Nat × Rd) : Array Value := #[.int .i64 x.1, opV x.2]

/-- What a round must keep: the bytes, the box, the tables. -/
def KpB (Bs : Nat) (v : Value) (l : List Int) (W W' : World) : Prop :=
  (Byt W v l → Byt W' v l) ∧ (W.cell? ⟨Bs, 0, none⟩ = some v → W'.cell? ⟨Bs, 0, none⟩ = some v) ∧ (Glob W → Glob W') ∧ (∀ (g : Nat) (cs : Array Value), W.heap[g]? = some (Obj.cells cs 25 (0, 0)) → W'.heap[g]? = some (Obj.cells cs 25 (0, 0))) ∧ W.heap.size ≤ W'.heap.size
theorem KpB.trans {Bs : Nat} {v : Value} {l : List Int} {A B C : World} (h : KpB Bs v l A B) (k : KpB Bs v l B C) : KpB Bs v l A C :=
  ⟨fun x => k.1 (h.1 x), fun x => k.2.1 (h.2.1 x), fun x => k.2.2.1 (h.2.2.1 x), fun g cs x => k.2.2.2.1 g cs (h.2.2.2.1 g cs x), Nat.le_trans h.2.2.2.2 k.2.2.2.2⟩
theorem KpB.below {Bs : Nat} {v : Value} {l : List Int} {A B : World} (h : Below A.heap.size A B) : KpB Bs v l A B :=
  ⟨fun x => x.below h, fun x => cell_be h x, fun x => x.below h, fun g cs x => row_kept h x, h.size⟩
theorem KpB.put {Bs : Nat} {v : Value} {l : List Int} {w : World} (W : World) (q : Nat) (o o' : Obj) (_ : w.heap.size ≤ q) (h : W.heap[q]? = some o) (hc : o.isCells = false) (_ : o.isWalk = false) : KpB Bs v l W (W.putObj q o') := by
  have hne : ∀ {a : Addr} {u : Value}, W.cell? a = some u → (W.putObj q o').cell? a = some u := by
    intro a u ha
    by_cases e : a.block = q
    · exfalso
      simp only [World.cell?, e, h] at ha
      cases o <;> simp_all [Obj.isCells]
    · exact (World.cell?_of_block (World.putObj_heap_other e)).trans ha
  have htab : ∀ {nm : String} {k : IntKind} {zs : List Int}, Lib.TabIs Tryd.prog W nm k zs → Lib.TabIs Tryd.prog (W.putObj q o') nm k zs := by
    intro nm k zs ht
    unfold Lib.TabIs World.var? at ht ⊢
    cases hg : Tryd.prog.globalNamed nm with
    | none => simp [hg] at ht
    | some g =>
      simp only [hg, Option.bind_some] at ht ⊢
      by_cases e : g = q
      · exfalso
        subst e
        rw [h] at ht
        cases o <;> simp_all [Obj.isCells]
      · rw [World.putObj_heap_other e]
        exact ht
  refine ⟨?h1, fun x => hne x, fun x => ⟨htab x.sp, htab x.pw⟩, fun g cs x => ?h2, by simp⟩
  case h2 =>
    have e : g ≠ q := by
      rintro rfl
      rw [h] at x
      cases x
      simp [Obj.isCells] at hc
    rw [World.putObj_heap_other e]
    exact x
  case h1 =>
    rintro ⟨A, c, e, h1, h2, h3, h4⟩
    refine ⟨A, c, e, h1, h2, h3, fun hn => ?_⟩
    obtain ⟨b, off, e2, hcl⟩ := h4 hn
    exact ⟨b, off, e2, fun j hj => hne (hcl j hj)⟩

theorem readAt_size (l : List Int) (i : Nat) (h : (readAt l i).err = 0) : 1 ≤ (readAt l i).size ∧ (readAt l i).size ≤ 3 := by
  unfold readAt at h ⊢
  split at h
  · simp at h
  · rename_i hx
    rw [if_neg hx]
    rcases opk_le (l.getD i 0) with hk | hk | hk | hk | hk <;> rw [hk] at h ⊢ <;> simp only [readK] at h ⊢
    · simp
    all_goals (split at h <;> rename_i hy <;> simp [hy] at h ⊢)
theorem readAt_end (l : List Int) (i : Nat) (hi : i < l.length) (h : (readAt l i).err = 0) : i + (readAt l i).size.toNat ≤ l.length := by
  unfold readAt at h ⊢
  split at h
  · simp at h
  · rename_i hx
    rw [if_neg hx]
    rcases opk_le (l.getD i 0) with hk | hk | hk | hk | hk <;> rw [hk] at h ⊢ <;> simp only [readK] at h ⊢
    · simp; omega
    all_goals (split at h <;> rename_i hy <;> simp [hy] at h ⊢ <;> omega)
theorem readS_at (l : List Int) (i : Nat) (h : i < l.length) : readS l i = readAt l i := by
  unfold readS
  rw [if_neg (by omega), if_neg (by omega), Int.toNat_natCast]

set_option maxHeartbeats 2000000 in
set_option maxRecDepth 100000 in
theorem all1_in (Bs : Nat) (v : Value) (l : List Int) (n : Nat) (hn : 1 ≤ n) (q : Nat) (J Jx : List (Nat × Rd) → World → Prop) (W : World)
    (hJ : AbidesFrom W.heap.size J)
    (hY : ∀ pre x W1, J pre W1 → pre.length < l.length → x ∈ opsL l → YieldAt Fence.wide (n - 1) Tryd.prog q (encO x) W1 fun e W' =>
      (e = .returned (.bool true) ∧ J (pre ++ [x]) W' ∧ KpB Bs v l W1 W') ∨ (e = .returned (.bool false) ∧ Jx (pre ++ [x]) W'))
    (hc : W.cell? ⟨Bs, 0, none⟩ = some v) (hb : Byt W v l) (hG : Glob W) (h0 : J [] W) (hlen : l.length ≤ 1000000) :
    CallsIn Fence.wide n Tryd.prog 52 #[.func (.yield q) #[] #[], .pointer (some ⟨Bs, 0, none⟩)] W fun e W' => (∃ u, e = .returned u) ∧
      ((∃ ys, ys = opsL l ∧ J ys W') ∨ (∃ pre, pre <+: opsL l ∧ Jx pre W')) := by
  refine callsIn_of_wp Tryd.func52 rfl trivial ?_ rfl
  simp only [Tryd.ntmps52, List.size_toArray, List.length_cons, List.length_nil, Nat.reduceAdd, Nat.reduceSub, Array.replicate_succ, Array.replicate_zero, List.push_toArray, List.append_toArray, List.nil_append, List.cons_append]
  obtain ⟨A, c, hv, hnc, hcm, hby, hcl⟩ := id hb
  have HB := Lib.hid hb
  have HGl := Lib.hid hG
  have HL := Lib.hid hlen
  clear hb hG hby hcl
  subst hv
  gi_wp2_with fail
  gi_loopw [3] (fun a wr => ∃ (i f : Nat) (pre : List (Nat × Rd)), a = .int .i64 i ∧ i ≤ l.length ∧ l.length ≤ i + f ∧ pre ++ opsFrom l f i = opsL l ∧ pre.length ≤ i ∧ J pre wr ∧ KpB Bs (.slice A l.length c) l W wr)
    (fun a _ => l.length - (intOf a).toNat)
  case atStart => exact ⟨0, l.length, [], rfl, by omega, by omega, rfl, by simp, h0, ⟨fun x => x, fun x => x, fun x => x, fun _ _ x => x, Nat.le_refl _⟩⟩
  case round =>
    obtain ⟨i, f, pre, rfl, hi, hf, hpre, hpl, hJs, hK⟩ := hrel
    have hcx := hK.2.1 hc
    have hbx := hK.1 HB.out
    have hgx := hK.2.2.1 HGl.out
    by_cases hlt : i < l.length
    · obtain ⟨r, hr⟩ : ∃ r, readAt l i = r := ⟨_, rfl⟩
      have hrd : ∀ w1 : World, Glob w1 → Byt w1 (.slice A l.length c) l → Calls Tryd.prog 13 #[.slice A l.length c, .int .i64 i] w1 fun e w' => e = .returned (Rd.val r) ∧ Below w1.heap.size w1 w' := by
        intro w1 h1 h2
        have := read_calls (.slice A l.length c) l i w1 h1 h2
        rwa [readS_at l i hlt, hr] at this
      have hsz1 := readAt_size l i
      have hend := readAt_end l i hlt
      rw [hr] at hsz1 hend
      obtain ⟨f', rfl⟩ : ∃ f', f = f' + 1 := ⟨f - 1, by omega⟩
      have hops : opsFrom l (f' + 1) i = if r.err = 0 then (i, r) :: opsFrom l f' (i + r.size.toNat) else [] := by
        rw [opsFrom, if_pos hlt, hr]
      have HRD := Lib.hid hrd
      have HOP := Lib.hid hops
      have HP := Lib.hid hpre
      have HLN := HL.out
      clear hrd hops hr hpre
      obtain ⟨code, ra, rb, size, err⟩ := r
      dsimp only at hsz1 hend
      by_cases he : err = 0
      · subst he
        have hs1 := hsz1 rfl
        have he1 := hend rfl
        clear hsz1 hend
        gi_wp2_with (first | (refine ⟨trivial, ?_⟩; gi_at_call 13; refine (callsIn_wide.2 (HRD.out _ hgx hbx)).mono ?_; rintro e w1 ⟨rfl, hb1⟩; unfold Rd.val; dsimp only; have HB1 := Lib.hid hb1; clear hb1; obtain ⟨fn, tmps, assign, body, hy, hR⟩ := hY pre (i, ⟨code, ra, rb, size, 0⟩) (w1.alloc (.cells #[.int .i64 code, .int .i64 ra, .int .i64 rb, .int .i64 size] 25)) (hJ _ _ _ none hJs (grown_of_below (HB1.out.alloc HB1.out.size _) none) (by simp)) (by omega) (by rw [← HP.out, HOP.out]; simp); dsimp only [encO, opV] at hy) | fail)
        refine hR.mono ?_
        rintro e W3 (⟨rfl, hJ3, hk3⟩ | ⟨rfl, hJx3⟩)
        · have hrow3 := hk3.2.2.2.1 w1.heap.size _ (heap_alloc_new w1 _)
          have hsz3 := cell_of_row _ _ 3 _ _ _ hrow3
          simp only [List.getElem?_toArray, List.getElem?_cons_succ, List.getElem?_cons_zero] at hsz3
          have HR3 := Lib.hid hrow3
          have HK3 := Lib.hid hk3
          clear hrow3 hk3
          gi_wp2_with fail
          go_roundw
          case rel =>
            refine ⟨i + size.toNat, f', pre ++ [(i, ⟨code, ra, rb, size, 0⟩)], ?_, by omega, by omega, ?_, ?_, hJ3, ?_⟩
            · have : ((i + size.toNat : Nat) : Int) = i + size := by omega
              rw [this]
            · rw [List.append_assoc, ← HP.out, HOP.out]
              simp
            · simp; omega
            · exact (hK.trans (KpB.below (HB1.out.alloc HB1.out.size _))).trans HK3.out
          case measure => simp only [intOf]; omega
        · gi_wp2_with fail
          refine bodyPost_ret (results_none rfl _ _ _) rfl ?_
          refine ⟨⟨_, rfl⟩, .inr ⟨_, ⟨opsFrom l f' (i + size.toNat), ?_⟩, hJx3⟩⟩
          rw [List.append_assoc, ← HP.out, HOP.out]
          simp
      · have hb1 : (err != 0) = true := by simpa using he
        have hb2 : (err == 0) = false := by simpa using he
        have HE := Lib.hid he
        clear hsz1 hend he
        gi_wp2_with (first | (refine ⟨trivial, ?_⟩; gi_at_call 13; refine (callsIn_wide.2 (HRD.out _ hgx hbx)).mono ?_; rintro e w1 ⟨rfl, hb3⟩; unfold Rd.val; dsimp only; have HB1 := Lib.hid hb3; clear hb3) | fail)
        try (refine ⟨fun _ h => (by cases h), ?_⟩; gi_wp2_with fail)
        refine bodyPost_ret (results_none rfl _ _ _) rfl ?_
        refine ⟨⟨_, rfl⟩, .inl ⟨pre, ?_, hJ _ _ _ none hJs (grown_of_below (HB1.out.alloc HB1.out.size _) none) (by simp)⟩⟩
        rw [← HP.out, HOP.out, if_neg HE.out, List.append_nil]
    · have hil : i = l.length := by omega
      have hpe : pre = opsL l := by
        rw [← hpre]
        cases f with
        | zero => simp [opsFrom]
        | succ f => rw [opsFrom, if_neg hlt, List.append_nil]
      have HP := Lib.hid hpe
      clear hpe hpre
      subst hil
      gi_wp2_with fail
      go_end0
      exact ⟨⟨_, rfl⟩, .inl ⟨_, HP.out, hJs⟩⟩

/-- A bytecode that has been read: its code and its operands are within their bounds. -/
def GoodOp (x : Nat × Rd) : Prop := (0 ≤ x.2.code ∧ x.2.code ≤ 40) ∧ (-32768 ≤ x.2.a ∧ x.2.a ≤ 32767) ∧ (-32768 ≤ x.2.b ∧ x.2.b ≤ 32767) ∧ x.1 ≤ 1000000 ∧ (1 ≤ x.2.size ∧ x.2.size ≤ 3)
abbrev GOp := { x : Nat × Rd // GoodOp x }
theorem opsFrom_mem (l : List Int) : ∀ (f i : Nat) (x : Nat × Rd), x ∈ opsFrom l f i → i ≤ x.1 ∧ x.1 < l.length ∧ x.2 = readAt l x.1 ∧ x.2.err = 0 := by
  intro f
  induction f with
  | zero => intro i x h; simp [opsFrom] at h
  | succ f ih =>
    intro i x h
    rw [opsFrom] at h
    split at h
    · rename_i hi
      split at h
      · rename_i he
        rcases List.mem_cons.1 h with rfl | h
        · exact ⟨Nat.le_refl _, hi, rfl, he⟩
        · have := ih _ x h
          exact ⟨by omega, this.2⟩
      · simp at h
    · simp at h
theorem readAt_good (l : List Int) (hby : ∀ x ∈ l, 0 ≤ x ∧ x ≤ 255) (i : Nat) (hi : i < l.length) (h : (readAt l i).err = 0) :
    (0 ≤ (readAt l i).code ∧ (readAt l i).code ≤ 40) ∧ (-32768 ≤ (readAt l i).a ∧ (readAt l i).a ≤ 32767) ∧ (-32768 ≤ (readAt l i).b ∧ (readAt l i).b ≤ 32767) := by
  have byte : ∀ j, j < l.length → 0 ≤ l.getD j 0 ∧ l.getD j 0 ≤ 255 := fun j hj => hby (l.getD j 0) (by rw [List.getD_eq_getElem?_getD, List.getElem?_eq_getElem hj]; exact List.getElem_mem hj)
  have h0 := byte i hi
  unfold readAt at h ⊢
  split at h
  · simp at h
  · rename_i hx
    rw [if_neg hx]
    rcases opk_le (l.getD i 0) with hk | hk | hk | hk | hk <;> rw [hk] at h ⊢ <;> simp only [readK] at h ⊢
    · exact ⟨⟨h0.1, show l.getD i 0 ≤ 40 by omega⟩, by omega, by omega⟩
    · split at h
      · rename_i hy; rw [if_pos hy]; have := byte _ hy; exact ⟨⟨h0.1, show l.getD i 0 ≤ 40 by omega⟩, by dsimp only; omega, by dsimp only; omega⟩
      · simp at h
    · split at h
      · rename_i hy; rw [if_pos hy]; have := byte _ hy; exact ⟨⟨h0.1, show l.getD i 0 ≤ 40 by omega⟩, by dsimp only [s8]; split <;> omega, by dsimp only; omega⟩
      · simp at h
    · split at h
      · rename_i hy; rw [if_pos hy]; have := byte _ hy; have := byte (i + 1) (by omega); exact ⟨⟨h0.1, show l.getD i 0 ≤ 40 by omega⟩, by dsimp only [s16]; split <;> omega, by dsimp only; omega⟩
      · simp at h
    · split at h
      · rename_i hy; rw [if_pos hy]; have := byte _ hy; have := byte (i + 1) (by omega); exact ⟨⟨h0.1, show l.getD i 0 ≤ 40 by omega⟩, by dsimp only; omega, by dsimp only; omega⟩
      · simp at h
theorem ops_good (l : List Int) (hby : ∀ x ∈ l, 0 ≤ x ∧ x ≤ 255) (hlen : l.length ≤ 1000000) (x : Nat × Rd) (h : x ∈ opsL l) : GoodOp x := by
  obtain ⟨_, h1, h2, h3⟩ := opsFrom_mem l _ _ x h
  obtain ⟨p, r⟩ := x
  dsimp only at h1 h2 h3
  subst h2
  have := readAt_good l hby p h1 h3
  exact ⟨this.1, this.2.1, this.2.2, by dsimp only; omega, readAt_size l p h3⟩
/-- The bytecodes, each with its bounds. -/
def opsG (l : List Int) (hby : ∀ x ∈ l, 0 ≤ x ∧ x ≤ 255) (hlen : l.length ≤ 1000000) : List GOp := (opsL l).attach.map fun x => ⟨x.1, ops_good l hby hlen x.1 x.2⟩
theorem opsG_val (l : List Int) (hby : ∀ x ∈ l, 0 ≤ x ∧ x ≤ 255) (hlen : l.length ≤ 1000000) : (opsG l hby hlen).map (·.1) = opsL l := by
  unfold opsG
  rw [List.map_map]
  exact List.attach_map_subtype_val (opsL l)
theorem val_inj : ∀ {xs ys : List GOp}, xs.map (·.1) = ys.map (·.1) → xs = ys
  | [], [], _ => rfl
  | [], _ :: _, h => by simp at h
  | _ :: _, [], h => by simp at h
  | x :: xs, y :: ys, h => by
    simp only [List.map_cons, List.cons.injEq] at h
    rw [Subtype.ext h.1, val_inj h.2]

theorem all_calls (a : Option Addr) (len cap : Nat) (w : World) :
    Calls Tryd.prog 20 #[.slice a len cap] w fun e w' => e = .returned (.func (.func 52) #[] #[.pointer (some ⟨w.heap.size, 0, none⟩)]) ∧ w.alloc (.cells #[.slice a len cap] 22) = w' := by
  go_enter Tryd.func20, Tryd.ntmps20
  go_wp2_with fail
  go_ret
  exact ⟨rfl, rfl⟩

theorem all_stops (n : Nat) (hn : 1 ≤ n) (Bs : Nat) (v : Value) (l : List Int) (w : World) (hlen : l.length ≤ 1000000)
    (hc : w.cell? ⟨Bs, 0, none⟩ = some v) (hb : Byt w v l) (hG : Glob w) :
    SeqStopsK Fence.wide n Tryd.prog 52 #[.pointer (some ⟨Bs, 0, none⟩)] encO (KpB Bs v l) (fun ys => ys = opsL l) (fun pre => pre <+: opsL l) l.length w := fun q J Jx W hW hJ _ hY h0 =>
  all1_in Bs v l n hn q J Jx W hJ (fun pre x W1 h1 h2 _ => hY pre x W1 h1 h2) (cell_be hW hc) (hb.below hW) (hG.below hW) h0 hlen

theorem all_stopsG (n : Nat) (hn : 1 ≤ n) (Bs : Nat) (v : Value) (l : List Int) (w : World) (hlen : l.length ≤ 1000000) (hby : ∀ x ∈ l, 0 ≤ x ∧ x ≤ 255)
    (hc : w.cell? ⟨Bs, 0, none⟩ = some v) (hb : Byt w v l) (hG : Glob w) :
    SeqStopsK Fence.wide n Tryd.prog 52 #[.pointer (some ⟨Bs, 0, none⟩)] (fun x : GOp => encO x.1) (KpB Bs v l) (fun ys => ys = opsG l hby hlen) (fun pre => pre <+: opsG l hby hlen) l.length w := fun q J Jx W hW hJ _ hY h0 => by
  refine (all1_in Bs v l n hn q (fun pre W => ∃ p : List GOp, p.map (·.1) = pre ∧ J p W) (fun pre W => ∃ p : List GOp, p.map (·.1) = pre ∧ Jx p W) W ?_ ?_ (cell_be hW hc) (hb.below hW) (hG.below hW) ⟨[], rfl, h0⟩ hlen).mono ?_
  · rintro s A B row ⟨p, hp, hs⟩ hg hr
    exact ⟨p, hp, hJ p A B row hs hg hr⟩
  · rintro pre x W1 ⟨p, rfl, hp⟩ hlt hx
    refine (hY p ⟨x, ops_good l hby hlen x hx⟩ W1 hp (by simpa using hlt)).mono ?_
    rintro e W' (⟨he, hj, hk⟩ | ⟨he, hj⟩)
    · exact .inl ⟨he, ⟨p ++ [⟨x, _⟩], by simp, hj⟩, hk⟩
    · exact .inr ⟨he, ⟨p ++ [⟨x, _⟩], by simp, hj⟩⟩
  · rintro e W' ⟨he, ⟨ys, rfl, p, hp, hj⟩ | ⟨pre, hpre, p, rfl, hj⟩⟩
    · exact ⟨he, .inl ⟨p, val_inj (hp.trans (opsG_val l hby hlen).symm), hj⟩⟩
    · refine ⟨he, .inr ⟨p, ?_, hj⟩⟩
      obtain ⟨t, ht⟩ := hpre
      rw [← opsG_val l hby hlen] at ht
      refine ⟨(opsG l hby hlen).drop p.length, ?_⟩
      apply val_inj
      rw [List.map_append, List.map_drop, ← ht]
      simp
end Go.Proofs.YtkphijabhoppnaaDoor
