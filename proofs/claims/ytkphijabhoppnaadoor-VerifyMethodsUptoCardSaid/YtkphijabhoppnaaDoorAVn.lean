/- All bytecodes' operands are asked (brazier/verify.walk.operands). -/
import Derived.Test.YtkphijabhoppnaaDoorAVl
import Derived.Test.YtkphijabhoppnaaDoorABd
import Derived.Test.YtkphijabhoppnaaDoorAVo
import Derived.Deep.RegionWith
import Derived.Sort.QuietIn
import Derived.Deep.CutRange
import Derived.Sort.CutIn
import Derived.Stop.RegionWithIn
namespace Go.Proofs.YtkphijabhoppnaaDoor
open Go.RowKit Go.Shelf Go.Proofs.YtkphijabhoppnaaDoorW.PrintWords
set_option linter.unusedSimpArgs false
set_option linter.unusedVariables false
attribute [local go_sem] Oper.semAt_some
def badS (p : Pg) (m : Meth) (n : Nat) (begins : List Bool) (x : Nat × Rd) : Int :=
  if namedS p m x.2.code x.2.a x.2.b = false then 24
  else if (x.2.code = 25 ∨ x.2.code = 26) ∧ ((x.1 : Int) + x.2.a < 0 ∨ (n : Int) ≤ (x.1 : Int) + x.2.a ∨ begins.getD ((x.1 : Int) + x.2.a).toNat false = false) then 23
  else 0
def opndS (p : Pg) (m : Meth) (n : Nat) (begins : List Bool) : List (Nat × Rd) → Int × Int
  | [] => (0, 0)
  | x :: xs => if badS p m n begins x = 0 then opndS p m n begins xs else ((x.1 : Int), badS p m n begins x)
theorem opnd_snoc (p : Pg) (m : Meth) (n : Nat) (begins : List Bool) (x : Nat × Rd) : ∀ xs, (opndS p m n begins xs).2 = 0 → opndS p m n begins (xs ++ [x]) = if badS p m n begins x = 0 then (0, 0) else ((x.1 : Int), badS p m n begins x)
  | [], _ => rfl
  | y :: ys, h => by
    rw [List.cons_append, opndS]
    rw [opndS] at h
    by_cases hy : badS p m n begins y = 0
    · rw [if_pos hy] at h ⊢
      exact opnd_snoc p m n begins x ys h
    · rw [if_neg hy] at h
      exact absurd h hy
theorem opnd_prefix (p : Pg) (m : Meth) (n : Nat) (begins : List Bool) : ∀ {xs ys : List (Nat × Rd)}, xs <+: ys → (opndS p m n begins xs).2 ≠ 0 → opndS p m n begins ys = opndS p m n begins xs
  | [], _, _, h => absurd rfl h
  | x :: xs, [], h, _ => absurd (List.prefix_nil.1 h) (by simp)
  | x :: xs, y :: ys, h, hn => by
    obtain ⟨rfl, h2⟩ := List.cons_prefix_cons.1 h
    rw [opndS] at hn ⊢
    rw [opndS]
    by_cases hx : badS p m n begins x = 0
    · rw [if_pos hx] at hn
      rw [if_pos hx, if_pos hx]
      exact opnd_prefix p m n begins h2 hn
    · rw [if_neg hx, if_neg hx]
theorem opnd_zero (p : Pg) (m : Meth) (n : Nat) (begins : List Bool) : ∀ xs : List (Nat × Rd), (opndS p m n begins xs).2 = 0 → opndS p m n begins xs = (0, 0)
  | [], _ => rfl
  | x :: xs, h => by
    rw [opndS] at h ⊢
    by_cases hx : badS p m n begins x = 0
    · rw [if_pos hx] at h ⊢
      exact opnd_zero p m n begins xs h
    · rw [if_neg hx] at h
      exact absurd h hx
theorem cells4n {W : World} {g : Nat} {x y z t : Value} {q : TypeId} {fr : Nat × Nat} (h : W.heap[g]? = some (Obj.cells #[x, y, z, t] q fr)) :
    W.cell? ⟨g, 0, none⟩ = some x ∧ W.cell? ⟨g, 1, none⟩ = some y ∧ W.cell? ⟨g, 2, none⟩ = some z ∧ W.cell? ⟨g, 3, none⟩ = some t :=
  ⟨(cell_of_row _ _ 0 _ _ _ h).trans rfl, (cell_of_row _ _ 1 _ _ _ h).trans rfl, (cell_of_row _ _ 2 _ _ _ h).trans rfl, (cell_of_row _ _ 3 _ _ _ h).trans rfl⟩
theorem ld_ne {L : Array Bool} {i k : Nat} (h : i ≠ k) : (L.setIfInBounds i true).getD k false = L.getD k false := by
  rw [Array.getD_eq_getD_getElem?, Array.getElem?_setIfInBounds_ne h, ← Array.getD_eq_getD_getElem?]
theorem results97 {tmps : Array Value} {W : World} {g h : Nat} {x y : Int} (h2 : tmps.getD 2 undef = .pointer (some ⟨g, 0, none⟩)) (h3 : tmps.getD 3 undef = .pointer (some ⟨h, 0, none⟩)) (hb : Boxed W g 3 (.int .i64 x)) (hc : Boxed W h 26 (.int .i64 y)) :
    (results Tryd.f97 tmps).run Tryd.prog W = .ok (.tuple #[.int .i64 x, .int .i64 y]) W := by
  have c1 := hb.cell
  have c2 := hc.cell
  have h2' : tmps[2]?.getD undef = .pointer (some ⟨g, 0, none⟩) := by simpa using h2
  have h3' : tmps[3]?.getD undef = .pointer (some ⟨h, 0, none⟩) := by simpa using h3
  simp only [results, Tryd.results97]
  simp [h2', h3', go_sem, c1, c2]
theorem boxed_put {W : World} {B D : Nat} {t : TypeId} {v : Value} {o : Obj} (h : Boxed W B t v) (hne : B ≠ D) : Boxed (W.putObj D o) B t v := (World.putObj_heap_other hne).trans h
theorem keeps_below {w w' : World} (h : Below w.heap.size w w') : KeepsOthers w w' := ⟨h.size, fun k o hk _ => row_kept h hk⟩
section
variable {E : Env} {w0 W : World} {sh : List Shp} {has : List Bool}
def OpPost (E : Env) (W : World) (e : Ending) (w' : World) : Prop :=
  e = .returned (.tuple #[.int .i64 (opndS E.p E.m E.n E.begins (opsL E.m.f4)).1, .int .i64 (opndS E.p E.m E.n E.begins (opsL E.m.f4)).2]) ∧ Below W.heap.size W w'
set_option maxRecDepth 100000 in
set_option maxHeartbeats 3200000 in
theorem opnd_calls (hE : Out E w0) (hW : WkI E w0.heap.size W sh has) (hb : Below w0.heap.size w0 W) (hl : E.m.f4.length ≤ 4096) :
    Calls Tryd.prog 97 #[.pointer (some ⟨E.G, 0, none⟩)] W (OpPost E W) := by
  obtain ⟨y0, y1, y2, y3, y4, y5, y6, y7⟩ := cells11b hW.blk
  obtain ⟨x8, x9, x10⟩ := cells11 hW.blk
  have hG : E.G < W.heap.size := block_lt_of_cell x8
  have hEW : Out E W := hE.below hb
  have HW := Lib.hid hW
  have HB := Lib.hid hb
  have HE := Lib.hid hEW
  clear hW hb hE hEW
  refine (callsIn_wide (n := 6)).1 ?_
  refine callsIn_of_wp_marks Tryd.func97 rfl trivial ?_ rfl
  simp only [Tryd.ntmps97, List.size_toArray, List.length_cons, List.length_nil, Nat.reduceAdd, Nat.reduceSub, Array.replicate_succ, Array.replicate_zero, List.push_toArray, List.append_toArray, List.nil_append, List.cons_append]
  gi_upto_region 1 with fail
  have b1 := (((Boxed.new W 126 (.pointer (some ⟨E.G, 0, none⟩))).alloc (.cells #[.int .i64 0] 3)).alloc (.cells #[.int .i64 0] 26))
  have b2 := ((Boxed.new (W.alloc (.cells #[.pointer (some ⟨E.G, 0, none⟩)] 126)) 3 (.int .i64 0)).alloc (.cells #[.int .i64 0] 26))
  have b3 := (Boxed.new ((W.alloc (.cells #[.pointer (some ⟨E.G, 0, none⟩)] 126)).alloc (.cells #[.int .i64 0] 3)) 26 (.int .i64 0))
  simp only [World.size_alloc] at b2 b3
  have hB0 : Below W.heap.size W (((W.alloc (.cells #[.pointer (some ⟨E.G, 0, none⟩)] 126)).alloc (.cells #[.int .i64 0] 3)).alloc (.cells #[.int .i64 0] 26)) := (((Below.refl _ W).alloc (Nat.le_refl _) _).alloc (by simp) _).alloc (by simp; omega) _
  have hsz : (((W.alloc (.cells #[.pointer (some ⟨E.G, 0, none⟩)] 126)).alloc (.cells #[.int .i64 0] 3)).alloc (.cells #[.int .i64 0] 26)).heap.size = W.heap.size + 3 := by simp
  obtain ⟨V, hV⟩ : ∃ V, (((W.alloc (.cells #[.pointer (some ⟨E.G, 0, none⟩)] 126)).alloc (.cells #[.int .i64 0] 3)).alloc (.cells #[.int .i64 0] 26)) = V := ⟨_, rfl⟩
  rw [hV] at b1 b2 b3 hB0 hsz ⊢
  clear hV
  have c1 := b1.cell
  have z7 := cell_be hB0 y7
  have B1 := Lib.hid b1
  have B2 := Lib.hid b2
  have B3 := Lib.hid b3
  have HB0 := Lib.hid hB0
  have HSZ := Lib.hid hsz
  clear y0 y1 y2 y3 y4 y5 y6 y7 x8 x9 x10 b1 b2 b3 hB0 hsz
  gi_wp2_with (first | (refine ⟨trivial, ?_⟩; gi_at_call 20; refine (callsIn_wide.2 (all_calls _ _ _ _)).mono ?_; rintro e w' ⟨rfl, rfl⟩) | fail)
  clear z7 c1
  have b4 := Boxed.new V 22 (.slice E.B4 E.m.f4.length E.d4)
  have hbn : Below V.heap.size V (V.alloc (.cells #[.slice E.B4 E.m.f4.length E.d4] 22)) := (Below.refl _ _).alloc (Nat.le_refl _) _
  have hs0 : (V.alloc (.cells #[.slice E.B4 E.m.f4.length E.d4] 22)).heap.size = W.heap.size + 4 := by have := HSZ.out; simp; omega
  have hvs := HSZ.out
  have a1 := B1.out.alloc (.cells #[.slice E.B4 E.m.f4.length E.d4] 22)
  have a2 := B2.out.alloc (.cells #[.slice E.B4 E.m.f4.length E.d4] 22)
  have a3 := B3.out.alloc (.cells #[.slice E.B4 E.m.f4.length E.d4] 22)
  have hB1 := HB0.out.trans (hbn.mono HB0.out.size)
  obtain ⟨W0, hW0⟩ : ∃ W0, V.alloc (.cells #[.slice E.B4 E.m.f4.length E.d4] 22) = W0 := ⟨_, rfl⟩
  rw [hW0] at b4 hs0 a1 a2 a3 hB1 ⊢
  clear hW0 hbn
  rw [hvs] at b4 ⊢
  have A1 := Lib.hid a1
  have A2 := Lib.hid a2
  have A3 := Lib.hid a3
  have A4 := Lib.hid b4
  have HS0 := Lib.hid hs0
  have HB1 := Lib.hid hB1
  clear HB0 HSZ B1 B2 B3 a1 a2 a3 b4 hB1 hs0 hvs
  have hsw := HS0.out
  refine rangeFunc_fr rfl (by omega) (gf := 52) (lb := #[.pointer (some ⟨W.heap.size + 3, 0, none⟩)]) rfl trivial (enters_of Tryd.func52 (by kernel_rfl) rfl)
    (all_stopsM _ (by omega) (W.heap.size + 3) _ E.m.f4 W0 (by omega) A4.out.cell (HE.out.by'.below HB1.out) (HE.out.g.below HB1.out)) KpB.trans KpB.put (Below.refl _ _) (fun _ => rfl)
    (fun pre X => (opndS E.p E.m E.n E.begins (pre.map (·.1))).2 = 0 ∧ Below W0.heap.size W0 X)
    (fun cc pre X => cc = .ret ∧ (opndS E.p E.m E.n E.begins (pre.map (·.1))).2 ≠ 0 ∧ (Boxed X (W.heap.size + 1) 3 (.int .i64 (opndS E.p E.m E.n E.begins (pre.map (·.1))).1) ∧ Boxed X (W.heap.size + 1 + 1) 26 (.int .i64 (opndS E.p E.m E.n E.begins (pre.map (·.1))).2)) ∧ Below W.heap.size W X)
    ?hI ?hIx ?h0
    (fun x b X => W0.heap.size ≤ b ∧ X.heap[b]? = some (Obj.cells #[.int .i64 x.1.2.code, .int .i64 x.1.2.a, .int .i64 x.1.2.b, .int .i64 x.1.2.size] 25 (0, 0)))
    ?hPa (fun x b a => ((((a.setIfInBounds 13 (.int .i64 x.1.1)).setIfInBounds 14 (opV x.1.2)).setIfInBounds 4 (.int .i64 x.1.1)).setIfInBounds 5 (.pointer (some ⟨b, 0, none⟩)))) ?assign ?body ?done ?stop
  case hI => exact fun pre A B row hs hg hr => ⟨hs.1, ownFrom_below (Nat.le_refl _) (by omega) pre A B row hs.2 hg hr⟩
  case hIx => exact fun cc pre A B row hs hg hr => ⟨hs.1, hs.2.1, ⟨Own.from (boxed_own _ _ (fun pre : List (MOp E.m.f4) => .int .i64 (opndS E.p E.m E.n E.begins (pre.map (·.1))).1)) _ pre A B row hs.2.2.1.1 hg hr, Own.from (boxed_own _ _ (fun pre : List (MOp E.m.f4) => .int .i64 (opndS E.p E.m E.n E.begins (pre.map (·.1))).2)) _ pre A B row hs.2.2.1.2 hg hr⟩, ownFrom_below (Nat.le_refl _) (by omega) pre A B row hs.2.2.2 hg hr⟩
  case h0 => exact ⟨rfl, Below.refl _ _⟩
  case hPa => exact fun x b u X Y row hs hg hr => ⟨hs.1, row_own b (fun (_ : Unit) => #[.int .i64 x.1.2.code, .int .i64 x.1.2.a, .int .i64 x.1.2.b, .int .i64 x.1.2.size]) 25 () X Y row hs.2 hg (fun r e => (hr r e).2)⟩
  case assign =>
    rintro q pre x X K ⟨h1, hbX⟩ hK
    simp only [encO, opV]
    gi_wp2
    exact hK _ _ ((KeepsOthers.alloc _ _).from _) (KpB.below ((Below.refl _ X).alloc (Nat.le_refl _) _)) ⟨h1, hbX.alloc hbX.size _⟩ ⟨hbX.size, heap_alloc_new X _⟩
  case body =>
    rintro q pre x b X hq ⟨r, hr⟩ ⟨h1, hbX⟩ ⟨hb1, hbx⟩ hlt
    have hWX : Below W.heap.size W X := HB1.out.trans (hbX.mono HB1.out.size)
    have hEX := HE.out.below hWX
    have hWKX := HW.out.below hWX
    obtain ⟨y0, y1, y2, y3, y4, y5, y6, y7⟩ := cells11b hWKX.blk
    obtain ⟨x8, x9, x10⟩ := cells11 hWKX.blk
    have d1 := boxed_be A1.out hbX (by omega)
    have d2 := boxed_be A2.out hbX (by omega)
    have d3 := boxed_be A3.out hbX (by omega)
    have c1 := d1.cell
    have hsn := fun y : MOp E.m.f4 => opnd_snoc E.p E.m E.n E.begins y.1 (pre.map (·.1)) h1
    obtain ⟨⟨p, ⟨code, ra, rb, size, err⟩⟩, hm⟩ := x
    obtain ⟨-, m2, m3, m4⟩ := opsFrom_mem E.m.f4 _ _ _ hm
    have hsn' := hsn ⟨(p, ⟨code, ra, rb, size, err⟩), hm⟩
    dsimp only at m2 m3 m4 hbx hsn'
    have hra : I64 ra := by
      obtain ⟨_, _, _, _, _, hby, _⟩ := HE.out.by'
      have hg := readAt_good E.m.f4 hby p m2 (by rw [← m3]; exact m4)
      rw [← m3] at hg
      have h1 : -32768 ≤ ra ∧ ra ≤ 32767 := hg.2.1
      exact ⟨by have := h1.1; omega, by have := h1.2; omega⟩
    obtain ⟨nb, hnb⟩ : ∃ nb, namedS E.p E.m code ra rb = nb := ⟨_, rfl⟩
    have hN : ∀ Y, Below X.heap.size X Y → Calls Tryd.prog 59 #[.agg #[.slice E.A0 E.p.pool.length E.c0, .slice E.A1 E.p.classes.length E.c1, .slice E.A2 E.p.methods.length E.c2], .agg #[.slice E.B0 E.m.f0.length E.d0, .int .i64 E.m.f1, .slice E.B2 E.m.f2.length E.d2, .int .i64 E.m.f3, .slice E.B4 E.m.f4.length E.d4], .agg #[.int .i64 code, .int .i64 ra, .int .i64 rb, .int .i64 size]] Y (fun e w' => e = .returned (.bool nb) ∧ Below Y.heap.size Y w') := fun Y hY => by
      have := named_calls code ra rb size (hEX.pg.below hY) (hEX.mt.below hY) hra
      rwa [hnb] at this
    obtain ⟨o0, o1, o2, o3⟩ := cells4n hbx
    have HN := Lib.hid hN
    have HSN := Lib.hid hsn'
    have HNB := Lib.hid hnb
    have D1 := Lib.hid d1
    have D2 := Lib.hid d2
    have D3 := Lib.hid d3
    have HBX := Lib.hid hbX
    have HWX := Lib.hid hWX
    have OX := Lib.hid hbx
    have WX := Lib.hid hWKX
    have HQ := Lib.hid hr
    have HM := Lib.hid (And.intro m2 (And.intro m3 m4))
    have HSW := Lib.hid hsw
    clear hsn hsn' hN hnb d1 d2 d3 hbX hWX hEX hWKX hbx hr m2 m3 m4 h1 hsw hq
    gi_upto_region 4 with fail
    simp only [List.setIfInBounds_toArray, List.set_cons_succ, List.set_cons_zero]
    gi_cut [25] from 15 (fun s Y => s = .bool (!nb) ∧ Below X.heap.size X Y)
    case first =>
      refine wpIn_region_any (by kernel_rfl) ?_
      refine any_inv (S := fun L a' w' => ∃ s15 s16 s17 s18 s19 s20 s21 s22 s23 s24 s25 : Value, a' = { tmps := #[.pointer (some ⟨E.G, 0, none⟩), .pointer (some ⟨W.heap.size, 0, none⟩), .pointer (some ⟨W.heap.size + 1, 0, none⟩), .pointer (some ⟨W.heap.size + 1 + 1, 0, none⟩), .int .i64 p, .pointer (some ⟨b, 0, none⟩), undef, .pointer (some ⟨E.G, 0, none⟩), .pointer (some ⟨E.G, 0, none⟩), .pointer (some ⟨E.G, 3, none⟩), .pointer (some ⟨E.G, 7, none⟩), .slice E.B4 E.m.f4.length E.d4, .func (.func 52) #[] #[.pointer (some ⟨W.heap.size + 3, 0, none⟩)], .int .i64 p, opV ⟨code, ra, rb, size, err⟩, s15, s16, s17, s18, s19, s20, s21, s22, s23, s24, s25, undef, undef, undef, undef, undef, undef, undef, undef, undef, undef, undef, undef, undef, undef, undef, undef, undef, undef, undef, undef, undef, undef, undef, undef, undef, undef, undef, undef, undef, undef, undef, undef, undef, undef, undef], defers := [] } ∧ L.size = 11 ∧ (L.getD 9 false = true ∨ ∃ k, w' = X.drewN k) ∧ Below X.heap.size X w' ∧ (L.getD 0 false = true → s15 = .pointer (some ⟨E.G, 0, none⟩)) ∧ (L.getD 1 false = true → s16 = .pointer (some ⟨E.G, 0, none⟩)) ∧ (L.getD 2 false = true → s17 = .pointer (some ⟨E.G, 0, none⟩)) ∧ (L.getD 3 false = true → s18 = .agg #[.slice E.A0 E.p.pool.length E.c0, .slice E.A1 E.p.classes.length E.c1, .slice E.A2 E.p.methods.length E.c2]) ∧ (L.getD 4 false = true → s19 = .pointer (some ⟨E.G, 0, none⟩)) ∧ (L.getD 5 false = true → s20 = .pointer (some ⟨E.G, 0, none⟩)) ∧ (L.getD 6 false = true → s21 = .pointer (some ⟨E.G, 3, none⟩)) ∧ (L.getD 7 false = true → s22 = .agg #[.slice E.B0 E.m.f0.length E.d0, .int .i64 E.m.f1, .slice E.B2 E.m.f2.length E.d2, .int .i64 E.m.f3, .slice E.B4 E.m.f4.length E.d4]) ∧ (L.getD 8 false = true → s23 = .agg #[.int .i64 code, .int .i64 ra, .int .i64 rb, .int .i64 size]) ∧ (L.getD 9 false = true → s24 = .bool nb) ∧ (L.getD 10 false = true → s25 = .bool (!nb))) ?step ?fin _ _ _ _ ?h0 ?hc
      case h0 => exact ⟨undef, undef, undef, undef, undef, undef, undef, undef, undef, undef, undef, rfl, by simp, .inr ⟨1, rfl⟩, below_drewN0 (Below.refl _ _) 1, by simp, by simp, by simp, by simp, by simp, by simp, by simp, by simp, by simp, by simp, by simp⟩
      case hc => decide
      case fin =>
        rintro L a' w' ⟨s15, s16, s17, s18, s19, s20, s21, s22, s23, s24, s25, rfl, hL, hw, hbw, e0, e1, e2, e3, e4, e5, e6, e7, e8, e9, e10⟩ hr
        have hr' := List.filter_eq_nil_iff.1 hr
        have r0 := hr' 0 (by decide)
        have r1 := hr' 1 (by decide)
        have r2 := hr' 2 (by decide)
        have r3 := hr' 3 (by decide)
        have r4 := hr' 4 (by decide)
        have r5 := hr' 5 (by decide)
        have r6 := hr' 6 (by decide)
        have r7 := hr' 7 (by decide)
        have r8 := hr' 8 (by decide)
        have r9 := hr' 9 (by decide)
        have r10 := hr' 10 (by decide)
        simp [Region.binds, hL] at r0 r1 r2 r3 r4 r5 r6 r7 r8 r9 r10
        simp [r0] at r1
        simp [r1] at r2
        simp [r2] at r3
        simp [r4] at r5
        simp [r5] at r6
        simp [r6] at r7
        simp [r3, r7, r8] at r9
        simp [r9] at r10
        obtain rfl := e10 (by simp [hL, r10])
        clear hr hr'
        gi_wp2_with fail
        gi_meet
        exact ⟨rfl, hbw⟩
      case step =>
        rintro L a' w' ⟨s15, s16, s17, s18, s19, s20, s21, s22, s23, s24, s25, rfl, hL, hw, hbw, e0, e1, e2, e3, e4, e5, e6, e7, e8, e9, e10⟩ i hi
        rw [Region.ready, List.mem_filter] at hi
        obtain ⟨hi1, hi2⟩ := hi
        have hi3 : i < 11 := List.mem_range.1 hi1
        have hcs : i = 0 ∨ i = 1 ∨ i = 2 ∨ i = 3 ∨ i = 4 ∨ i = 5 ∨ i = 6 ∨ i = 7 ∨ i = 8 ∨ i = 9 ∨ i = 10 := by omega
        clear hi1 hi3
        rcases hcs with rfl | rfl | rfl | rfl | rfl | rfl | rfl | rfl | rfl | rfl | rfl
        · have hdep := hi2
          have c1' := cell_be hbw c1
          clear c1 o0 o1 o2 o3 y0 y1 y2 y3 y4 y5 y6 y7 x8 x9 x10
          refine wpOpIn_step rfl fun K' hK => ?_
          rw [if_pos (by kernel_rfl)]
          refine ⟨fun _ _ => trivial, ?_⟩
          go_simp
          exact hK _ _ ⟨_, _, _, _, _, _, _, _, _, _, _, rfl, by simp [hL], hw.imp (fun h => (ld_ne (by decide)).trans h) id, hbw, fun _ => rfl, fun h => e1 ((ld_ne (by decide)).symm.trans h), fun h => e2 ((ld_ne (by decide)).symm.trans h), fun h => e3 ((ld_ne (by decide)).symm.trans h), fun h => e4 ((ld_ne (by decide)).symm.trans h), fun h => e5 ((ld_ne (by decide)).symm.trans h), fun h => e6 ((ld_ne (by decide)).symm.trans h), fun h => e7 ((ld_ne (by decide)).symm.trans h), fun h => e8 ((ld_ne (by decide)).symm.trans h), fun h => e9 ((ld_ne (by decide)).symm.trans h), fun h => e10 ((ld_ne (by decide)).symm.trans h)⟩
        · have hdep := hi2
          have d0 : L.getD 0 false = true := by simp [Region.binds] at hdep ⊢; simp [hdep]
          obtain rfl := e0 d0
          clear c1 o0 o1 o2 o3 y0 y1 y2 y3 y4 y5 y6 y7 x8 x9 x10
          refine wpOpIn_step rfl fun K' hK => ?_
          rw [if_pos (by kernel_rfl)]
          refine ⟨fun _ _ => trivial, ?_⟩
          go_simp
          exact hK _ _ ⟨_, _, _, _, _, _, _, _, _, _, _, rfl, by simp [hL], hw.imp (fun h => (ld_ne (by decide)).trans h) id, hbw, fun h => e0 ((ld_ne (by decide)).symm.trans h), fun _ => rfl, fun h => e2 ((ld_ne (by decide)).symm.trans h), fun h => e3 ((ld_ne (by decide)).symm.trans h), fun h => e4 ((ld_ne (by decide)).symm.trans h), fun h => e5 ((ld_ne (by decide)).symm.trans h), fun h => e6 ((ld_ne (by decide)).symm.trans h), fun h => e7 ((ld_ne (by decide)).symm.trans h), fun h => e8 ((ld_ne (by decide)).symm.trans h), fun h => e9 ((ld_ne (by decide)).symm.trans h), fun h => e10 ((ld_ne (by decide)).symm.trans h)⟩
        · have hdep := hi2
          have d1 : L.getD 1 false = true := by simp [Region.binds] at hdep ⊢; simp [hdep]
          obtain rfl := e1 d1
          clear c1 o0 o1 o2 o3 y0 y1 y2 y3 y4 y5 y6 y7 x8 x9 x10
          refine wpOpIn_step rfl fun K' hK => ?_
          rw [if_pos (by kernel_rfl)]
          refine ⟨fun _ _ => trivial, ?_⟩
          go_simp
          exact hK _ _ ⟨_, _, _, _, _, _, _, _, _, _, _, rfl, by simp [hL], hw.imp (fun h => (ld_ne (by decide)).trans h) id, hbw, fun h => e0 ((ld_ne (by decide)).symm.trans h), fun h => e1 ((ld_ne (by decide)).symm.trans h), fun _ => rfl, fun h => e3 ((ld_ne (by decide)).symm.trans h), fun h => e4 ((ld_ne (by decide)).symm.trans h), fun h => e5 ((ld_ne (by decide)).symm.trans h), fun h => e6 ((ld_ne (by decide)).symm.trans h), fun h => e7 ((ld_ne (by decide)).symm.trans h), fun h => e8 ((ld_ne (by decide)).symm.trans h), fun h => e9 ((ld_ne (by decide)).symm.trans h), fun h => e10 ((ld_ne (by decide)).symm.trans h)⟩
        · have hdep := hi2
          have d2 : L.getD 2 false = true := by simp [Region.binds] at hdep ⊢; simp [hdep]
          obtain rfl := e2 d2
          have y0' := cell_be hbw y0
          have y1' := cell_be hbw y1
          have y2' := cell_be hbw y2
          clear c1 o0 o1 o2 o3 y0 y1 y2 y3 y4 y5 y6 y7 x8 x9 x10
          refine wpOpIn_step rfl fun K' hK => ?_
          rw [if_pos (by kernel_rfl)]
          refine ⟨fun _ _ => trivial, ?_⟩
          go_simp
          exact hK _ _ ⟨_, _, _, _, _, _, _, _, _, _, _, rfl, by simp [hL], hw.imp (fun h => (ld_ne (by decide)).trans h) id, hbw, fun h => e0 ((ld_ne (by decide)).symm.trans h), fun h => e1 ((ld_ne (by decide)).symm.trans h), fun h => e2 ((ld_ne (by decide)).symm.trans h), fun _ => rfl, fun h => e4 ((ld_ne (by decide)).symm.trans h), fun h => e5 ((ld_ne (by decide)).symm.trans h), fun h => e6 ((ld_ne (by decide)).symm.trans h), fun h => e7 ((ld_ne (by decide)).symm.trans h), fun h => e8 ((ld_ne (by decide)).symm.trans h), fun h => e9 ((ld_ne (by decide)).symm.trans h), fun h => e10 ((ld_ne (by decide)).symm.trans h)⟩
        · have hdep := hi2
          have c1' := cell_be hbw c1
          clear c1 o0 o1 o2 o3 y0 y1 y2 y3 y4 y5 y6 y7 x8 x9 x10
          refine wpOpIn_step rfl fun K' hK => ?_
          rw [if_pos (by kernel_rfl)]
          refine ⟨fun _ _ => trivial, ?_⟩
          go_simp
          exact hK _ _ ⟨_, _, _, _, _, _, _, _, _, _, _, rfl, by simp [hL], hw.imp (fun h => (ld_ne (by decide)).trans h) id, hbw, fun h => e0 ((ld_ne (by decide)).symm.trans h), fun h => e1 ((ld_ne (by decide)).symm.trans h), fun h => e2 ((ld_ne (by decide)).symm.trans h), fun h => e3 ((ld_ne (by decide)).symm.trans h), fun _ => rfl, fun h => e5 ((ld_ne (by decide)).symm.trans h), fun h => e6 ((ld_ne (by decide)).symm.trans h), fun h => e7 ((ld_ne (by decide)).symm.trans h), fun h => e8 ((ld_ne (by decide)).symm.trans h), fun h => e9 ((ld_ne (by decide)).symm.trans h), fun h => e10 ((ld_ne (by decide)).symm.trans h)⟩
        · have hdep := hi2
          have d4 : L.getD 4 false = true := by simp [Region.binds] at hdep ⊢; simp [hdep]
          obtain rfl := e4 d4
          clear c1 o0 o1 o2 o3 y0 y1 y2 y3 y4 y5 y6 y7 x8 x9 x10
          refine wpOpIn_step rfl fun K' hK => ?_
          rw [if_pos (by kernel_rfl)]
          refine ⟨fun _ _ => trivial, ?_⟩
          go_simp
          exact hK _ _ ⟨_, _, _, _, _, _, _, _, _, _, _, rfl, by simp [hL], hw.imp (fun h => (ld_ne (by decide)).trans h) id, hbw, fun h => e0 ((ld_ne (by decide)).symm.trans h), fun h => e1 ((ld_ne (by decide)).symm.trans h), fun h => e2 ((ld_ne (by decide)).symm.trans h), fun h => e3 ((ld_ne (by decide)).symm.trans h), fun h => e4 ((ld_ne (by decide)).symm.trans h), fun _ => rfl, fun h => e6 ((ld_ne (by decide)).symm.trans h), fun h => e7 ((ld_ne (by decide)).symm.trans h), fun h => e8 ((ld_ne (by decide)).symm.trans h), fun h => e9 ((ld_ne (by decide)).symm.trans h), fun h => e10 ((ld_ne (by decide)).symm.trans h)⟩
        · have hdep := hi2
          have d5 : L.getD 5 false = true := by simp [Region.binds] at hdep ⊢; simp [hdep]
          obtain rfl := e5 d5
          clear c1 o0 o1 o2 o3 y0 y1 y2 y3 y4 y5 y6 y7 x8 x9 x10
          refine wpOpIn_step rfl fun K' hK => ?_
          rw [if_pos (by kernel_rfl)]
          refine ⟨fun _ _ => trivial, ?_⟩
          go_simp
          exact hK _ _ ⟨_, _, _, _, _, _, _, _, _, _, _, rfl, by simp [hL], hw.imp (fun h => (ld_ne (by decide)).trans h) id, hbw, fun h => e0 ((ld_ne (by decide)).symm.trans h), fun h => e1 ((ld_ne (by decide)).symm.trans h), fun h => e2 ((ld_ne (by decide)).symm.trans h), fun h => e3 ((ld_ne (by decide)).symm.trans h), fun h => e4 ((ld_ne (by decide)).symm.trans h), fun h => e5 ((ld_ne (by decide)).symm.trans h), fun _ => rfl, fun h => e7 ((ld_ne (by decide)).symm.trans h), fun h => e8 ((ld_ne (by decide)).symm.trans h), fun h => e9 ((ld_ne (by decide)).symm.trans h), fun h => e10 ((ld_ne (by decide)).symm.trans h)⟩
        · have hdep := hi2
          have d6 : L.getD 6 false = true := by simp [Region.binds] at hdep ⊢; simp [hdep]
          obtain rfl := e6 d6
          have y3' := cell_be hbw y3
          have y4' := cell_be hbw y4
          have y5' := cell_be hbw y5
          have y6' := cell_be hbw y6
          have y7' := cell_be hbw y7
          clear c1 o0 o1 o2 o3 y0 y1 y2 y3 y4 y5 y6 y7 x8 x9 x10
          refine wpOpIn_step rfl fun K' hK => ?_
          rw [if_pos (by kernel_rfl)]
          refine ⟨fun _ _ => trivial, ?_⟩
          go_simp
          exact hK _ _ ⟨_, _, _, _, _, _, _, _, _, _, _, rfl, by simp [hL], hw.imp (fun h => (ld_ne (by decide)).trans h) id, hbw, fun h => e0 ((ld_ne (by decide)).symm.trans h), fun h => e1 ((ld_ne (by decide)).symm.trans h), fun h => e2 ((ld_ne (by decide)).symm.trans h), fun h => e3 ((ld_ne (by decide)).symm.trans h), fun h => e4 ((ld_ne (by decide)).symm.trans h), fun h => e5 ((ld_ne (by decide)).symm.trans h), fun h => e6 ((ld_ne (by decide)).symm.trans h), fun _ => rfl, fun h => e8 ((ld_ne (by decide)).symm.trans h), fun h => e9 ((ld_ne (by decide)).symm.trans h), fun h => e10 ((ld_ne (by decide)).symm.trans h)⟩
        · have hdep := hi2
          have o0' := cell_be hbw o0
          have o1' := cell_be hbw o1
          have o2' := cell_be hbw o2
          have o3' := cell_be hbw o3
          clear c1 o0 o1 o2 o3 y0 y1 y2 y3 y4 y5 y6 y7 x8 x9 x10
          refine wpOpIn_step rfl fun K' hK => ?_
          rw [if_pos (by kernel_rfl)]
          refine ⟨fun _ _ => trivial, ?_⟩
          go_simp
          exact hK _ _ ⟨_, _, _, _, _, _, _, _, _, _, _, rfl, by simp [hL], hw.imp (fun h => (ld_ne (by decide)).trans h) id, hbw, fun h => e0 ((ld_ne (by decide)).symm.trans h), fun h => e1 ((ld_ne (by decide)).symm.trans h), fun h => e2 ((ld_ne (by decide)).symm.trans h), fun h => e3 ((ld_ne (by decide)).symm.trans h), fun h => e4 ((ld_ne (by decide)).symm.trans h), fun h => e5 ((ld_ne (by decide)).symm.trans h), fun h => e6 ((ld_ne (by decide)).symm.trans h), fun h => e7 ((ld_ne (by decide)).symm.trans h), fun _ => rfl, fun h => e9 ((ld_ne (by decide)).symm.trans h), fun h => e10 ((ld_ne (by decide)).symm.trans h)⟩
        · have hdep := hi2
          have d3 : L.getD 3 false = true := by simp [Region.binds] at hdep ⊢; simp [hdep]
          obtain rfl := e3 d3
          have d7 : L.getD 7 false = true := by simp [Region.binds] at hdep ⊢; simp [hdep]
          obtain rfl := e7 d7
          have d8 : L.getD 8 false = true := by simp [Region.binds] at hdep ⊢; simp [hdep]
          obtain rfl := e8 d8
          clear c1 o0 o1 o2 o3 y0 y1 y2 y3 y4 y5 y6 y7 x8 x9 x10
          refine wpOpIn_step rfl fun K' hK => ?_
          rw [if_pos (by kernel_rfl)]
          refine ⟨fun _ _ => trivial, ?_⟩
          go_simp
          gi_at_call 59
          refine (CallsIn.inRound q (callsIn_wide.2 (HN.out _ hbw))).mono ?_
          rintro e w4 ⟨rfl, hb4⟩
          exact hK _ _ ⟨_, _, _, _, _, _, _, _, _, _, _, rfl, by simp [hL], .inl (by simp [hL]), hbw.trans (hb4.mono hbw.size), fun h => e0 ((ld_ne (by decide)).symm.trans h), fun h => e1 ((ld_ne (by decide)).symm.trans h), fun h => e2 ((ld_ne (by decide)).symm.trans h), fun h => e3 ((ld_ne (by decide)).symm.trans h), fun h => e4 ((ld_ne (by decide)).symm.trans h), fun h => e5 ((ld_ne (by decide)).symm.trans h), fun h => e6 ((ld_ne (by decide)).symm.trans h), fun h => e7 ((ld_ne (by decide)).symm.trans h), fun h => e8 ((ld_ne (by decide)).symm.trans h), fun _ => rfl, fun h => e10 ((ld_ne (by decide)).symm.trans h)⟩
        · have hdep := hi2
          have d9 : L.getD 9 false = true := by simp [Region.binds] at hdep ⊢; simp [hdep]
          obtain rfl := e9 d9
          clear c1 o0 o1 o2 o3 y0 y1 y2 y3 y4 y5 y6 y7 x8 x9 x10
          refine wpOpIn_step rfl fun K' hK => ?_
          rw [if_pos (by kernel_rfl)]
          refine ⟨fun _ _ => trivial, ?_⟩
          go_simp
          exact hK _ _ ⟨_, _, _, _, _, _, _, _, _, _, _, rfl, by simp [hL], hw.imp (fun h => (ld_ne (by decide)).trans h) id, hbw, fun h => e0 ((ld_ne (by decide)).symm.trans h), fun h => e1 ((ld_ne (by decide)).symm.trans h), fun h => e2 ((ld_ne (by decide)).symm.trans h), fun h => e3 ((ld_ne (by decide)).symm.trans h), fun h => e4 ((ld_ne (by decide)).symm.trans h), fun h => e5 ((ld_ne (by decide)).symm.trans h), fun h => e6 ((ld_ne (by decide)).symm.trans h), fun h => e7 ((ld_ne (by decide)).symm.trans h), fun h => e8 ((ld_ne (by decide)).symm.trans h), fun h => e9 ((ld_ne (by decide)).symm.trans h), fun _ => rfl⟩
    case rest =>
      obtain ⟨rfl, hbY⟩ := hcut
      have hX := HBX.out.size
      have hsw := HSW.out
      have u2 := boxed_be D2.out hbY (by omega)
      have u3 := boxed_be D3.out hbY (by omega)
      have k2 := u2.cell
      have k3 := u3.cell
      have f2 := u2.frozen
      have f3 := u3.frozen
      have p0 := cell_be hbY o0
      have p1 := cell_be hbY o1
      have U2 := Lib.hid u2
      have U3 := Lib.hid u3
      clear o0 o1 o2 o3 y0 y1 y2 y3 y4 y5 y6 y7 x8 x9 x10 u2 u3 hX hsw
      cases nb with
      | false =>
        gi_wp2_with fail
        have hv : opndS E.p E.m E.n E.begins ((pre ++ [(⟨(p, ⟨code, ra, rb, size, err⟩), hm⟩ : MOp E.m.f4)]).map (fun x => x.1)) = ((p : Int), 24) := by
          rw [List.map_append]
          refine HSN.out.trans ?_
          have hb24 : badS E.p E.m E.n E.begins (p, ⟨code, ra, rb, size, err⟩) = 24 := by unfold badS; rw [if_pos HNB.out]
          rw [hb24]
          rfl
        refine ⟨(((keeps_below hbY).trans (KeepsOthers.setCell _ _ _)).trans (KeepsOthers.setCell _ _ _)).from _, rfl, ?_, ?_, ?_⟩
        · rw [hv]; show (24 : Int) ≠ 0; decide
        · rw [hv]; exact ⟨(U2.out.set _).other (by omega) _, (U3.out.other (by omega) _).set _⟩
        · exact ((HWX.out.trans (hbY.mono HWX.out.size)).setCell (p := ⟨W.heap.size + 1, 0, none⟩) (by simp) _).setCell (p := ⟨W.heap.size + 1 + 1, 0, none⟩) (by simp; omega) _
      | true =>
        have hX := HBX.out.size
        have hsw := HSW.out
        have hm2 := HM.out.1
        have hlE := HE.out.len
        have hEn := WX.out.hn
        have p2 : (0 : Int) ≤ (p : Int) := by omega
        have p3 : (p : Int) < 4096 := by omega
        have hra : -32768 ≤ ra ∧ ra ≤ 32767 := by
          obtain ⟨_, _, _, _, _, hby, _⟩ := HE.out.by'
          have hg := readAt_good E.m.f4 hby p HM.out.1 (by rw [← HM.out.2.1]; exact HM.out.2.2)
          rw [← HM.out.2.1] at hg
          exact hg.2.1
        obtain ⟨ra0, ra1⟩ := hra
        have wk := WX.out.below hbY
        obtain ⟨x8, x9, x10⟩ := cells11 wk.blk
        have c1 := (boxed_be D1.out hbY (by omega)).cell
        have hlb := wk.lb
        have hbb := wk.bb
        have hok : opndS E.p E.m E.n E.begins ((pre ++ [(⟨(p, ⟨code, ra, rb, size, err⟩), hm⟩ : MOp E.m.f4)]).map (fun x => x.1)) = if badS E.p E.m E.n E.begins (p, ⟨code, ra, rb, size, err⟩) = 0 then (0, 0) else ((p : Int), badS E.p E.m E.n E.begins (p, ⟨code, ra, rb, size, err⟩)) := by
          rw [List.map_append]; exact HSN.out
        have hnm : ¬ (namedS E.p E.m code ra rb = false) := by rw [HNB.out]; simp
        have HBY := Lib.hid hbY
        have F2 := Lib.hid f2
        have F3 := Lib.hid f3
        by_cases hj : code = 25 ∨ code = 26
        · rcases hj with rfl | rfl
          · by_cases hneg : (p : Int) + ra < 0
            · have t1 : decide ((p : Int) + ra < 0) = true := decide_eq_true hneg
              have hv : opndS E.p E.m E.n E.begins ((pre ++ [(⟨(p, ⟨25, ra, rb, size, err⟩), hm⟩ : MOp E.m.f4)]).map (fun x => x.1)) = ((p : Int), 23) := by
                rw [hok]
                have hb23 : badS E.p E.m E.n E.begins (p, ⟨25, ra, rb, size, err⟩) = 23 := by
                  unfold badS
                  rw [if_neg hnm, if_pos ⟨.inl rfl, .inl hneg⟩]
                rw [hb23]
                rfl
              have HV := Lib.hid hv
              clear hok hnm hv wk hm2 hlE hbb hbY
              gi_wp2_with fail
              refine ⟨(((keeps_below HBY.out).trans (KeepsOthers.setCell _ _ _)).trans (KeepsOthers.setCell _ _ _)).from _, rfl, ?_, ?_, ?_⟩
              · rw [HV.out]; show (23 : Int) ≠ 0; decide
              · rw [HV.out]; exact ⟨(U2.out.set _).other (by omega) _, (U3.out.other (by omega) _).set _⟩
              · exact ((HWX.out.trans (HBY.out.mono HWX.out.size)).setCell (p := ⟨W.heap.size + 1, 0, none⟩) (by simp) _).setCell (p := ⟨W.heap.size + 1 + 1, 0, none⟩) (by simp; omega) _
            · have t1 : decide ((p : Int) + ra < 0) = false := decide_eq_false hneg
              by_cases hge : (E.n : Int) ≤ (p : Int) + ra
              · have t2 : decide ((E.n : Int) ≤ (p : Int) + ra) = true := decide_eq_true hge
                have hv : opndS E.p E.m E.n E.begins ((pre ++ [(⟨(p, ⟨25, ra, rb, size, err⟩), hm⟩ : MOp E.m.f4)]).map (fun x => x.1)) = ((p : Int), 23) := by
                  rw [hok]
                  have hb23 : badS E.p E.m E.n E.begins (p, ⟨25, ra, rb, size, err⟩) = 23 := by
                    unfold badS
                    rw [if_neg hnm, if_pos ⟨.inl rfl, .inr (.inl hge)⟩]
                  rw [hb23]
                  rfl
                have HV := Lib.hid hv
                clear hok hnm hv wk hm2 hlE hbb hbY
                gi_wp2_with fail
                refine ⟨(((keeps_below HBY.out).trans (KeepsOthers.setCell _ _ _)).trans (KeepsOthers.setCell _ _ _)).from _, rfl, ?_, ?_, ?_⟩
                · rw [HV.out]; show (23 : Int) ≠ 0; decide
                · rw [HV.out]; exact ⟨(U2.out.set _).other (by omega) _, (U3.out.other (by omega) _).set _⟩
                · exact ((HWX.out.trans (HBY.out.mono HWX.out.size)).setCell (p := ⟨W.heap.size + 1, 0, none⟩) (by simp) _).setCell (p := ⟨W.heap.size + 1 + 1, 0, none⟩) (by simp; omega) _
              · have t2 : decide ((E.n : Int) ≤ (p : Int) + ra) = false := decide_eq_false hge
                obtain ⟨q, hq⟩ : ∃ q : Nat, (p : Int) + ra = q := ⟨((p : Int) + ra).toNat, by omega⟩
                have q0 : (0 : Int) ≤ (q : Int) := by omega
                have q1 : (q : Int) < (E.n : Int) := by omega
                have xq := cell_bools hbb q (by omega)
                rw [hq] at t1 t2
                cases hbq : E.begins.getD q false with
                | false =>
                  rw [hbq] at xq
                  have hv : opndS E.p E.m E.n E.begins ((pre ++ [(⟨(p, ⟨25, ra, rb, size, err⟩), hm⟩ : MOp E.m.f4)]).map (fun x => x.1)) = ((p : Int), 23) := by
                    rw [hok]
                    have hb23 : badS E.p E.m E.n E.begins (p, ⟨25, ra, rb, size, err⟩) = 23 := by
                      unfold badS
                      rw [if_neg hnm, if_pos ⟨.inl rfl, .inr (.inr (by rw [hq]; exact hbq))⟩]
                    rw [hb23]
                    rfl
                  have HV := Lib.hid hv
                  clear hok hnm hv wk hm2 hlE hbb hbY
                  gi_upto_region 8 with fail
                  try simp only [hq]
                  gi_wp2_with fail
                  refine ⟨(((keeps_below HBY.out).trans (KeepsOthers.setCell _ _ _)).trans (KeepsOthers.setCell _ _ _)).from _, rfl, ?_, ?_, ?_⟩
                  · rw [HV.out]; show (23 : Int) ≠ 0; decide
                  · rw [HV.out]; exact ⟨(U2.out.set _).other (by omega) _, (U3.out.other (by omega) _).set _⟩
                  · exact ((HWX.out.trans (HBY.out.mono HWX.out.size)).setCell (p := ⟨W.heap.size + 1, 0, none⟩) (by simp) _).setCell (p := ⟨W.heap.size + 1 + 1, 0, none⟩) (by simp; omega) _
                | true =>
                  rw [hbq] at xq
                  have hv : (opndS E.p E.m E.n E.begins ((pre ++ [(⟨(p, ⟨25, ra, rb, size, err⟩), hm⟩ : MOp E.m.f4)]).map (fun x => x.1))).2 = 0 := by
                    rw [hok]
                    have hb0 : badS E.p E.m E.n E.begins (p, ⟨25, ra, rb, size, err⟩) = 0 := by
                      unfold badS
                      rw [if_neg hnm, if_neg]
                      rintro ⟨-, h | h | h⟩
                      · exact hneg h
                      · exact hge h
                      · dsimp only at h
                        rw [hq] at h
                        rw [show ((q : Int).toNat) = q from rfl, hbq] at h
                        cases h
                    rw [hb0]
                    rfl
                  have HV := Lib.hid hv
                  clear hok hnm hv wk hm2 hlE hbb hbY
                  gi_upto_region 8 with fail
                  try simp only [hq]
                  gi_wp2_with fail
                  exact ⟨(keeps_below HBY.out).from _, KpB.below HBY.out, HV.out, by first | exact HBX.out.trans (HBY.out.mono HBX.out.size) | (rw [← hsw]; exact HBX.out.trans (HBY.out.mono HBX.out.size))⟩
          · by_cases hneg : (p : Int) + ra < 0
            · have t1 : decide ((p : Int) + ra < 0) = true := decide_eq_true hneg
              have hv : opndS E.p E.m E.n E.begins ((pre ++ [(⟨(p, ⟨26, ra, rb, size, err⟩), hm⟩ : MOp E.m.f4)]).map (fun x => x.1)) = ((p : Int), 23) := by
                rw [hok]
                have hb23 : badS E.p E.m E.n E.begins (p, ⟨26, ra, rb, size, err⟩) = 23 := by
                  unfold badS
                  rw [if_neg hnm, if_pos ⟨.inr rfl, .inl hneg⟩]
                rw [hb23]
                rfl
              have HV := Lib.hid hv
              clear hok hnm hv wk hm2 hlE hbb hbY
              gi_wp2_with fail
              refine ⟨(((keeps_below HBY.out).trans (KeepsOthers.setCell _ _ _)).trans (KeepsOthers.setCell _ _ _)).from _, rfl, ?_, ?_, ?_⟩
              · rw [HV.out]; show (23 : Int) ≠ 0; decide
              · rw [HV.out]; exact ⟨(U2.out.set _).other (by omega) _, (U3.out.other (by omega) _).set _⟩
              · exact ((HWX.out.trans (HBY.out.mono HWX.out.size)).setCell (p := ⟨W.heap.size + 1, 0, none⟩) (by simp) _).setCell (p := ⟨W.heap.size + 1 + 1, 0, none⟩) (by simp; omega) _
            · have t1 : decide ((p : Int) + ra < 0) = false := decide_eq_false hneg
              by_cases hge : (E.n : Int) ≤ (p : Int) + ra
              · have t2 : decide ((E.n : Int) ≤ (p : Int) + ra) = true := decide_eq_true hge
                have hv : opndS E.p E.m E.n E.begins ((pre ++ [(⟨(p, ⟨26, ra, rb, size, err⟩), hm⟩ : MOp E.m.f4)]).map (fun x => x.1)) = ((p : Int), 23) := by
                  rw [hok]
                  have hb23 : badS E.p E.m E.n E.begins (p, ⟨26, ra, rb, size, err⟩) = 23 := by
                    unfold badS
                    rw [if_neg hnm, if_pos ⟨.inr rfl, .inr (.inl hge)⟩]
                  rw [hb23]
                  rfl
                have HV := Lib.hid hv
                clear hok hnm hv wk hm2 hlE hbb hbY
                gi_wp2_with fail
                refine ⟨(((keeps_below HBY.out).trans (KeepsOthers.setCell _ _ _)).trans (KeepsOthers.setCell _ _ _)).from _, rfl, ?_, ?_, ?_⟩
                · rw [HV.out]; show (23 : Int) ≠ 0; decide
                · rw [HV.out]; exact ⟨(U2.out.set _).other (by omega) _, (U3.out.other (by omega) _).set _⟩
                · exact ((HWX.out.trans (HBY.out.mono HWX.out.size)).setCell (p := ⟨W.heap.size + 1, 0, none⟩) (by simp) _).setCell (p := ⟨W.heap.size + 1 + 1, 0, none⟩) (by simp; omega) _
              · have t2 : decide ((E.n : Int) ≤ (p : Int) + ra) = false := decide_eq_false hge
                obtain ⟨q, hq⟩ : ∃ q : Nat, (p : Int) + ra = q := ⟨((p : Int) + ra).toNat, by omega⟩
                have q0 : (0 : Int) ≤ (q : Int) := by omega
                have q1 : (q : Int) < (E.n : Int) := by omega
                have xq := cell_bools hbb q (by omega)
                rw [hq] at t1 t2
                cases hbq : E.begins.getD q false with
                | false =>
                  rw [hbq] at xq
                  have hv : opndS E.p E.m E.n E.begins ((pre ++ [(⟨(p, ⟨26, ra, rb, size, err⟩), hm⟩ : MOp E.m.f4)]).map (fun x => x.1)) = ((p : Int), 23) := by
                    rw [hok]
                    have hb23 : badS E.p E.m E.n E.begins (p, ⟨26, ra, rb, size, err⟩) = 23 := by
                      unfold badS
                      rw [if_neg hnm, if_pos ⟨.inr rfl, .inr (.inr (by rw [hq]; exact hbq))⟩]
                    rw [hb23]
                    rfl
                  have HV := Lib.hid hv
                  clear hok hnm hv wk hm2 hlE hbb hbY
                  gi_upto_region 8 with fail
                  try simp only [hq]
                  gi_wp2_with fail
                  refine ⟨(((keeps_below HBY.out).trans (KeepsOthers.setCell _ _ _)).trans (KeepsOthers.setCell _ _ _)).from _, rfl, ?_, ?_, ?_⟩
                  · rw [HV.out]; show (23 : Int) ≠ 0; decide
                  · rw [HV.out]; exact ⟨(U2.out.set _).other (by omega) _, (U3.out.other (by omega) _).set _⟩
                  · exact ((HWX.out.trans (HBY.out.mono HWX.out.size)).setCell (p := ⟨W.heap.size + 1, 0, none⟩) (by simp) _).setCell (p := ⟨W.heap.size + 1 + 1, 0, none⟩) (by simp; omega) _
                | true =>
                  rw [hbq] at xq
                  have hv : (opndS E.p E.m E.n E.begins ((pre ++ [(⟨(p, ⟨26, ra, rb, size, err⟩), hm⟩ : MOp E.m.f4)]).map (fun x => x.1))).2 = 0 := by
                    rw [hok]
                    have hb0 : badS E.p E.m E.n E.begins (p, ⟨26, ra, rb, size, err⟩) = 0 := by
                      unfold badS
                      rw [if_neg hnm, if_neg]
                      rintro ⟨-, h | h | h⟩
                      · exact hneg h
                      · exact hge h
                      · dsimp only at h
                        rw [hq] at h
                        rw [show ((q : Int).toNat) = q from rfl, hbq] at h
                        cases h
                    rw [hb0]
                    rfl
                  have HV := Lib.hid hv
                  clear hok hnm hv wk hm2 hlE hbb hbY
                  gi_upto_region 8 with fail
                  try simp only [hq]
                  gi_wp2_with fail
                  exact ⟨(keeps_below HBY.out).from _, KpB.below HBY.out, HV.out, by first | exact HBX.out.trans (HBY.out.mono HBX.out.size) | (rw [← hsw]; exact HBX.out.trans (HBY.out.mono HBX.out.size))⟩
        · have t3 : (code == 25) = false := by simpa using fun h => hj (.inl h)
          have t4 : (code == 26) = false := by simpa using fun h => hj (.inr h)
          have hv : (opndS E.p E.m E.n E.begins ((pre ++ [(⟨(p, ⟨code, ra, rb, size, err⟩), hm⟩ : MOp E.m.f4)]).map (fun x => x.1))).2 = 0 := by
            rw [hok]
            have hb0 : badS E.p E.m E.n E.begins (p, ⟨code, ra, rb, size, err⟩) = 0 := by
              unfold badS
              rw [if_neg hnm, if_neg (fun h => hj h.1)]
            rw [hb0]
            rfl
          have HV := Lib.hid hv
          clear hok hnm hv wk hm2 hlE hbb hbY
          gi_wp2_with fail
          exact ⟨(keeps_below HBY.out).from _, KpB.below HBY.out, HV.out, by first | exact HBX.out.trans (HBY.out.mono HBX.out.size) | (rw [← hsw]; exact HBX.out.trans (HBY.out.mono HBX.out.size))⟩
  case done =>
    rintro D xs X hD rfl ⟨h1, hbX⟩ hK
    have hval : opndS E.p E.m E.n E.begins (opsL E.m.f4) = (0, 0) := by
      rw [attach_val] at h1
      exact opnd_zero _ _ _ _ _ h1
    have d2 := boxed_be A2.out hbX (by omega)
    have d3 := boxed_be A3.out hbX (by omega)
    have k2 := d2.cell
    have k3 := d3.cell
    have f2 := d2.frozen
    have f3 := d3.frozen
    have HV := Lib.hid hval
    have D2 := Lib.hid d2
    have D3 := Lib.hid d3
    have HBX := Lib.hid (HB1.out.trans (hbX.mono HB1.out.size))
    have HKK := Lib.hid hK
    have HSW := Lib.hid hsw
    have HDD := Lib.hid hD
    clear hval d2 d3 hbX hK h1 hsw hD
    gi_wp2_with fail
    have hsw := HSW.out
    have hD := HDD.out
    have n1 : W.heap.size + 1 ≠ D := by omega
    have n2 : W.heap.size + 1 + 1 ≠ D := by omega
    have e1 : ((X.setCell ⟨W.heap.size + 1, 0, none⟩ (.int .i64 0)).setCell ⟨W.heap.size + 1 + 1, 0, none⟩ (.int .i64 0)).heap[D]? = some (.deferred (some [])) :=
      (heap_setCell_other _ ⟨W.heap.size + 1 + 1, 0, none⟩ D _ (Ne.symm n2)).trans ((heap_setCell_other _ ⟨W.heap.size + 1, 0, none⟩ D _ (Ne.symm n1)).trans HKK.out)
    refine ⟨by simp, .inl ⟨_, _, rfl, run_takeDeferred e1, ?_⟩⟩
    refine ⟨_, results97 rfl rfl (boxed_put ((D2.out.set _).other (by omega) _) n1) (boxed_put ((D3.out.other (by omega) _).set _) n2), ?_⟩
    rw [OpPost, HV.out]
    exact ⟨rfl, ((HBX.out.setCell (p := ⟨W.heap.size + 1, 0, none⟩) (by simp) _).setCell (p := ⟨W.heap.size + 1 + 1, 0, none⟩) (by simp; omega) _).trans (belowK_b (w := W) (Nat.le_refl _) _ D _ _ (by omega) e1 rfl rfl)⟩
  case stop =>
    rintro D cc pre X hD hpre ⟨rfl, h2, ⟨h3, h4⟩, h5⟩ hK
    have hval := opnd_prefix E.p E.m E.n E.begins hpre h2
    rw [← hval] at h3 h4
    have HV := Lib.hid hval
    have D2 := Lib.hid h3
    have D3 := Lib.hid h4
    have HBX := Lib.hid h5
    have HKK := Lib.hid hK
    have HSW := Lib.hid hsw
    have HDD := Lib.hid hD
    clear hval h2 h3 h4 h5 hK hpre hsw hD
    gi_wp2_with fail
    have hsw := HSW.out
    have hD := HDD.out
    have n1 : W.heap.size + 1 ≠ D := by omega
    have n2 : W.heap.size + 1 + 1 ≠ D := by omega
    refine ⟨by simp, .inl ⟨_, _, rfl, run_takeDeferred HKK.out, ?_⟩⟩
    refine ⟨_, results97 rfl rfl (boxed_put D2.out n1) (boxed_put D3.out n2), ?_⟩
    rw [OpPost]
    exact ⟨rfl, HBX.out.trans (belowK_b (w := W) (Nat.le_refl _) _ D _ _ (by omega) HKK.out rfl rfl)⟩
end
end Go.Proofs.YtkphijabhoppnaaDoor
