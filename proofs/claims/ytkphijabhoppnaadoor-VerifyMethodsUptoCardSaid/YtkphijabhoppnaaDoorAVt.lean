/- A method is gone through (brazier/verify.method). -/
import Derived.Test.YtkphijabhoppnaaDoorAVp
import Derived.Test.YtkphijabhoppnaaDoorAVs
import Derived.Test.YtkphijabhoppnaaDoorAVu
import Derived.BigRegionIn
namespace Go.Proofs.YtkphijabhoppnaaDoor
open Go.RowKit Go.Shelf Go.Proofs.YtkphijabhoppnaaDoorW.PrintWords
set_option linter.unusedSimpArgs false
set_option linter.unusedVariables false
attribute [local go_sem] Oper.semAt_some
def CapC (w : World) (A2 : Option Addr) (n : Nat) : Prop := ∀ (k : Nat) (ad : Addr) (A : Option Addr) (l c : Nat), k < n → A2 = some ad → w.cell? ⟨(ad.add (k * 5)).block, (ad.add (k * 5)).off + 4, none⟩ = some (.slice A l c) → c ≤ 9223372036854775807
structure PgX (w : World) (A0 : Option Addr) (c0 : Nat) (A1 : Option Addr) (c1 : Nat) (A2 : Option Addr) (c2 : Nat) (p : Pg) : Prop where
  pg : PgC w A0 c0 A1 c1 A2 c2 p
  cap : CapC w A2 p.methods.length
  byt : ∀ m ∈ p.methods, ∀ x ∈ m.f4, 0 ≤ x ∧ x ≤ 255
  small : SmallP p
theorem CapC.below {w w1 : World} {A2 : Option Addr} {ms : List Meth} (h : CapC w A2 ms.length) (hr : Kd.C PVerifyMethods.k64 w A2 ms.length ms) (hb : Below w.heap.size w w1) : CapC w1 A2 ms.length := by
  intro k ad A l c hk e hc
  obtain ⟨ad', B0, d0, B2, d2, B4, d4, e', -, -, -, -, m4, -⟩ := PVerifyMethods.at_T64 hr k (by omega) (by omega)
  rw [Int.toNat_natCast] at m4
  obtain rfl : ad = ad' := Option.some.inj (e.symm.trans e')
  have m4' := cell_be hb m4
  rw [hc] at m4'
  have := h k ad _ _ _ hk e m4
  injection m4' with m4'
  injection m4' with e1 e2 e3
  omega
theorem PgX.below {w w1 : World} {A0 A1 A2 : Option Addr} {c0 c1 c2 : Nat} {p : Pg} (h : PgX w A0 c0 A1 c1 A2 c2 p) (hb : Below w.heap.size w w1) : PgX w1 A0 c0 A1 c1 A2 c2 p :=
  ⟨h.pg.below hb, h.cap.below h.pg.r2 hb, h.byt, h.small⟩
theorem byt_of {w : World} {A : Option Addr} {c : Nat} {l : List Int} (h : Kd.C (Kd.int .u8) w A l.length l) (hc : l.length ≤ c) (hm : c ≤ 9223372036854775807) (hb : ∀ x ∈ l, 0 ≤ x ∧ x ≤ 255) : Byt w (.slice A l.length c) l :=
  ⟨A, c, rfl, hc, hm, hb, fun hne => int_spot h (by have := List.length_pos_iff.2 hne; omega)⟩
structure MthAt (w : World) (A2 : Option Addr) (k : Nat) (ad : Addr) (B0 : Option Addr) (d0 : Nat) (B2 : Option Addr) (d2 : Nat) (B4 : Option Addr) (d4 : Nat) (m : Meth) : Prop where
  e : A2 = some ad
  m0 : w.cell? (ad.add (k * 5)) = some (.slice B0 m.f0.length d0)
  m1 : w.cell? ⟨(ad.add (k * 5)).block, (ad.add (k * 5)).off + 1, none⟩ = some (.int .i64 m.f1)
  m2 : w.cell? ⟨(ad.add (k * 5)).block, (ad.add (k * 5)).off + 2, none⟩ = some (.slice B2 m.f2.length d2)
  m3 : w.cell? ⟨(ad.add (k * 5)).block, (ad.add (k * 5)).off + 3, none⟩ = some (.int .i64 m.f3)
  m4 : w.cell? ⟨(ad.add (k * 5)).block, (ad.add (k * 5)).off + 4, none⟩ = some (.slice B4 m.f4.length d4)
  mt : MtC w B0 d0 B2 d2 B4 d4 m
  by' : Byt w (.slice B4 m.f4.length d4) m.f4
theorem mth_at {w : World} {A0 A1 A2 : Option Addr} {c0 c1 c2 : Nat} {p : Pg} (h : PgX w A0 c0 A1 c1 A2 c2 p) (k : Nat) (hk : k < p.methods.length) :
    ∃ ad B0 d0 B2 d2 B4 d4, MthAt w A2 k ad B0 d0 B2 d2 B4 d4 (methS p k) := by
  obtain ⟨ad, B0, d0, B2, d2, B4, d4, e, m0, m1, m2, m3, m4, l0, g0, l2, g2, l4, g4⟩ := PVerifyMethods.at_T64 h.pg.r2 k (by omega) (by omega)
  rw [Int.toNat_natCast] at m0 m1 m2 m3 m4
  have hmem : methS p k ∈ p.methods := by
    unfold methS
    rw [meth_at p k hk]
    exact List.getElem_mem hk
  exact ⟨ad, B0, d0, B2, d2, B4, d4, e, m0, m1, m2, m3, m4, ⟨g0, l0, g2, l2, g4, l4⟩, byt_of g4 l4 (h.cap k ad _ _ _ hk e m4) (h.byt _ hmem)⟩
def MthPost (w : World) (p : Pg) (m : Meth) (e : Ending) (w' : World) : Prop :=
  ∃ v, e = .returned (.tuple #[v, .int .i64 (methodS p m).1.1, .int .i64 (methodS p m).1.2]) ∧ Below w.heap.size w w' ∧
    ((methodS p m).1.2 = 0 → ∃ E : Env, v = .pointer (some ⟨E.G, 0, none⟩) ∧ E.p = p ∧ E.m = m ∧ E.n = m.f4.length ∧ WkI E w.heap.size w' (methodS p m).2.1 (methodS p m).2.2)
abbrev ob0 (A0 : Option Addr) (c0 : Nat) (A1 : Option Addr) (c1 : Nat) (A2 : Option Addr) (c2 : Nat) (B0 : Option Addr) (d0 : Nat) (B2 : Option Addr) (d2 : Nat) (B4 : Option Addr) (d4 : Nat) (p : Pg) (m : Meth) (u v x : Value) : Obj :=
  .cells #[.slice A0 p.pool.length c0, .slice A1 p.classes.length c1, .slice A2 p.methods.length c2, .slice B0 m.f0.length d0, .int .i64 m.f1, .slice B2 m.f2.length d2, .int .i64 m.f3, .slice B4 m.f4.length d4, u, v, x] 134
theorem WkI.put {E : Env} {base : Nat} {W : World} {sh : List Shp} {has : List Bool} (h : WkI E base W sh has) {D : Nat} {o o' : Obj} (hD : W.heap[D]? = some o) (hc : o.isCells = false) : WkI E base (W.putObj D o') sh has := by
  have far : ∀ (k : Nat) (cs : Array Value) (t : TypeId) (fr : Nat × Nat), W.heap[k]? = some (.cells cs t fr) → (W.putObj D o').heap[k]? = some (.cells cs t fr) := fun k cs t fr hk => by
    have hne : k ≠ D := fun e => by rw [e, hD] at hk; cases hk; simp [Obj.isCells] at hc
    exact (World.putObj_heap_other hne).trans hk
  obtain ⟨cs, h1, h2⟩ := h.ss
  exact ⟨far _ _ _ _ h.blk, far _ _ _ _ h.bb, far _ _ _ _ h.hh, ⟨cs, far _ _ _ _ h1, h2.move fun k cells hk => (far _ _ _ _ hk).trans hk.symm⟩, h.lb, h.lh, h.ls, h.hn, h.loG, h.los, h.loh, h.ne⟩
theorem zshp_ok (base : Nat) (W : World) (n : Nat) : Shps base W n (madeCells #[.slice none 0 0, .int .i64 0] (n * 2)).toList (shapes0 n) := by
  refine ⟨by simp [size_madeCells]; omega, fun i hi => ⟨.slice none 0 0, ?_, ?_, ?_⟩⟩
  · simp [madeCells, List.getElem?_range, show 2 * i < n * 2 by omega]
  · have : (shapes0 n).getD i ([], 0) = ([], 0) := by simp [shapes0, List.getD_eq_getElem?_getD, List.getElem?_replicate, hi]
    rw [this]
    simp [madeCells, List.getElem?_range, show 2 * i + 1 < n * 2 by omega]
  · have : (shapes0 n).getD i ([], 0) = ([], 0) := by simp [shapes0, List.getD_eq_getElem?_getD, List.getElem?_replicate, hi]
    rw [this]
    exact World.ownsRow_nil _ _ _ _
theorem cells11_set {W : World} {G : Nat} {l : List Value} {t : TypeId} (h : W.heap[G]? = some (Obj.cells l.toArray t (0, 0))) (hl : l.length = 11) (k : Nat) (hk : k < 11) (u : Value) (h1 : u.oneCell' = true) :
    (W.setCell ⟨G, k, none⟩ u).heap[G]? = some (Obj.cells (l.set k u).toArray t (0, 0)) := set_list h k u h1 (by omega)
section
variable {w : World} {A0 A1 A2 : Option Addr} {c0 c1 c2 : Nat} {p : Pg}
set_option maxRecDepth 100000 in
set_option maxHeartbeats 3200000 in
theorem method_calls (hp : PgX w A0 c0 A1 c1 A2 c2 p) (hG : Glob w) (k : Nat) (hk : k < p.methods.length) (hsz : sizesS (methS p k) = 0) (hfew : FewPar p) :
    Calls Tryd.prog 56 #[.agg #[.slice A0 p.pool.length c0, .slice A1 p.classes.length c1, .slice A2 p.methods.length c2], .int .i64 k] w (MthPost w p (methS p k)) := by
  obtain ⟨ad, B0, d0, B2, d2, B4, d4, hM⟩ := mth_at hp k hk
  obtain ⟨m, hm⟩ : ∃ m, methS p k = m := ⟨_, rfl⟩
  rw [hm] at hM hsz ⊢
  have hz := sizes_zero hsz
  obtain rfl := hM.e
  have hA : Below w.heap.size w (w.alloc (obP A0 c0 A1 c1 (some ad) c2 p)) := (Below.refl _ w).alloc (Nat.le_refl _) _
  have m0 := cell_be hA hM.m0
  have m1 := cell_be hA hM.m1
  have m2 := cell_be hA hM.m2
  have m3 := cell_be hA hM.m3
  have m4 := cell_be hA hM.m4
  have i0 : (0 : Int) ≤ (k : Int) := by omega
  have i1 : (k : Int) < (p.methods.length : Int) := by omega
  have HP := Lib.hid hp
  have HG := Lib.hid hG
  have HM := Lib.hid hM
  have HZ := Lib.hid hz
  have HF := Lib.hid hfew
  have HK := Lib.hid hk
  have HA := Lib.hid hA
  clear hp hG hM hz hfew hk hA hsz hm
  refine (callsIn_wide (n := 6)).1 ?_
  refine callsIn_of_wp_marks Tryd.func56 rfl trivial ?_ rfl
  simp only [Tryd.ntmps56, List.size_toArray, List.length_cons, List.length_nil, Nat.reduceAdd, Nat.reduceSub, Array.replicate_succ, Array.replicate_zero, List.push_toArray, List.append_toArray, List.nil_append, List.cons_append]
  gi_upto_region 1 with fail
  obtain ⟨V, hV⟩ : ∃ V, w.alloc (obP A0 c0 A1 c1 (some ad) c2 p) = V := ⟨_, rfl⟩
  have hR := heap_alloc_new w (obP A0 c0 A1 c1 (some ad) c2 p)
  have hS : (w.alloc (obP A0 c0 A1 c1 (some ad) c2 p)).heap.size = w.heap.size + 1 := by simp
  rw [hV] at HA m0 m1 m2 m3 m4 hR hS ⊢
  obtain ⟨y0, y1, y2⟩ := cells3V hR
  have b0 : w.heap.size < V.heap.size := by omega
  have bm : (ad.add (k * 5)).block < V.heap.size := block_lt_of_cell m0
  have HS := Lib.hid hS
  have HR := Lib.hid hR
  clear hV hS hR
  gi_cut [7] from 19 (fun s Y => ∃ G T, s = .pointer (some ⟨T, 0, none⟩) ∧ T ≠ G ∧ w.heap.size < G ∧ w.heap.size < T ∧ Boxed Y T 126 (.pointer (some ⟨G, 0, none⟩)) ∧ Y.heap[G]? = some (ob0 A0 c0 A1 c1 (some ad) c2 B0 d0 B2 d2 B4 d4 p m (.slice none 0 0) (.slice none 0 0) (.slice none 0 0)) ∧ Below w.heap.size w Y)
  case first =>
    gi_region
    all_goals gi_wp2_with fail
    all_goals gi_meet
    case rel =>
      have hs := HS.out
      have r1 := heap_alloc_new V (ob0 A0 c0 A1 c1 (some ad) c2 B0 d0 B2 d2 B4 d4 p m (.slice none 0 0) (.slice none 0 0) (.slice none 0 0))
      refine ⟨V.heap.size, V.heap.size + 1, rfl, by omega, by omega, by omega, ?_, row_drewV (row_alloc r1 _), ((HA.out.alloc (by omega) _).alloc (by simp; omega) _).drew⟩
      have := heap_alloc_new (V.alloc (ob0 A0 c0 A1 c1 (some ad) c2 B0 d0 B2 d2 B4 d4 p m (.slice none 0 0) (.slice none 0 0) (.slice none 0 0))) (.cells #[.pointer (some ⟨V.heap.size, 0, none⟩)] 126)
      simp only [World.size_alloc] at this
      exact row_drewV this
    case rel =>
      have hs := HS.out
      have r1 := heap_alloc_new V (.cells #[.pointer (some ⟨V.heap.size + 1, 0, none⟩)] 126)
      refine ⟨V.heap.size + 1, V.heap.size, rfl, by omega, by omega, by omega, row_drewV (row_alloc r1 _), ?_, ((HA.out.alloc (by omega) _).alloc (by simp; omega) _).drew⟩
      have := heap_alloc_new (V.alloc (.cells #[.pointer (some ⟨V.heap.size + 1, 0, none⟩)] 126)) (ob0 A0 c0 A1 c1 (some ad) c2 B0 d0 B2 d2 B4 d4 p m (.slice none 0 0) (.slice none 0 0) (.slice none 0 0))
      simp only [World.size_alloc] at this
      exact row_drewV this
  case rest =>
    obtain ⟨G, T, rfl, hne, hGw, hTw, hT, hGG, hB⟩ := hcut
    clear m0 m1 m2 m3 m4 y0 y1 y2 i0 i1 b0 bm HS HR HA HK
    have hGl : G < wc.heap.size := (Array.getElem?_eq_some_iff.1 hGG).1
    have hTl : T < wc.heap.size := (Array.getElem?_eq_some_iff.1 hT).1
    obtain ⟨z0, z1, z2, z3, z4, z5, z6, z7⟩ := cells11b hGG
    obtain ⟨z8, z9, z10⟩ := cells11 hGG
    have t1 := hT.cell
    obtain ⟨pe, hpe⟩ : ∃ pe, (placesS m.f4).2 = pe := ⟨_, rfl⟩
    have hPl : Calls Tryd.prog 16 #[.slice B4 m.f4.length d4] wc fun e w' => ∃ v, e = .returned (.tuple #[v, .int .i64 pe]) ∧ Below wc.heap.size wc w' := by
      refine (places_calls (.slice B4 m.f4.length d4) m.f4 wc (by have := HZ.out; omega) (HM.out.by'.below hB) (HG.out.below hB)).mono ?_
      rintro e w' ⟨v, rfl, -, h⟩
      exact ⟨v, by rw [hpe], h⟩
    have HPL := Lib.hid hPl
    have HPE := Lib.hid hpe
    have HT := Lib.hid hT
    have HGG := Lib.hid hGG
    have HB := Lib.hid hB
    have HGl := Lib.hid hGl
    have HTl := Lib.hid hTl
    clear hPl hpe hT hGG hB hGl hTl
    by_cases h0 : pe = 0
    · subst h0
      gi_upto_region 11 with (first | (refine ⟨trivial, ?_⟩; gi_at_call 16; refine (callsIn_wide.2 HPL.out).mono ?_; rintro e w2 ⟨v, rfl, hb2⟩; have hTl := HTl.out; have hGl := HGl.out; have hs2 := hb2.size; have tl : T < w2.heap.size := (by omega); have gl : G < w2.heap.size := (by omega); have t1 := cell_be hb2 t1; have z7 := cell_be hb2 z7; have HB2 := Lib.hid hb2; clear hb2 hTl hGl hs2) | fail)
      have hGl := HGl.out
      have hTl := HTl.out
      have hgs := HB2.out.size
      have GL : G < w2.heap.size := by omega
      have TL : T < w2.heap.size := by omega
      have WS : w.heap.size ≤ w2.heap.size := Nat.le_trans HB.out.size HB2.out.size
      have WG : w.heap.size ≤ G := by omega
      have hn6 : m.f4.length ≤ 1000000 := by have := HZ.out; omega
      have mk3 := make73 m.f4.length hn6
      have mk2 := make72 m.f4.length hn6
      have hM0 : Mk w w2.heap.size m.f4.length G T (ob0 A0 c0 A1 c1 (some ad) c2 B0 d0 B2 d2 B4 d4 p m) (Array.replicate 18 false) w2 u62 u64 u66 (.slice none 0 0) (.slice none 0 0) (.slice none 0 0) :=
        ⟨row_kept HB2.out HGG.out, row_kept HB2.out HT.out, HB.out.trans (HB2.out.mono HB.out.size), Nat.le_refl _, by simp, by simp, by simp, by simp, by simp, by simp, by simp⟩
      clear t1 z0 z1 z2 z3 z4 z5 z6 z7 z8 z9 z10 tl gl hGl hTl hgs
      gi_cut [] from 58 (fun Y => ∃ gb gs gh, Y.heap[G]? = some ((ob0 A0 c0 A1 c1 (some ad) c2 B0 d0 B2 d2 B4 d4 p m) (.slice (some ⟨gb, 0, none⟩) m.f4.length m.f4.length) (.slice (some ⟨gs, 0, none⟩) m.f4.length m.f4.length) (.slice (some ⟨gh, 0, none⟩) m.f4.length m.f4.length)) ∧ Boxed Y T 126 (.pointer (some ⟨G, 0, none⟩)) ∧ Below w.heap.size w Y ∧ w2.heap.size ≤ Y.heap.size ∧ w2.heap.size ≤ gb ∧ w2.heap.size ≤ gs ∧ w2.heap.size ≤ gh ∧ gb ≠ gh ∧ Y.heap[gb]? = some (bools4 (List.replicate m.f4.length false)) ∧ Y.heap[gs]? = some (zshp m.f4.length) ∧ Y.heap[gh]? = some (bools4 (List.replicate m.f4.length false)))
      case first =>
        refine wpIn_region_any (by kernel_rfl) ?_
        refine any_inv (S := fun L a' w' => ∃ s58 s59 s60 s61 s62 s63 s64 s65 s66 s67 s68 s69 s70 s71 s72 x1 x2 x3 : Value, a' = { tmps := #[.agg #[.slice A0 p.pool.length c0, .slice A1 p.classes.length c1, .slice (some ad) p.methods.length c2], .int .i64 k, .pointer (some ⟨w.heap.size, 0, none⟩), undef, .pointer none, .int .i64 0, .int .i64 0, .pointer (some ⟨T, 0, none⟩), .int .i64 m.f4.length, v, .int .i64 0, undef, undef, undef, undef, undef, undef, undef, undef, u19, u20, u21, u22, u23, u24, u25, u26, .pointer (some ⟨G, 0, none⟩), .pointer (some ⟨G, 0, none⟩), .pointer (some ⟨G, 3, none⟩), .pointer (some ⟨G, 7, none⟩), .slice B4 m.f4.length d4, .int .i64 m.f4.length, .tuple #[v, .int .i64 0], .pointer (some ⟨G, 0, none⟩), .pointer (some ⟨G, 0, none⟩), .pointer (some ⟨G, 3, none⟩), .pointer (some ⟨G, 7, none⟩), .slice B4 m.f4.length d4, .tuple #[v, .int .i64 0], v, .int .i64 0, .int .i64 0, .bool false, u44, u45, u46, u47, u48, u49, u50, u51, u52, u53, u54, u55, u56, u57, s58, s59, s60, s61, s62, s63, s64, s65, s66, s67, s68, s69, s70, s71, s72, u73, u74, u75, u76, u77, u78, u79, u80, u81, u82, u83, u84, u85, u86, u87, u88, u89, u90, u91, u92, u93, u94, u95, u96, u97, u98, u99, u100, u101, u102, u103], defers := [] } ∧ L.size = 18 ∧ Mk w w2.heap.size m.f4.length G T (ob0 A0 c0 A1 c1 (some ad) c2 B0 d0 B2 d2 B4 d4 p m) L w' s62 s64 s66 x1 x2 x3 ∧ (L.getD 0 false = true → s58 = .pointer (some ⟨G, 0, none⟩)) ∧ (L.getD 1 false = true → s59 = .pointer (some ⟨G, 0, none⟩)) ∧ (L.getD 2 false = true → s60 = .pointer (some ⟨G, 0, none⟩)) ∧ (L.getD 3 false = true → s61 = .int .i64 m.f4.length) ∧ (L.getD 5 false = true → s63 = .int .i64 m.f4.length) ∧ (L.getD 7 false = true → s65 = .int .i64 m.f4.length) ∧ (L.getD 9 false = true → s67 = .pointer (some ⟨G, 0, none⟩)) ∧ (L.getD 10 false = true → s68 = .pointer (some ⟨G, 8, none⟩)) ∧ (L.getD 12 false = true → s69 = .pointer (some ⟨G, 0, none⟩)) ∧ (L.getD 13 false = true → s70 = .pointer (some ⟨G, 9, none⟩)) ∧ (L.getD 15 false = true → s71 = .pointer (some ⟨G, 0, none⟩)) ∧ (L.getD 16 false = true → s72 = .pointer (some ⟨G, 10, none⟩))) ?step ?fin _ _ _ _ ?h0 ?hc
        case h0 => exact ⟨_, _, _, _, _, _, _, _, _, _, _, _, _, _, _, _, _, _, rfl, by simp, hM0.drewN 1, by simp, by simp, by simp, by simp, by simp, by simp, by simp, by simp, by simp, by simp, by simp, by simp⟩
        case hc => decide
        case fin =>
          rintro L a' w' ⟨s58, s59, s60, s61, s62, s63, s64, s65, s66, s67, s68, s69, s70, s71, s72, x1, x2, x3, rfl, hL, hM, e0, e1, e2, e3, e5, e7, e9, e10, e12, e13, e15, e16⟩ hr
          have hr' := List.filter_eq_nil_iff.1 hr
          have r0 := hr' 0 (by decide)
          have r1 := hr' 1 (by decide)
          have r2 := hr' 2 (by decide)
          have r3 := hr' 3 (by decide)
          have r4 := hr' 4 (by decide)
          have r5 := hr' 5 (by decide)
          have r6 := hr' 6 (by decide)
          have r7 := hr' 7 (by decide)
          have r8 := hr' 8 (by decide)
          have r9 := hr' 9 (by decide)
          have r10 := hr' 10 (by decide)
          have r11 := hr' 11 (by decide)
          have r12 := hr' 12 (by decide)
          have r13 := hr' 13 (by decide)
          have r14 := hr' 14 (by decide)
          have r15 := hr' 15 (by decide)
          have r16 := hr' 16 (by decide)
          have r17 := hr' 17 (by decide)
          simp [Region.binds, hL] at r0 r1 r2 r3 r4 r5 r6 r7 r8 r9 r10 r11 r12 r13 r14 r15 r16 r17
          simp [r0, r1, r2, r3] at r4
          simp [r0, r1, r2, r3, r4, r5] at r6
          simp [r0, r1, r2, r3, r4, r5, r6, r7] at r8
          simp [r0, r1, r2, r3, r4, r5, r6, r7, r8] at r9
          simp [r0, r1, r2, r3, r4, r5, r6, r7, r8, r9] at r10
          simp [r0, r1, r2, r3, r4, r5, r6, r7, r8, r9, r10] at r11
          simp [r0, r1, r2, r3, r4, r5, r6, r7, r8, r9, r10, r11] at r12
          simp [r0, r1, r2, r3, r4, r5, r6, r7, r8, r9, r10, r11, r12] at r13
          simp [r0, r1, r2, r3, r4, r5, r6, r7, r8, r9, r10, r11, r12, r13] at r14
          simp [r0, r1, r2, r3, r4, r5, r6, r7, r8, r9, r10, r11, r12, r13, r14] at r15
          simp [r0, r1, r2, r3, r4, r5, r6, r7, r8, r9, r10, r11, r12, r13, r14, r15] at r16
          simp [r0, r1, r2, r3, r4, r5, r6, r7, r8, r9, r10, r11, r12, r13, r14, r15, r16] at r17
          have l4 : L.getD 4 false = true := by simp [hL, r4]
          have l6 : L.getD 6 false = true := by simp [hL, r6]
          have l8 : L.getD 8 false = true := by simp [hL, r8]
          obtain ⟨gb, rfl, qb1, qb2⟩ := hM.m1 l4
          obtain ⟨gs, rfl, qs1, qs2⟩ := hM.m2 l6
          obtain ⟨gh, rfl, qh1, qh2⟩ := hM.m3 l8
          have k1 := (hM.c1 (by simp [hL, r11])).2
          have k2 := (hM.c2 (by simp [hL, r14])).2
          have k3 := (hM.c3 (by simp [hL, r17])).2
          subst k1 k2 k3
          have hbh := hM.d l4 l8
          clear hr hr'
          gi_wp2_with fail
          gi_meet
          case rel => exact ⟨gb, gs, gh, hM.g, hM.t, hM.b, hM.sz, qb1, qs1, qh1, fun e => hbh (by rw [e]), qb2, qs2, qh2⟩
        case step =>
          rintro L a' w' ⟨s58, s59, s60, s61, s62, s63, s64, s65, s66, s67, s68, s69, s70, s71, s72, x1, x2, x3, rfl, hL, hM, e0, e1, e2, e3, e5, e7, e9, e10, e12, e13, e15, e16⟩ i hi
          rw [Region.ready, List.mem_filter] at hi
          obtain ⟨hi1, hi2⟩ := hi
          have hi3 : i < 18 := List.mem_range.1 hi1
          have hcs : i = 0 ∨ i = 1 ∨ i = 2 ∨ i = 3 ∨ i = 4 ∨ i = 5 ∨ i = 6 ∨ i = 7 ∨ i = 8 ∨ i = 9 ∨ i = 10 ∨ i = 11 ∨ i = 12 ∨ i = 13 ∨ i = 14 ∨ i = 15 ∨ i = 16 ∨ i = 17 := by omega
          clear hi1 hi3 hM0
          rcases hcs with rfl | rfl | rfl | rfl | rfl | rfl | rfl | rfl | rfl | rfl | rfl | rfl | rfl | rfl | rfl | rfl | rfl | rfl
          · have hdep := hi2
            have ct := hM.t.cell
            refine wpOpIn_step rfl fun K' hK => ?_
            rw [if_pos (by kernel_rfl)]
            refine ⟨fun _ _ => trivial, ?_⟩
            go_simp
            exact hK _ _ ⟨_, _, _, _, _, _, _, _, _, _, _, _, _, _, _, _, _, _, rfl, by simp [hL], hM.other 0 (by decide), fun _ => rfl, fun h => e1 ((ld_ne (by decide)).symm.trans h), fun h => e2 ((ld_ne (by decide)).symm.trans h), fun h => e3 ((ld_ne (by decide)).symm.trans h), fun h => e5 ((ld_ne (by decide)).symm.trans h), fun h => e7 ((ld_ne (by decide)).symm.trans h), fun h => e9 ((ld_ne (by decide)).symm.trans h), fun h => e10 ((ld_ne (by decide)).symm.trans h), fun h => e12 ((ld_ne (by decide)).symm.trans h), fun h => e13 ((ld_ne (by decide)).symm.trans h), fun h => e15 ((ld_ne (by decide)).symm.trans h), fun h => e16 ((ld_ne (by decide)).symm.trans h)⟩
          · have hdep := hi2
            have ct := hM.t.cell
            refine wpOpIn_step rfl fun K' hK => ?_
            rw [if_pos (by kernel_rfl)]
            refine ⟨fun _ _ => trivial, ?_⟩
            go_simp
            exact hK _ _ ⟨_, _, _, _, _, _, _, _, _, _, _, _, _, _, _, _, _, _, rfl, by simp [hL], hM.other 1 (by decide), fun h => e0 ((ld_ne (by decide)).symm.trans h), fun _ => rfl, fun h => e2 ((ld_ne (by decide)).symm.trans h), fun h => e3 ((ld_ne (by decide)).symm.trans h), fun h => e5 ((ld_ne (by decide)).symm.trans h), fun h => e7 ((ld_ne (by decide)).symm.trans h), fun h => e9 ((ld_ne (by decide)).symm.trans h), fun h => e10 ((ld_ne (by decide)).symm.trans h), fun h => e12 ((ld_ne (by decide)).symm.trans h), fun h => e13 ((ld_ne (by decide)).symm.trans h), fun h => e15 ((ld_ne (by decide)).symm.trans h), fun h => e16 ((ld_ne (by decide)).symm.trans h)⟩
          · have hdep := hi2
            have ct := hM.t.cell
            refine wpOpIn_step rfl fun K' hK => ?_
            rw [if_pos (by kernel_rfl)]
            refine ⟨fun _ _ => trivial, ?_⟩
            go_simp
            exact hK _ _ ⟨_, _, _, _, _, _, _, _, _, _, _, _, _, _, _, _, _, _, rfl, by simp [hL], hM.other 2 (by decide), fun h => e0 ((ld_ne (by decide)).symm.trans h), fun h => e1 ((ld_ne (by decide)).symm.trans h), fun _ => rfl, fun h => e3 ((ld_ne (by decide)).symm.trans h), fun h => e5 ((ld_ne (by decide)).symm.trans h), fun h => e7 ((ld_ne (by decide)).symm.trans h), fun h => e9 ((ld_ne (by decide)).symm.trans h), fun h => e10 ((ld_ne (by decide)).symm.trans h), fun h => e12 ((ld_ne (by decide)).symm.trans h), fun h => e13 ((ld_ne (by decide)).symm.trans h), fun h => e15 ((ld_ne (by decide)).symm.trans h), fun h => e16 ((ld_ne (by decide)).symm.trans h)⟩
          · have hdep := hi2
            refine wpOpIn_step rfl fun K' hK => ?_
            rw [if_pos (by kernel_rfl)]
            refine ⟨fun _ _ => trivial, ?_⟩
            go_simp
            exact hK _ _ ⟨_, _, _, _, _, _, _, _, _, _, _, _, _, _, _, _, _, _, rfl, by simp [hL], hM.other 3 (by decide), fun h => e0 ((ld_ne (by decide)).symm.trans h), fun h => e1 ((ld_ne (by decide)).symm.trans h), fun h => e2 ((ld_ne (by decide)).symm.trans h), fun _ => rfl, fun h => e5 ((ld_ne (by decide)).symm.trans h), fun h => e7 ((ld_ne (by decide)).symm.trans h), fun h => e9 ((ld_ne (by decide)).symm.trans h), fun h => e10 ((ld_ne (by decide)).symm.trans h), fun h => e12 ((ld_ne (by decide)).symm.trans h), fun h => e13 ((ld_ne (by decide)).symm.trans h), fun h => e15 ((ld_ne (by decide)).symm.trans h), fun h => e16 ((ld_ne (by decide)).symm.trans h)⟩
          · have hdep := hi2
            have d3 : L.getD 3 false = true := by simp [Region.binds] at hdep ⊢; simp [hdep]
            obtain rfl := e3 d3
            have hno : L.getD 4 false = false := by simp [Region.binds, hL] at hdep ⊢; simp [hdep]
            refine wpOpIn_step rfl fun K' hK => ?_
            rw [if_pos (by kernel_rfl)]
            refine ⟨fun _ _ => trivial, ?_⟩
            go_simp
            exact hK _ _ ⟨_, _, _, _, _, _, _, _, _, _, _, _, _, _, _, _, _, _, rfl, by simp [hL], hM.make1 hno WS, fun h => e0 ((ld_ne (by decide)).symm.trans h), fun h => e1 ((ld_ne (by decide)).symm.trans h), fun h => e2 ((ld_ne (by decide)).symm.trans h), fun h => e3 ((ld_ne (by decide)).symm.trans h), fun h => e5 ((ld_ne (by decide)).symm.trans h), fun h => e7 ((ld_ne (by decide)).symm.trans h), fun h => e9 ((ld_ne (by decide)).symm.trans h), fun h => e10 ((ld_ne (by decide)).symm.trans h), fun h => e12 ((ld_ne (by decide)).symm.trans h), fun h => e13 ((ld_ne (by decide)).symm.trans h), fun h => e15 ((ld_ne (by decide)).symm.trans h), fun h => e16 ((ld_ne (by decide)).symm.trans h)⟩
          · have hdep := hi2
            refine wpOpIn_step rfl fun K' hK => ?_
            rw [if_pos (by kernel_rfl)]
            refine ⟨fun _ _ => trivial, ?_⟩
            go_simp
            exact hK _ _ ⟨_, _, _, _, _, _, _, _, _, _, _, _, _, _, _, _, _, _, rfl, by simp [hL], hM.other 5 (by decide), fun h => e0 ((ld_ne (by decide)).symm.trans h), fun h => e1 ((ld_ne (by decide)).symm.trans h), fun h => e2 ((ld_ne (by decide)).symm.trans h), fun h => e3 ((ld_ne (by decide)).symm.trans h), fun _ => rfl, fun h => e7 ((ld_ne (by decide)).symm.trans h), fun h => e9 ((ld_ne (by decide)).symm.trans h), fun h => e10 ((ld_ne (by decide)).symm.trans h), fun h => e12 ((ld_ne (by decide)).symm.trans h), fun h => e13 ((ld_ne (by decide)).symm.trans h), fun h => e15 ((ld_ne (by decide)).symm.trans h), fun h => e16 ((ld_ne (by decide)).symm.trans h)⟩
          · have hdep := hi2
            have d5 : L.getD 5 false = true := by simp [Region.binds] at hdep ⊢; simp [hdep]
            obtain rfl := e5 d5
            have hno : L.getD 6 false = false := by simp [Region.binds, hL] at hdep ⊢; simp [hdep]
            refine wpOpIn_step rfl fun K' hK => ?_
            rw [if_pos (by kernel_rfl)]
            refine ⟨fun _ _ => trivial, ?_⟩
            go_simp
            exact hK _ _ ⟨_, _, _, _, _, _, _, _, _, _, _, _, _, _, _, _, _, _, rfl, by simp [hL], hM.make2 hno WS, fun h => e0 ((ld_ne (by decide)).symm.trans h), fun h => e1 ((ld_ne (by decide)).symm.trans h), fun h => e2 ((ld_ne (by decide)).symm.trans h), fun h => e3 ((ld_ne (by decide)).symm.trans h), fun h => e5 ((ld_ne (by decide)).symm.trans h), fun h => e7 ((ld_ne (by decide)).symm.trans h), fun h => e9 ((ld_ne (by decide)).symm.trans h), fun h => e10 ((ld_ne (by decide)).symm.trans h), fun h => e12 ((ld_ne (by decide)).symm.trans h), fun h => e13 ((ld_ne (by decide)).symm.trans h), fun h => e15 ((ld_ne (by decide)).symm.trans h), fun h => e16 ((ld_ne (by decide)).symm.trans h)⟩
          · have hdep := hi2
            refine wpOpIn_step rfl fun K' hK => ?_
            rw [if_pos (by kernel_rfl)]
            refine ⟨fun _ _ => trivial, ?_⟩
            go_simp
            exact hK _ _ ⟨_, _, _, _, _, _, _, _, _, _, _, _, _, _, _, _, _, _, rfl, by simp [hL], hM.other 7 (by decide), fun h => e0 ((ld_ne (by decide)).symm.trans h), fun h => e1 ((ld_ne (by decide)).symm.trans h), fun h => e2 ((ld_ne (by decide)).symm.trans h), fun h => e3 ((ld_ne (by decide)).symm.trans h), fun h => e5 ((ld_ne (by decide)).symm.trans h), fun _ => rfl, fun h => e9 ((ld_ne (by decide)).symm.trans h), fun h => e10 ((ld_ne (by decide)).symm.trans h), fun h => e12 ((ld_ne (by decide)).symm.trans h), fun h => e13 ((ld_ne (by decide)).symm.trans h), fun h => e15 ((ld_ne (by decide)).symm.trans h), fun h => e16 ((ld_ne (by decide)).symm.trans h)⟩
          · have hdep := hi2
            have d7 : L.getD 7 false = true := by simp [Region.binds] at hdep ⊢; simp [hdep]
            obtain rfl := e7 d7
            have hno : L.getD 8 false = false := by simp [Region.binds, hL] at hdep ⊢; simp [hdep]
            refine wpOpIn_step rfl fun K' hK => ?_
            rw [if_pos (by kernel_rfl)]
            refine ⟨fun _ _ => trivial, ?_⟩
            go_simp
            exact hK _ _ ⟨_, _, _, _, _, _, _, _, _, _, _, _, _, _, _, _, _, _, rfl, by simp [hL], hM.make3 hno WS, fun h => e0 ((ld_ne (by decide)).symm.trans h), fun h => e1 ((ld_ne (by decide)).symm.trans h), fun h => e2 ((ld_ne (by decide)).symm.trans h), fun h => e3 ((ld_ne (by decide)).symm.trans h), fun h => e5 ((ld_ne (by decide)).symm.trans h), fun h => e7 ((ld_ne (by decide)).symm.trans h), fun h => e9 ((ld_ne (by decide)).symm.trans h), fun h => e10 ((ld_ne (by decide)).symm.trans h), fun h => e12 ((ld_ne (by decide)).symm.trans h), fun h => e13 ((ld_ne (by decide)).symm.trans h), fun h => e15 ((ld_ne (by decide)).symm.trans h), fun h => e16 ((ld_ne (by decide)).symm.trans h)⟩
          · have hdep := hi2
            have d0 : L.getD 0 false = true := by simp [Region.binds] at hdep ⊢; simp [hdep]
            obtain rfl := e0 d0
            refine wpOpIn_step rfl fun K' hK => ?_
            rw [if_pos (by kernel_rfl)]
            refine ⟨fun _ _ => trivial, ?_⟩
            go_simp
            exact hK _ _ ⟨_, _, _, _, _, _, _, _, _, _, _, _, _, _, _, _, _, _, rfl, by simp [hL], hM.other 9 (by decide), fun h => e0 ((ld_ne (by decide)).symm.trans h), fun h => e1 ((ld_ne (by decide)).symm.trans h), fun h => e2 ((ld_ne (by decide)).symm.trans h), fun h => e3 ((ld_ne (by decide)).symm.trans h), fun h => e5 ((ld_ne (by decide)).symm.trans h), fun h => e7 ((ld_ne (by decide)).symm.trans h), fun _ => rfl, fun h => e10 ((ld_ne (by decide)).symm.trans h), fun h => e12 ((ld_ne (by decide)).symm.trans h), fun h => e13 ((ld_ne (by decide)).symm.trans h), fun h => e15 ((ld_ne (by decide)).symm.trans h), fun h => e16 ((ld_ne (by decide)).symm.trans h)⟩
          · have hdep := hi2
            have d9 : L.getD 9 false = true := by simp [Region.binds] at hdep ⊢; simp [hdep]
            obtain rfl := e9 d9
            refine wpOpIn_step rfl fun K' hK => ?_
            rw [if_pos (by kernel_rfl)]
            refine ⟨fun _ _ => trivial, ?_⟩
            go_simp
            exact hK _ _ ⟨_, _, _, _, _, _, _, _, _, _, _, _, _, _, _, _, _, _, rfl, by simp [hL], hM.other 10 (by decide), fun h => e0 ((ld_ne (by decide)).symm.trans h), fun h => e1 ((ld_ne (by decide)).symm.trans h), fun h => e2 ((ld_ne (by decide)).symm.trans h), fun h => e3 ((ld_ne (by decide)).symm.trans h), fun h => e5 ((ld_ne (by decide)).symm.trans h), fun h => e7 ((ld_ne (by decide)).symm.trans h), fun h => e9 ((ld_ne (by decide)).symm.trans h), fun _ => rfl, fun h => e12 ((ld_ne (by decide)).symm.trans h), fun h => e13 ((ld_ne (by decide)).symm.trans h), fun h => e15 ((ld_ne (by decide)).symm.trans h), fun h => e16 ((ld_ne (by decide)).symm.trans h)⟩
          · have hdep := hi2
            have d10 : L.getD 10 false = true := by simp [Region.binds] at hdep ⊢; simp [hdep]
            obtain rfl := e10 d10
            have d4 : L.getD 4 false = true := by simp [Region.binds] at hdep ⊢; simp [hdep]
            obtain ⟨y8, y9, y10⟩ := cells11 hM.g
            have fz := Lib.frozen_of_heap hM.g 8
            obtain ⟨g, rfl, hg1, hg2⟩ := hM.m1 d4
            refine wpOpIn_step rfl fun K' hK => ?_
            rw [if_pos (by kernel_rfl)]
            refine ⟨fun _ _ => trivial, ?_⟩
            go_simp
            exact hK _ _ ⟨_, _, _, _, _, _, _, _, _, _, _, _, _, _, _, _, _, _, rfl, by simp [hL], hM.store1 d4 GL WG hne (cells11_set hM.g rfl 8 (by decide) _ rfl), fun h => e0 ((ld_ne (by decide)).symm.trans h), fun h => e1 ((ld_ne (by decide)).symm.trans h), fun h => e2 ((ld_ne (by decide)).symm.trans h), fun h => e3 ((ld_ne (by decide)).symm.trans h), fun h => e5 ((ld_ne (by decide)).symm.trans h), fun h => e7 ((ld_ne (by decide)).symm.trans h), fun h => e9 ((ld_ne (by decide)).symm.trans h), fun h => e10 ((ld_ne (by decide)).symm.trans h), fun h => e12 ((ld_ne (by decide)).symm.trans h), fun h => e13 ((ld_ne (by decide)).symm.trans h), fun h => e15 ((ld_ne (by decide)).symm.trans h), fun h => e16 ((ld_ne (by decide)).symm.trans h)⟩
          · have hdep := hi2
            have d1 : L.getD 1 false = true := by simp [Region.binds] at hdep ⊢; simp [hdep]
            obtain rfl := e1 d1
            refine wpOpIn_step rfl fun K' hK => ?_
            rw [if_pos (by kernel_rfl)]
            refine ⟨fun _ _ => trivial, ?_⟩
            go_simp
            exact hK _ _ ⟨_, _, _, _, _, _, _, _, _, _, _, _, _, _, _, _, _, _, rfl, by simp [hL], hM.other 12 (by decide), fun h => e0 ((ld_ne (by decide)).symm.trans h), fun h => e1 ((ld_ne (by decide)).symm.trans h), fun h => e2 ((ld_ne (by decide)).symm.trans h), fun h => e3 ((ld_ne (by decide)).symm.trans h), fun h => e5 ((ld_ne (by decide)).symm.trans h), fun h => e7 ((ld_ne (by decide)).symm.trans h), fun h => e9 ((ld_ne (by decide)).symm.trans h), fun h => e10 ((ld_ne (by decide)).symm.trans h), fun _ => rfl, fun h => e13 ((ld_ne (by decide)).symm.trans h), fun h => e15 ((ld_ne (by decide)).symm.trans h), fun h => e16 ((ld_ne (by decide)).symm.trans h)⟩
          · have hdep := hi2
            have d12 : L.getD 12 false = true := by simp [Region.binds] at hdep ⊢; simp [hdep]
            obtain rfl := e12 d12
            refine wpOpIn_step rfl fun K' hK => ?_
            rw [if_pos (by kernel_rfl)]
            refine ⟨fun _ _ => trivial, ?_⟩
            go_simp
            exact hK _ _ ⟨_, _, _, _, _, _, _, _, _, _, _, _, _, _, _, _, _, _, rfl, by simp [hL], hM.other 13 (by decide), fun h => e0 ((ld_ne (by decide)).symm.trans h), fun h => e1 ((ld_ne (by decide)).symm.trans h), fun h => e2 ((ld_ne (by decide)).symm.trans h), fun h => e3 ((ld_ne (by decide)).symm.trans h), fun h => e5 ((ld_ne (by decide)).symm.trans h), fun h => e7 ((ld_ne (by decide)).symm.trans h), fun h => e9 ((ld_ne (by decide)).symm.trans h), fun h => e10 ((ld_ne (by decide)).symm.trans h), fun h => e12 ((ld_ne (by decide)).symm.trans h), fun _ => rfl, fun h => e15 ((ld_ne (by decide)).symm.trans h), fun h => e16 ((ld_ne (by decide)).symm.trans h)⟩
          · have hdep := hi2
            have d13 : L.getD 13 false = true := by simp [Region.binds] at hdep ⊢; simp [hdep]
            obtain rfl := e13 d13
            have d6 : L.getD 6 false = true := by simp [Region.binds] at hdep ⊢; simp [hdep]
            obtain ⟨y8, y9, y10⟩ := cells11 hM.g
            have fz := Lib.frozen_of_heap hM.g 9
            obtain ⟨g, rfl, hg1, hg2⟩ := hM.m2 d6
            refine wpOpIn_step rfl fun K' hK => ?_
            rw [if_pos (by kernel_rfl)]
            refine ⟨fun _ _ => trivial, ?_⟩
            go_simp
            exact hK _ _ ⟨_, _, _, _, _, _, _, _, _, _, _, _, _, _, _, _, _, _, rfl, by simp [hL], hM.store2 d6 GL WG hne (cells11_set hM.g rfl 9 (by decide) _ rfl), fun h => e0 ((ld_ne (by decide)).symm.trans h), fun h => e1 ((ld_ne (by decide)).symm.trans h), fun h => e2 ((ld_ne (by decide)).symm.trans h), fun h => e3 ((ld_ne (by decide)).symm.trans h), fun h => e5 ((ld_ne (by decide)).symm.trans h), fun h => e7 ((ld_ne (by decide)).symm.trans h), fun h => e9 ((ld_ne (by decide)).symm.trans h), fun h => e10 ((ld_ne (by decide)).symm.trans h), fun h => e12 ((ld_ne (by decide)).symm.trans h), fun h => e13 ((ld_ne (by decide)).symm.trans h), fun h => e15 ((ld_ne (by decide)).symm.trans h), fun h => e16 ((ld_ne (by decide)).symm.trans h)⟩
          · have hdep := hi2
            have d2 : L.getD 2 false = true := by simp [Region.binds] at hdep ⊢; simp [hdep]
            obtain rfl := e2 d2
            refine wpOpIn_step rfl fun K' hK => ?_
            rw [if_pos (by kernel_rfl)]
            refine ⟨fun _ _ => trivial, ?_⟩
            go_simp
            exact hK _ _ ⟨_, _, _, _, _, _, _, _, _, _, _, _, _, _, _, _, _, _, rfl, by simp [hL], hM.other 15 (by decide), fun h => e0 ((ld_ne (by decide)).symm.trans h), fun h => e1 ((ld_ne (by decide)).symm.trans h), fun h => e2 ((ld_ne (by decide)).symm.trans h), fun h => e3 ((ld_ne (by decide)).symm.trans h), fun h => e5 ((ld_ne (by decide)).symm.trans h), fun h => e7 ((ld_ne (by decide)).symm.trans h), fun h => e9 ((ld_ne (by decide)).symm.trans h), fun h => e10 ((ld_ne (by decide)).symm.trans h), fun h => e12 ((ld_ne (by decide)).symm.trans h), fun h => e13 ((ld_ne (by decide)).symm.trans h), fun _ => rfl, fun h => e16 ((ld_ne (by decide)).symm.trans h)⟩
          · have hdep := hi2
            have d15 : L.getD 15 false = true := by simp [Region.binds] at hdep ⊢; simp [hdep]
            obtain rfl := e15 d15
            refine wpOpIn_step rfl fun K' hK => ?_
            rw [if_pos (by kernel_rfl)]
            refine ⟨fun _ _ => trivial, ?_⟩
            go_simp
            exact hK _ _ ⟨_, _, _, _, _, _, _, _, _, _, _, _, _, _, _, _, _, _, rfl, by simp [hL], hM.other 16 (by decide), fun h => e0 ((ld_ne (by decide)).symm.trans h), fun h => e1 ((ld_ne (by decide)).symm.trans h), fun h => e2 ((ld_ne (by decide)).symm.trans h), fun h => e3 ((ld_ne (by decide)).symm.trans h), fun h => e5 ((ld_ne (by decide)).symm.trans h), fun h => e7 ((ld_ne (by decide)).symm.trans h), fun h => e9 ((ld_ne (by decide)).symm.trans h), fun h => e10 ((ld_ne (by decide)).symm.trans h), fun h => e12 ((ld_ne (by decide)).symm.trans h), fun h => e13 ((ld_ne (by decide)).symm.trans h), fun h => e15 ((ld_ne (by decide)).symm.trans h), fun _ => rfl⟩
          · have hdep := hi2
            have d16 : L.getD 16 false = true := by simp [Region.binds] at hdep ⊢; simp [hdep]
            obtain rfl := e16 d16
            have d8 : L.getD 8 false = true := by simp [Region.binds] at hdep ⊢; simp [hdep]
            obtain ⟨y8, y9, y10⟩ := cells11 hM.g
            have fz := Lib.frozen_of_heap hM.g 10
            obtain ⟨g, rfl, hg1, hg2⟩ := hM.m3 d8
            refine wpOpIn_step rfl fun K' hK => ?_
            rw [if_pos (by kernel_rfl)]
            refine ⟨fun _ _ => trivial, ?_⟩
            go_simp
            exact hK _ _ ⟨_, _, _, _, _, _, _, _, _, _, _, _, _, _, _, _, _, _, rfl, by simp [hL], hM.store3 d8 GL WG hne (cells11_set hM.g rfl 10 (by decide) _ rfl), fun h => e0 ((ld_ne (by decide)).symm.trans h), fun h => e1 ((ld_ne (by decide)).symm.trans h), fun h => e2 ((ld_ne (by decide)).symm.trans h), fun h => e3 ((ld_ne (by decide)).symm.trans h), fun h => e5 ((ld_ne (by decide)).symm.trans h), fun h => e7 ((ld_ne (by decide)).symm.trans h), fun h => e9 ((ld_ne (by decide)).symm.trans h), fun h => e10 ((ld_ne (by decide)).symm.trans h), fun h => e12 ((ld_ne (by decide)).symm.trans h), fun h => e13 ((ld_ne (by decide)).symm.trans h), fun h => e15 ((ld_ne (by decide)).symm.trans h), fun h => e16 ((ld_ne (by decide)).symm.trans h)⟩
      case rest =>
        obtain ⟨gb, gs, gh, hGG2, hT2, hB3, hs3, hgb, hgs, hgh, hbh, rb, rs, rh⟩ := hcut
        obtain ⟨z0, z1, z2, z3, z4, z5, z6, z7⟩ := cells11b hGG2
        have t1 := hT2.cell
        have wl := Nat.le_trans WS hs3
        have HGG2 := Lib.hid hGG2
        have HT2 := Lib.hid hT2
        have HB3 := Lib.hid hB3
        have HS3 := Lib.hid hs3
        have HRB := Lib.hid rb
        have HRS := Lib.hid rs
        have HRH := Lib.hid rh
        have HQ := Lib.hid (And.intro hgb (And.intro hgs (And.intro hgh hbh)))
        clear hGG2 hT2 hB3 hs3 rb rs rh hM0 hgb hgs hgh hbh mk2 mk3
        gi_wp2_with (first | (refine ⟨trivial, ?_⟩; gi_at_call 20; refine (callsIn_wide.2 (all_calls _ _ _ _)).mono ?_; rintro e w' ⟨rfl, rfl⟩) | fail)
        clear t1 z0 z1 z2 z3 z4 z5 z6 z7
        have b2 := Boxed.new wc 22 (.slice B4 m.f4.length d4)
        have hbn : Below w.heap.size w (wc.alloc (.cells #[.slice B4 m.f4.length d4] 22)) := HB3.out.alloc wl _
        have hs0 : (wc.alloc (.cells #[.slice B4 m.f4.length d4] 22)).heap.size = wc.heap.size + 1 := by simp
        have hA := Lib.hid (And.intro (row_alloc HGG2.out (.cells #[.slice B4 m.f4.length d4] 22)) (And.intro (row_alloc HT2.out (.cells #[.slice B4 m.f4.length d4] 22)) (And.intro (row_alloc HRB.out (.cells #[.slice B4 m.f4.length d4] 22)) (And.intro (row_alloc HRS.out (.cells #[.slice B4 m.f4.length d4] 22)) (row_alloc HRH.out (.cells #[.slice B4 m.f4.length d4] 22))))))
        have gsl : gs < wc.heap.size := (Array.getElem?_eq_some_iff.1 HRS.out).1
        have ghl : gh < wc.heap.size := (Array.getElem?_eq_some_iff.1 HRH.out).1
        have gbl : gb < wc.heap.size := (Array.getElem?_eq_some_iff.1 HRB.out).1
        obtain ⟨Bs, hBs⟩ : ∃ Bs, wc.heap.size = Bs := ⟨_, rfl⟩
        obtain ⟨W0, hW0⟩ : ∃ W0, wc.alloc (.cells #[.slice B4 m.f4.length d4] 22) = W0 := ⟨_, rfl⟩
        rw [hBs] at b2 hs0 gbl gsl ghl wl
        rw [hBs, hW0]
        rw [hW0] at b2 hbn hs0 hA
        have hSS := HS3.out
        rw [hBs] at hSS
        clear hW0 HGG2 HT2 HRB HRS HRH HB3 HS3 hBs
        refine rangeFunc_fr rfl (by omega) (gf := 52) (lb := #[.pointer (some ⟨Bs, 0, none⟩)]) rfl trivial (enters_of Tryd.func52 (by kernel_rfl) rfl)
          (all_stopsM _ (by omega) Bs _ m.f4 W0 hn6 b2.cell (HM.out.by'.below hbn) (HG.out.below hbn)) KpB.trans KpB.put (Below.refl _ _) (fun _ => rfl)
          (fun pre X => X.heap[G]? = some (ob0 A0 c0 A1 c1 (some ad) c2 B0 d0 B2 d2 B4 d4 p m (.slice (some ⟨gb, 0, none⟩) m.f4.length m.f4.length) (.slice (some ⟨gs, 0, none⟩) m.f4.length m.f4.length) (.slice (some ⟨gh, 0, none⟩) m.f4.length m.f4.length)) ∧ Boxed X T 126 (.pointer (some ⟨G, 0, none⟩)) ∧ X.heap[gb]? = some (bools4 (markS m.f4.length (pre.map (·.1)))) ∧ X.heap[gs]? = some (zshp m.f4.length) ∧ X.heap[gh]? = some (bools4 (List.replicate m.f4.length false)) ∧ Below w.heap.size w X ∧ Bs + 1 ≤ X.heap.size)
          (fun _ _ _ => False)
          (OwnFrom.and (Own.from (row_own G (fun _ => _) 134) _) (OwnFrom.and (Own.from (boxed_own T 126 (fun _ => .pointer (some ⟨G, 0, none⟩))) _) (OwnFrom.and (Own.from (row_own gb (fun pre : List (MOp m.f4) => ((markS m.f4.length (pre.map (·.1))).map Value.bool).toArray) 4) _) (OwnFrom.and (Own.from (row_own gs (fun _ => _) 81) _) (OwnFrom.and (Own.from (row_own gh (fun _ => _) 4) _) (OwnFrom.and (ownFrom_below (Nat.le_refl _) (by omega)) (fun s A B row hs hg hr => Nat.le_trans hs hg.size)))))))
          (fun _ _ _ _ _ hs _ _ => hs)
          ⟨hA.out.1, hA.out.2.1, hA.out.2.2.1, hA.out.2.2.2.1, hA.out.2.2.2.2, hbn, by omega⟩
          (fun x b X => True)
          ?hPa (fun x b a => (((a.setIfInBounds 79 (.int .i64 x.1.1)).setIfInBounds 80 (opV x.1.2)).setIfInBounds 14 (.int .i64 x.1.1))) ?assign ?body ?done ?stop
        case hPa => exact fun _ _ _ _ _ _ _ _ _ => trivial
        case assign =>
          rintro q pre x X K hI hK
          simp only [encO, opV]
          gi_wp2
          exact hK 0 _ ((KeepsOthers.refl _).from _) (KpB.below (Below.refl _ X)) hI trivial
        case body =>
          rintro q pre x b X hq ⟨r, hr⟩ ⟨x1, x2, x3, x4, x5, x6, x7⟩ - hlt
          obtain ⟨⟨pp, ⟨code, ra, rb, size, err⟩⟩, hmm⟩ := x
          obtain ⟨-, hpl, -, -⟩ := opsFrom_mem m.f4 _ _ _ hmm
          dsimp only at hpl
          obtain ⟨y8, y9, y10⟩ := cells11 x1
          have t1 := x2.cell
          have ml := markS_len m.f4.length (pre.map (·.1))
          have cb := cell_bools x3 pp (by rw [ml]; exact hpl)
          have fb := Lib.frozen_of_heap x3 pp
          have p0 : (0 : Int) ≤ (pp : Int) := by omega
          have p1 : (pp : Int) < (m.f4.length : Int) := by omega
          have hset : (X.setCell ⟨gb, pp, none⟩ (.bool true)).heap[gb]? = some (bools4 (markS m.f4.length ((pre ++ [(⟨(pp, ⟨code, ra, rb, size, err⟩), hmm⟩ : MOp m.f4)]).map (·.1)))) := by
            have c1 := set_list (l := (markS m.f4.length (pre.map (·.1))).map Value.bool) x3 pp (.bool true) rfl (by rw [List.length_map, ml]; exact hpl)
            rw [c1, List.map_append, List.map_cons, List.map_nil, markS_snoc]
            unfold bools4
            rw [List.map_set]
          have far : ∀ k, k ≠ gb → (X.setCell ⟨gb, pp, none⟩ (.bool true)).heap[k]? = X.heap[k]? := fun k hk => Below.heap_setCell _ ⟨gb, pp, none⟩ _ k hk
          have hbW : Below w.heap.size w (X.setCell ⟨gb, pp, none⟩ (.bool true)) := x6.setCell (p := ⟨gb, pp, none⟩) (Nat.le_trans WS HQ.out.1) _
          have hgs2 : gs ≠ gb := fun e => by rw [e, x3] at x4; simp [bools4, zshp] at x4
          have hq1 := HQ.out.1
          have FI := Lib.hid (And.intro ((far G (by omega)).trans x1) (And.intro ((far T (by omega)).trans x2 : Boxed _ T 126 _) (And.intro hset (And.intro ((far gs hgs2).trans x4) (And.intro ((far gh (Ne.symm HQ.out.2.2.2)).trans x5) (And.intro hbW (by simpa using x7 : Bs + 1 ≤ (X.setCell ⟨gb, pp, none⟩ (.bool true)).heap.size)))))))
          have hkp : KpB Bs (.slice B4 m.f4.length d4) m.f4 X (X.setCell ⟨gb, pp, none⟩ (.bool true)) :=
            ⟨fun _ => HM.out.by'.below hbW, fun h => (World.cell?_of_block (w := X) (far Bs (by omega))).trans h, fun _ => HG.out.below hbW,
              fun g cs h => (far g (fun e => by rw [e, x3] at h; simp [bools4] at h)).trans h, (KeepsOthers.setCell _ _ _).size⟩
          have HKP := Lib.hid hkp
          clear x1 x2 x3 x4 x5 x6 x7 hset far hbW hgs2 hkp hr ml b2 hs0 hbn y9 y10 hA
          simp only [opV, List.setIfInBounds_toArray, List.set_cons_succ, List.set_cons_zero]
          gi_wp2_with fail
          exact ⟨(KeepsOthers.setCell _ _ _).from _, HKP.out, FI.out⟩
        case done =>
          rintro D xs X hD rfl ⟨x1, x2, x3, x4, x5, x6, x7⟩ hK
          rw [attach_val] at x3
          have t1 := x2.cell
          obtain ⟨E, hE⟩ : ∃ E : Env, E = ⟨G, gb, gs, gh, m.f4.length, A0, c0, A1, c1, some ad, c2, B0, d0, B2, d2, B4, d4, p, m, beginsS m.f4⟩ := ⟨_, rfl⟩
          have hWk : WkI E w.heap.size X (shapes0 m.f4.length) (List.replicate m.f4.length false) := by
            have hq1 := HQ.out.1
            have hq2 := HQ.out.2.1
            have hq3 := HQ.out.2.2.1
            have hln := HZ.out.2.2.2
            subst hE
            exact ⟨x1, x3, x5, ⟨_, x4, zshp_ok _ _ _⟩, markS_len _ _, by simp, by simp [shapes0], hln, WG, by dsimp only; omega, by dsimp only; omega, HQ.out.2.2.2⟩
          have hOut : Out E w := by subst hE; exact ⟨HP.out.pg, HM.out.mt, HM.out.by', HG.out, HF.out, rfl⟩
          have hOp := opnd_calls hOut hWk x6 (by subst hE; exact HZ.out.2.2.2)
          have hby : ∀ x ∈ m.f4, 0 ≤ x ∧ x ≤ 255 := by obtain ⟨_, _, _, _, _, h, _⟩ := HM.out.by'; exact h
          have eG : E.G = G := by rw [hE]
          have eS : E.gs = gs := by rw [hE]
          have eH : E.gh = gh := by rw [hE]
          have eN : E.n = m.f4.length := by rw [hE]
          have eM : E.m = m := by rw [hE]
          have eP : E.p = p := by rw [hE]
          have eB : E.begins = beginsS m.f4 := by rw [hE]
          obtain ⟨⟨oa, oe⟩, ho⟩ : ∃ o, opndS p m m.f4.length (beginsS m.f4) (opsL m.f4) = o := ⟨_, rfl⟩
          have hOp2 : Calls Tryd.prog 97 #[.pointer (some ⟨G, 0, none⟩)] X fun e w' => e = .returned (.tuple #[.int .i64 oa, .int .i64 oe]) ∧ Below X.heap.size X w' := by
            unfold OpPost at hOp
            rw [eG, eP, eM, eN, eB, ho] at hOp
            exact hOp
          have HOP := Lib.hid hOp2
          have HO := Lib.hid ho
          have HX := Lib.hid x6
          have HWk := Lib.hid hWk
          have HKK := Lib.hid hK
          have HD := Lib.hid hD
          have HS0 := Lib.hid hs0
          have HEq := Lib.hid hE
          have X2 := Lib.hid x2
          clear hOp hOp2 ho x1 x2 x3 x4 x5 x6 x7 hWk hK hD hs0 b2 hbn hA eG eS eH eN eM eP eB hE
          by_cases h1 : oe = 0
          · subst h1
            have hR : Ready p m := ⟨hby, HZ.out.2.2.1, HZ.out.2.2.2, HPE.out, by rw [HO.out], HZ.out.2.1, HF.out⟩
            have hv : methodS p m = allS p m m.f4.length (m.f4.length + 1) (shapes0 m.f4.length) (has0 m.f4.length) (List.replicate m.f4.length false) := by
              unfold methodS
              rw [if_neg (by rw [HPE.out]; simp), if_neg (by rw [HO.out]; simp)]
            have hAll : ∀ Y, Below X.heap.size X Y → Calls Tryd.prog 98 #[.pointer (some ⟨G, 0, none⟩)] Y (AllPost E w Y (methodS p m)) := fun Y hY => by
              have hE := HEq.out
              have h := walk_all (E := E) (I := fun sh has => InvS m sh has) hOut (HWk.out.below hY) (HX.out.trans (hY.mono HX.out.size)) (by rw [hE]; exact HZ.out.2.2.1) (by have := keeps_inv (E := E) (by rw [hE]; exact hR) (by rw [hE]); rw [hE] at this ⊢; exact this) (inv_start hR)
              rw [hv]
              subst hE
              exact h
            obtain ⟨⟨⟨ra, re⟩, rs⟩, hr⟩ : ∃ r, methodS p m = r := ⟨_, rfl⟩
            rw [hr] at hAll
            have HALL := Lib.hid hAll
            have HR := Lib.hid hr
            clear hAll hr hv hR hby hOut
            gi_wp2_with (first | (refine ⟨trivial, ?_⟩; gi_at_call 97; refine (callsIn_wide.2 HOP.out).mono ?_; rintro e w5 ⟨rfl, hb5⟩; have hT5 := Lib.hid (row_kept hb5 X2.out); have t5 := cell_be hb5 t1; have D5 := Lib.hid (row_kept hb5 HKK.out); have HB5 := Lib.hid hb5; clear hb5 t1) | (refine ⟨trivial, ?_⟩; gi_at_call 98; refine (callsIn_wide.2 (HALL.out _ HB5.out)).mono ?_; rintro e w6 ⟨rfl, hw6, hb6, hf6⟩; have t6 := Boxed.cell (hf6.2 T _ hT5.out (by rw [HEq.out]; have := HQ.out.2.1; dsimp only; omega) (by rw [HEq.out]; have := HQ.out.2.2.1; dsimp only; omega)); have W6 := Lib.hid hw6; have B6 := Lib.hid hb6; have F6 := Lib.hid hf6; clear hw6 hb6 hf6 t5) | fail)
            have hD := HD.out
            have hs0 := HS0.out
            have dD : w6.heap[D]? = some (.deferred (some [])) := F6.out.2 D _ D5.out (by rw [HEq.out]; dsimp only; omega) (by rw [HEq.out]; dsimp only; omega)
            refine ⟨by simp, .inl ⟨_, _, rfl, run_takeDeferred dD, ?_⟩⟩
            refine ⟨_, results_tmp3 (fn := Tryd.f56) rfl _ _ _, ?_⟩
            rw [MthPost, HR.out]
            exact ⟨_, rfl, B6.out.trans (belowK_b (w := w) (Nat.le_refl _) _ D _ _ (by omega) dD rfl rfl), fun _ => ⟨E, by rw [HEq.out]; rfl, by rw [HEq.out], by rw [HEq.out], by rw [HEq.out], W6.out.put dD rfl⟩⟩
          · have t2 : (oe != 0) = true := by simpa using h1
            have hv : methodS p m = ((oa, oe), ([], [])) := by
              unfold methodS
              rw [if_neg (by rw [HPE.out]; simp), HO.out, if_pos h1]
            have HV := Lib.hid hv
            have H1 := Lib.hid h1
            clear hv h1 hby hOut
            gi_wp2_with (first | (refine ⟨trivial, ?_⟩; gi_at_call 97; refine (callsIn_wide.2 HOP.out).mono ?_; rintro e w5 ⟨rfl, hb5⟩; have D5 := Lib.hid (row_kept hb5 HKK.out); have HB5 := Lib.hid hb5; clear hb5 t1) | fail)
            have hD := HD.out
            have hs0 := HS0.out
            refine ⟨by simp, .inl ⟨_, _, rfl, run_takeDeferred D5.out, ?_⟩⟩
            refine ⟨_, results_tmp3 (fn := Tryd.f56) rfl _ _ _, ?_⟩
            rw [MthPost, HV.out]
            exact ⟨_, rfl, (HX.out.trans (HB5.out.mono HX.out.size)).trans (belowK_b (w := w) (Nat.le_refl _) _ D _ _ (by omega) D5.out rfl rfl), fun h => absurd h H1.out⟩
        case stop =>
          rintro D c pre W _ _ h _
          exact h.elim
    · have tpe : (pe != 0) = true := by simpa using h0
      have H0 := Lib.hid h0
      clear h0
      gi_wp2_with (first | (refine ⟨trivial, ?_⟩; gi_at_call 16; refine (callsIn_wide.2 HPL.out).mono ?_; rintro e w2 ⟨v, rfl, hb2⟩; have hTl := HTl.out; have hGl := HGl.out; have hs2 := hb2.size; have tl : T < w2.heap.size := (by omega); have gl : G < w2.heap.size := (by omega); have t1 := cell_be hb2 t1; have z7 := cell_be hb2 z7; have HB2 := Lib.hid hb2; clear hb2 hTl hGl hs2) | (refine ⟨trivial, ?_⟩; gi_at_call 20; refine (callsIn_wide.2 (all_calls _ _ _ _)).mono ?_; rintro e w' ⟨rfl, rfl⟩) | fail)
      clear t1 z0 z1 z2 z3 z4 z5 z6 z7 z8 z9 z10 tl gl tpe
      have b1 := (Boxed.new w2 3 (.int .i64 0)).alloc (.cells #[.slice B4 m.f4.length d4] 22)
      have b2 := Boxed.new (w2.alloc (.cells #[.int .i64 0] 3)) 22 (.slice B4 m.f4.length d4)
      simp only [World.size_alloc] at b2
      have hsw : w.heap.size ≤ w2.heap.size := Nat.le_trans HB.out.size HB2.out.size
      have hbn : Below w.heap.size w ((w2.alloc (.cells #[.int .i64 0] 3)).alloc (.cells #[.slice B4 m.f4.length d4] 22)) := ((HB.out.trans (HB2.out.mono HB.out.size)).alloc hsw _).alloc (by simp; omega) _
      have hs0 : ((w2.alloc (.cells #[.int .i64 0] 3)).alloc (.cells #[.slice B4 m.f4.length d4] 22)).heap.size = w2.heap.size + 2 := by simp
      obtain ⟨W0, hW0⟩ : ∃ W0, (w2.alloc (.cells #[.int .i64 0] 3)).alloc (.cells #[.slice B4 m.f4.length d4] 22) = W0 := ⟨_, rfl⟩
      rw [hW0] at b1 b2 hbn hs0 ⊢
      clear hW0
      obtain ⟨A, hAe⟩ : ∃ A, w2.heap.size = A := ⟨_, rfl⟩
      rw [hAe] at b1 b2 hsw hs0 ⊢
      clear HB2 hAe
      have hlen : m.f4.length ≤ 1000000 := by have := HZ.out; omega
      refine rangeFunc_fr rfl (by omega) (gf := 52) (lb := #[.pointer (some ⟨A + 1, 0, none⟩)]) rfl trivial (enters_of Tryd.func52 (by kernel_rfl) rfl)
        (all_stopsM _ (by omega) (A + 1) _ m.f4 W0 hlen b2.cell (HM.out.by'.below hbn) (HG.out.below hbn)) KpB.trans KpB.put (Below.refl _ _) (fun _ => rfl)
        (fun pre X => Boxed X A 3 (.int .i64 (endO (pre.map (·.1)))) ∧ Below w.heap.size w X ∧ A + 2 ≤ X.heap.size)
        (fun _ _ _ => False)
        (OwnFrom.and (Own.from (boxed_own A 3 (fun pre : List (MOp m.f4) => .int .i64 (endO (pre.map (·.1))))) _) (OwnFrom.and (ownFrom_below (Nat.le_refl _) (by omega)) (fun s A B row hs hg hr => Nat.le_trans hs hg.size)))
        (fun _ _ _ _ _ hs _ _ => hs)
        ⟨b1, hbn, by omega⟩
        (fun x b X => A + 2 ≤ b ∧ X.heap[b]? = some (Obj.cells #[.int .i64 x.1.2.code, .int .i64 x.1.2.a, .int .i64 x.1.2.b, .int .i64 x.1.2.size] 25 (0, 0)))
        ?hPa (fun x b a => ((((a.setIfInBounds 50 (.int .i64 x.1.1)).setIfInBounds 51 (opV x.1.2)).setIfInBounds 12 (.int .i64 x.1.1)).setIfInBounds 13 (.pointer (some ⟨b, 0, none⟩)))) ?assign ?body ?done ?stop
      case hPa => exact fun x b u X Y row hs hg hr => ⟨hs.1, row_own b (fun (_ : Unit) => #[.int .i64 x.1.2.code, .int .i64 x.1.2.a, .int .i64 x.1.2.b, .int .i64 x.1.2.size]) 25 () X Y row hs.2 hg (fun r e => (hr r e).2)⟩
      case assign =>
        rintro q pre x X K ⟨h1, hbX, hsX⟩ hK
        simp only [encO, opV]
        gi_wp2
        exact hK _ _ ((KeepsOthers.alloc _ _).from _) (KpB.below ((Below.refl _ X).alloc (Nat.le_refl _) _)) ⟨h1.alloc _, hbX.alloc hbX.size _, by simp; omega⟩ ⟨hsX, heap_alloc_new X _⟩
      case body =>
        rintro q pre x b X hq ⟨r, hr⟩ ⟨h1, hbX, hsX⟩ ⟨hb1, hbx⟩ hlt
        have hX3 := cell_of_row _ _ 3 _ _ _ hbx
        simp only [List.getElem?_toArray, List.getElem?_cons_succ, List.getElem?_cons_zero] at hX3
        have c1 := h1.cell
        have f1 := h1.frozen
        have H1 := Lib.hid h1
        have HX := Lib.hid hbX
        have HSX := Lib.hid hsX
        have HSW := Lib.hid hsw
        clear h1 hbx hbX hr hsX hsw b1 b2
        obtain ⟨⟨pp, ⟨code, ra, rb, size, err⟩⟩, hmm⟩ := x
        dsimp only at hX3
        simp only [opV, List.setIfInBounds_toArray, List.set_cons_succ, List.set_cons_zero]
        gi_wp2_with fail
        have hsw := HSW.out
        have hbW : Below w.heap.size w (X.setCell ⟨A, 0, none⟩ (.int .i64 (wrap64 (pp + size)))) := HX.out.setCell (p := ⟨A, 0, none⟩) hsw _
        refine ⟨(KeepsOthers.setCell _ _ _).from _, ⟨fun _ => HM.out.by'.below hbW, fun h => ?_, fun _ => HG.out.below hbW, fun g cs h => ?_, (KeepsOthers.setCell _ _ _).size⟩, ⟨?_, hbW, by have := HSX.out; simpa using this⟩⟩
        · exact (World.cell?_of_block (w := X) (heap_setCell_other _ ⟨A, 0, none⟩ (A + 1) _ (show A + 1 ≠ A by omega))).trans h
        · have n1 : g ≠ A := by rintro rfl; have := H1.out; unfold Boxed at this; rw [h] at this; cases this
          exact (heap_setCell_other _ ⟨A, 0, none⟩ g _ n1).trans h
        · rw [List.map_append, List.map_cons, List.map_nil, endO_snoc]
          exact H1.out.set _
      case done =>
        rintro D xs X hD rfl ⟨h1, hbX, hsX⟩ hK
        rw [attach_val] at h1
        have c1 := h1.cell
        have hv : methodS p m = ((endO (opsL m.f4), pe), ([], [])) := by
          unfold methodS
          rw [if_pos (by rw [HPE.out]; exact H0.out), HPE.out]
        have HV := Lib.hid hv
        have HX := Lib.hid hbX
        have HKK := Lib.hid hK
        have HD := Lib.hid hD
        have HSW := Lib.hid hsw
        have HS0 := Lib.hid hs0
        clear h1 hbX hK hD hsw b1 b2 hv hs0
        gi_upto_region 10 with fail
        gi_region
        all_goals gi_wp2_with fail
        have hsw := HSW.out
        have hs0 := HS0.out
        have hd := HD.out
        refine ⟨by simp, .inl ⟨_, _, rfl, run_takeDeferred (row_drewV HKK.out), ?_⟩⟩
        refine ⟨_, results_tmp3 (fn := Tryd.f56) rfl _ _ _, ?_⟩
        rw [MthPost, HV.out]
        exact ⟨_, rfl, HX.out.drew.trans (belowK_b (w := w) (Nat.le_refl _) _ D _ _ (by omega) (row_drewV HKK.out) rfl rfl), fun h => absurd h H0.out⟩
      case stop =>
        rintro D c pre W _ _ h _
        exact h.elim
end
end Go.Proofs.YtkphijabhoppnaaDoor
