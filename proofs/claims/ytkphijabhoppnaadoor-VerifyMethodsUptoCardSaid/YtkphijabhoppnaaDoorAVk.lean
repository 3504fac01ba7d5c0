/- A place is gone through (brazier/verify.walk.through). -/
import Derived.Test.YtkphijabhoppnaaDoorAVj
import Derived.Deep.RegionHeld3
import Derived.Deep.DeepCutAuto
namespace Go.Proofs.YtkphijabhoppnaaDoor
open Go.RowKit Go.Proofs.YtkphijabhoppnaaDoorW.PrintWords
set_option linter.unusedSimpArgs false
set_option linter.unusedVariables false
structure Out (E : Env) (w : World) : Prop where
  pg : PgC w E.A0 E.c0 E.A1 E.c1 E.A2 E.c2 E.p
  mt : MtC w E.B0 E.d0 E.B2 E.d2 E.B4 E.d4 E.m
  by' : Byt w (.slice E.B4 E.m.f4.length E.d4) E.m.f4
  g : Glob w
  few : FewPar E.p
  len : E.n = E.m.f4.length
theorem Out.below {E : Env} {w w1 : World} (h : Out E w) (hb : Below w.heap.size w w1) : Out E w1 := ⟨h.pg.below hb, h.mt.below hb, h.by'.below hb, h.g.below hb, h.few, h.len⟩
def onS (n : Nat) (sh : List Shp) (has : List Bool) (at' : Nat) (r : Rd) (s : Shp) : (List Shp × List Bool) × Int :=
  if r.code = 28 then ((sh, has), 0)
  else if r.code = 25 then reachS n sh has (at' + r.a) s
  else if r.code = 26 then
    (if (reachS n sh has (at' + r.size) s).2 = 0 then reachS n (reachS n sh has (at' + r.size) s).1.1 (reachS n sh has (at' + r.size) s).1.2 (at' + r.a) s else reachS n sh has (at' + r.size) s)
  else reachS n sh has (at' + r.size) s
def throughS (p : Pg) (m : Meth) (n : Nat) (sh : List Shp) (has : List Bool) (at' : Nat) : (List Shp × List Bool) × Int :=
  if (effectS p m (readAt m.f4 at').code (readAt m.f4 at').a (readAt m.f4 at').b (sh.getD at' ([], 0))).2 ≠ 0 then ((sh, has), (effectS p m (readAt m.f4 at').code (readAt m.f4 at').a (readAt m.f4 at').b (sh.getD at' ([], 0))).2)
  else if m.f3 < ((effectS p m (readAt m.f4 at').code (readAt m.f4 at').a (readAt m.f4 at').b (sh.getD at' ([], 0))).1.1.length : Int) ∨ ((readAt m.f4 at').code = 28 ∧ 0 < (effectS p m (readAt m.f4 at').code (readAt m.f4 at').a (readAt m.f4 at').b (sh.getD at' ([], 0))).1.1.length) then ((sh, has), 22)
  else if (readAt m.f4 at').code = 28 ∧ (effectS p m (readAt m.f4 at').code (readAt m.f4 at').a (readAt m.f4 at').b (sh.getD at' ([], 0))).1.2 ≠ 0 then ((sh, has), 25)
  else onS n sh has at' (readAt m.f4 at') (effectS p m (readAt m.f4 at').code (readAt m.f4 at').a (readAt m.f4 at').b (sh.getD at' ([], 0))).1
theorem cells11b {W : World} {g : Nat} {x0 x1 x2 x3 x4 x5 x6 x7 x8 x9 x10 : Value} {q : TypeId} {fr : Nat × Nat} (h : W.heap[g]? = some (Obj.cells #[x0, x1, x2, x3, x4, x5, x6, x7, x8, x9, x10] q fr)) :
    W.cell? ⟨g, 0, none⟩ = some x0 ∧ W.cell? ⟨g, 1, none⟩ = some x1 ∧ W.cell? ⟨g, 2, none⟩ = some x2 ∧ W.cell? ⟨g, 3, none⟩ = some x3 ∧ W.cell? ⟨g, 4, none⟩ = some x4 ∧ W.cell? ⟨g, 5, none⟩ = some x5 ∧ W.cell? ⟨g, 6, none⟩ = some x6 ∧ W.cell? ⟨g, 7, none⟩ = some x7 :=
  ⟨(cell_of_row _ _ 0 _ _ _ h).trans rfl, (cell_of_row _ _ 1 _ _ _ h).trans rfl, (cell_of_row _ _ 2 _ _ _ h).trans rfl, (cell_of_row _ _ 3 _ _ _ h).trans rfl, (cell_of_row _ _ 4 _ _ _ h).trans rfl, (cell_of_row _ _ 5 _ _ _ h).trans rfl, (cell_of_row _ _ 6 _ _ _ h).trans rfl, (cell_of_row _ _ 7 _ _ _ h).trans rfl⟩
theorem shape_at {E : Env} {base : Nat} {W : World} {sh : List Shp} {has : List Bool} (h : WkI E base W sh has) (i : Nat) (hi : i < E.n) :
    ∃ O oc, W.cell? ⟨E.gs, i * 2, none⟩ = some (.slice O (sh.getD i ([], 0)).1.length oc) ∧ W.cell? ⟨E.gs, i * 2 + 1, none⟩ = some (.int .i64 (sh.getD i ([], 0)).2) ∧ (sh.getD i ([], 0)).1.length ≤ oc ∧ Kd.C (Kd.int .i64) W O (sh.getD i ([], 0)).1.length (sh.getD i ([], 0)).1 := by
  obtain ⟨cs, hcs, hsl, hsh⟩ := h.ss
  obtain ⟨v, hv, hv2, hown⟩ := hsh i hi
  obtain ⟨O, oc, rfl⟩ := own_slice hown
  refine ⟨O, oc, ?_, ?_, own_cap hown, RI_own hown⟩
  · rw [cell_of_row _ _ _ _ _ _ hcs]
    simpa [Nat.mul_comm] using hv
  · rw [cell_of_row _ _ _ _ _ _ hcs]
    simpa [Nat.mul_comm] using hv2
theorem far2 {W : World} {g k : Nat} {u v : Value} (h : k ≠ g) : ((W.setCell ⟨g, 0, none⟩ u).setCell ⟨g, 1, none⟩ v).heap[k]? = W.heap[k]? := by
  rw [Below.heap_setCell _ ⟨g, 1, none⟩ _ k h, Below.heap_setCell _ ⟨g, 0, none⟩ _ k h]
def Aft (W : World) (G0 : Nat) (rc ra rb rz : Int) (fs : List Int) (fh : Int) (T : Nat) (A3 : Option Addr) (c3 : Nat) (X : World) : Prop :=
  Below W.heap.size W X ∧ X.heap[T]? = some (.cells #[.slice A3 fs.length c3, .int .i64 fh] 81 (0, 0)) ∧ X.heap[G0]? = some (.cells #[.int .i64 rc, .int .i64 ra, .int .i64 rb, .int .i64 rz] 25 (0, 0)) ∧ X.ownsRow W.heap.size 3 1 (.slice A3 fs.length c3) fs.length (nums .i64 fs) ∧ W.heap.size ≤ T
section
variable {E : Env} {w0 W : World} {sh : List Shp} {has : List Bool}
set_option maxRecDepth 100000 in
set_option maxHeartbeats 6400000 in
theorem through_all (hE : Out E w0) (hW : WkI E w0.heap.size W sh has) (hb : Below w0.heap.size w0 W) (i : Nat) (hi : i < E.n) (hcode : 0 ≤ (readAt E.m.f4 i).code ∧ (readAt E.m.f4 i).code ≤ 40) (hname : namedS E.p E.m (readAt E.m.f4 i).code (readAt E.m.f4 i).a (readAt E.m.f4 i).b = true) (hai : I64 (readAt E.m.f4 i).a) (hflen : (effectS E.p E.m (readAt E.m.f4 i).code (readAt E.m.f4 i).a (readAt E.m.f4 i).b (sh.getD i ([], 0))).1.1.length ≤ 100000)
    (hh0 : 0 ≤ (sh.getD i ([], 0)).2) (hh1 : (sh.getD i ([], 0)).2 ≤ 10) (hlen : (sh.getD i ([], 0)).1.length ≤ 100000) (hjump : (readAt E.m.f4 i).code = 25 ∨ (readAt E.m.f4 i).code = 26 → 0 ≤ (i : Int) + (readAt E.m.f4 i).a) (hsize : 1 ≤ (readAt E.m.f4 i).size ∧ (readAt E.m.f4 i).size ≤ 3) (haa : -32768 ≤ (readAt E.m.f4 i).a ∧ (readAt E.m.f4 i).a ≤ 32767) :
    Calls Tryd.prog 136 #[.pointer (some ⟨E.G, 0, none⟩), .int .i64 i] W (RePost E w0 W (throughS E.p E.m E.n sh has i)) := by
  obtain ⟨y0, y1, y2, y3, y4, y5, y6, y7⟩ := cells11b hW.blk
  obtain ⟨x8, x9, x10⟩ := cells11 hW.blk
  obtain ⟨O, oc, u0, u1, hoc, hO⟩ := shape_at hW i hi
  have hn := hW.hn
  have hG : E.G < W.heap.size := block_lt_of_cell x8
  have hgs : E.gs < W.heap.size := block_lt_of_cell u0
  obtain ⟨r, hr⟩ : ∃ r, readAt E.m.f4 i = r := ⟨_, rfl⟩
  obtain ⟨t, ht⟩ : ∃ t, sh.getD i ([], 0) = t := ⟨_, rfl⟩
  obtain ⟨f, hf⟩ : ∃ f, effectS E.p E.m r.code r.a r.b t = f := ⟨_, rfl⟩
  rw [hr, ht] at hflen
  rw [hr] at hcode hname hai hjump hsize haa
  rw [ht] at u0 u1 hoc hO hh0 hh1 hlen
  have hrd : ∀ V, Below W.heap.size W V → Calls Tryd.prog 13 #[.slice E.B4 E.m.f4.length E.d4, .int .i64 i] V fun e w' => e = .returned (Rd.val r) ∧ Below V.heap.size V w' := fun V h => by
    have := read_calls (.slice E.B4 E.m.f4.length E.d4) E.m.f4 i V ((hE.below hb).below h).g ((hE.below hb).below h).by'
    rw [readS_at _ _ (by rw [← hE.len]; exact hi), hr] at this
    exact this
  have heff : ∀ V, Below W.heap.size W V → Calls Tryd.prog 60 #[.agg #[.slice E.A0 E.p.pool.length E.c0, .slice E.A1 E.p.classes.length E.c1, .slice E.A2 E.p.methods.length E.c2], .agg #[.slice E.B0 E.m.f0.length E.d0, .int .i64 E.m.f1, .slice E.B2 E.m.f2.length E.d2, .int .i64 E.m.f3, .slice E.B4 E.m.f4.length E.d4], .agg #[.int .i64 r.code, .int .i64 r.a, .int .i64 r.b, .int .i64 r.size], .agg #[.slice O t.1.length oc, .int .i64 t.2]] V (EffPost V f) := fun V h => by
    have := effect_calls (w := V) (S0 := O) (sc := oc) r.code r.a r.b r.size t hcode.1 hcode.2 hname ((hE.below hb).below h).pg ((hE.below hb).below h).mt hai hE.few hh0 hh1 (Kd.C_below hO h) hoc hlen
    rw [hf] at this
    exact this
  rw [hf] at hflen
  obtain ⟨⟨fs, fh⟩, fe⟩ := f
  dsimp only at hflen
  have hthr : throughS E.p E.m E.n sh has i = if fe ≠ 0 then ((sh, has), fe) else if E.m.f3 < (fs.length : Int) ∨ (r.code = 28 ∧ 0 < fs.length) then ((sh, has), 22) else if r.code = 28 ∧ fh ≠ 0 then ((sh, has), 25) else onS E.n sh has i r (fs, fh) := by
    unfold throughS; rw [hr, ht, hf]
  obtain ⟨R, hR⟩ : ∃ R, throughS E.p E.m E.n sh has i = R := ⟨_, rfl⟩
  rw [hR] at hthr ⊢
  have HRD := Lib.hid hrd
  have HEF := Lib.hid heff
  have HW := Lib.hid hW
  have HB := Lib.hid hb
  obtain ⟨rc, ra, rb, rz, re⟩ := r
  obtain ⟨ts, th⟩ := t
  dsimp only [Rd.val] at hrd heff hh0 hh1 hlen u0 u1 hoc hO hjump hsize hthr haa HRD HEF
  have i0 : (0 : Int) ≤ (i : Int) := by omega
  have i1 : (i : Int) < (E.n : Int) := by omega
  have hfl : fs.length ≤ 100000 := hflen
  have HJ := Lib.hid hjump
  have HR := Lib.hid hthr
  have rz0 := hsize.1
  have rz1 := hsize.2
  have ra0 := haa.1
  have ra1 := haa.2
  have hgh : E.gh < W.heap.size := (Array.getElem?_eq_some_iff.1 hW.hh).1
  clear hrd heff hW hb hr ht hf hE hO hi hcode hname hai hthr hR hflen hjump hsize haa
  go_enter Tryd.func136, Tryd.ntmps136
  go_wp2_with fail
  refine (HRD.out _ (Below.refl _ _)).mono ?_
  rintro e w1 ⟨rfl, hb1⟩
  go_upto_region 2 with (fail)
  obtain ⟨k0, k1, k2, k3⟩ := cellsV (heap_alloc_new w1 (.cells #[.int .i64 rc, .int .i64 ra, .int .i64 rb, .int .i64 rz] 25))
  have hV : Below W.heap.size W (w1.alloc (.cells #[.int .i64 rc, .int .i64 ra, .int .i64 rb, .int .i64 rz] 25)) := hb1.alloc hb1.size _
  have R1 := Lib.hid (heap_alloc_new w1 (.cells #[.int .i64 rc, .int .i64 ra, .int .i64 rb, .int .i64 rz] 25))
  generalize w1.alloc (.cells #[.int .i64 rc, .int .i64 ra, .int .i64 rb, .int .i64 rz] 25) = V at k0 k1 k2 k3 hV R1 ⊢
  have y0 := cell_be hV y0
  have y1 := cell_be hV y1
  have y2 := cell_be hV y2
  have y3 := cell_be hV y3
  have y4 := cell_be hV y4
  have y5 := cell_be hV y5
  have y6 := cell_be hV y6
  have y7 := cell_be hV y7
  have x9 := cell_be hV x9
  have u0 := cell_be hV u0
  have u1 := cell_be hV u1
  have HV := Lib.hid hV
  have hs1 := hb1.size
  clear hV hb1
  have szV : w1.heap.size < V.heap.size := block_lt_of_cell k0
  (try simp only [Act.put, List.setIfInBounds_toArray, List.set_cons_zero, List.set_cons_succ])
  go_cut [7, 8] (fun v7 v8 wc => ∃ (T : Nat) (A3 : Option Addr) (c3 : Nat), v7 = .pointer (some ⟨T, 0, none⟩) ∧ v8 = .int .i64 fe ∧ Aft W w1.heap.size rc ra rb rz fs fh T A3 c3 wc)
  case first =>
    have hVs := HV.out.size
    have nG : E.G ≠ V.heap.size := by omega
    have ns : E.gs ≠ V.heap.size := by omega
    have no : w1.heap.size ≠ V.heap.size := by omega
    go_region_held3 (fun w' => w'.cell? ⟨E.G, 0, none⟩ = some (.slice E.A0 E.p.pool.length E.c0) ∧ w'.cell? ⟨E.G, 1, none⟩ = some (.slice E.A1 E.p.classes.length E.c1) ∧ w'.cell? ⟨E.G, 2, none⟩ = some (.slice E.A2 E.p.methods.length E.c2) ∧ w'.cell? ⟨E.G, 3, none⟩ = some (.slice E.B0 E.m.f0.length E.d0) ∧ w'.cell? ⟨E.G, 4, none⟩ = some (.int .i64 E.m.f1) ∧ w'.cell? ⟨E.G, 5, none⟩ = some (.slice E.B2 E.m.f2.length E.d2) ∧ w'.cell? ⟨E.G, 6, none⟩ = some (.int .i64 E.m.f3) ∧ w'.cell? ⟨E.G, 7, none⟩ = some (.slice E.B4 E.m.f4.length E.d4) ∧ w'.cell? ⟨E.G, 9, none⟩ = some (.slice (some ⟨E.gs, 0, none⟩) E.n E.n) ∧ w'.cell? ⟨w1.heap.size, 0, none⟩ = some (.int .i64 rc) ∧ w'.cell? ⟨w1.heap.size, 1, none⟩ = some (.int .i64 ra) ∧ w'.cell? ⟨w1.heap.size, 2, none⟩ = some (.int .i64 rb) ∧ w'.cell? ⟨w1.heap.size, 3, none⟩ = some (.int .i64 rz) ∧ w'.cell? ⟨E.gs, i * 2, none⟩ = some (.slice O ts.length oc) ∧ w'.cell? ⟨E.gs, i * 2 + 1, none⟩ = some (.int .i64 th))
      (first | go_keep | (exact ⟨cell_be hb3 y0, cell_be hb3 y1, cell_be hb3 y2, cell_be hb3 y3, cell_be hb3 y4, cell_be hb3 y5, cell_be hb3 y6, cell_be hb3 y7, cell_be hb3 x9, cell_be hb3 k0, cell_be hb3 k1, cell_be hb3 k2, cell_be hb3 k3, cell_be hb3 u0, cell_be hb3 u1⟩) | (exact ⟨cell_be hb3 (cell_al y0 _), cell_be hb3 (cell_al y1 _), cell_be hb3 (cell_al y2 _), cell_be hb3 (cell_al y3 _), cell_be hb3 (cell_al y4 _), cell_be hb3 (cell_al y5 _), cell_be hb3 (cell_al y6 _), cell_be hb3 (cell_al y7 _), cell_be hb3 (cell_al x9 _), cell_be hb3 (cell_al k0 _), cell_be hb3 (cell_al k1 _), cell_be hb3 (cell_al k2 _), cell_be hb3 (cell_al k3 _), cell_be hb3 (cell_al u0 _), cell_be hb3 (cell_al u1 _)⟩) | (exact ⟨cell_al (cell_be hb3 y0) _, cell_al (cell_be hb3 y1) _, cell_al (cell_be hb3 y2) _, cell_al (cell_be hb3 y3) _, cell_al (cell_be hb3 y4) _, cell_al (cell_be hb3 y5) _, cell_al (cell_be hb3 y6) _, cell_al (cell_be hb3 y7) _, cell_al (cell_be hb3 x9) _, cell_al (cell_be hb3 k0) _, cell_al (cell_be hb3 k1) _, cell_al (cell_be hb3 k2) _, cell_al (cell_be hb3 k3) _, cell_al (cell_be hb3 u0) _, cell_al (cell_be hb3 u1) _⟩) | (exact ⟨(cell_far (p := ⟨V.heap.size, 1, none⟩) nG _).trans ((cell_far (p := ⟨V.heap.size, 0, none⟩) nG _).trans (cell_be hb3 (cell_al y0 _))), (cell_far (p := ⟨V.heap.size, 1, none⟩) nG _).trans ((cell_far (p := ⟨V.heap.size, 0, none⟩) nG _).trans (cell_be hb3 (cell_al y1 _))), (cell_far (p := ⟨V.heap.size, 1, none⟩) nG _).trans ((cell_far (p := ⟨V.heap.size, 0, none⟩) nG _).trans (cell_be hb3 (cell_al y2 _))), (cell_far (p := ⟨V.heap.size, 1, none⟩) nG _).trans ((cell_far (p := ⟨V.heap.size, 0, none⟩) nG _).trans (cell_be hb3 (cell_al y3 _))), (cell_far (p := ⟨V.heap.size, 1, none⟩) nG _).trans ((cell_far (p := ⟨V.heap.size, 0, none⟩) nG _).trans (cell_be hb3 (cell_al y4 _))), (cell_far (p := ⟨V.heap.size, 1, none⟩) nG _).trans ((cell_far (p := ⟨V.heap.size, 0, none⟩) nG _).trans (cell_be hb3 (cell_al y5 _))), (cell_far (p := ⟨V.heap.size, 1, none⟩) nG _).trans ((cell_far (p := ⟨V.heap.size, 0, none⟩) nG _).trans (cell_be hb3 (cell_al y6 _))), (cell_far (p := ⟨V.heap.size, 1, none⟩) nG _).trans ((cell_far (p := ⟨V.heap.size, 0, none⟩) nG _).trans (cell_be hb3 (cell_al y7 _))), (cell_far (p := ⟨V.heap.size, 1, none⟩) nG _).trans ((cell_far (p := ⟨V.heap.size, 0, none⟩) nG _).trans (cell_be hb3 (cell_al x9 _))), (cell_far (p := ⟨V.heap.size, 1, none⟩) no _).trans ((cell_far (p := ⟨V.heap.size, 0, none⟩) no _).trans (cell_be hb3 (cell_al k0 _))), (cell_far (p := ⟨V.heap.size, 1, none⟩) no _).trans ((cell_far (p := ⟨V.heap.size, 0, none⟩) no _).trans (cell_be hb3 (cell_al k1 _))), (cell_far (p := ⟨V.heap.size, 1, none⟩) no _).trans ((cell_far (p := ⟨V.heap.size, 0, none⟩) no _).trans (cell_be hb3 (cell_al k2 _))), (cell_far (p := ⟨V.heap.size, 1, none⟩) no _).trans ((cell_far (p := ⟨V.heap.size, 0, none⟩) no _).trans (cell_be hb3 (cell_al k3 _))), (cell_far (p := ⟨V.heap.size, 1, none⟩) ns _).trans ((cell_far (p := ⟨V.heap.size, 0, none⟩) ns _).trans (cell_be hb3 (cell_al u0 _))), (cell_far (p := ⟨V.heap.size, 1, none⟩) ns _).trans ((cell_far (p := ⟨V.heap.size, 0, none⟩) ns _).trans (cell_be hb3 (cell_al u1 _)))⟩) | (exact ⟨(cell_far (p := ⟨w3.heap.size, 1, none⟩) mG _).trans ((cell_far (p := ⟨w3.heap.size, 0, none⟩) mG _).trans (cell_al (cell_be hb3 y0) _)), (cell_far (p := ⟨w3.heap.size, 1, none⟩) mG _).trans ((cell_far (p := ⟨w3.heap.size, 0, none⟩) mG _).trans (cell_al (cell_be hb3 y1) _)), (cell_far (p := ⟨w3.heap.size, 1, none⟩) mG _).trans ((cell_far (p := ⟨w3.heap.size, 0, none⟩) mG _).trans (cell_al (cell_be hb3 y2) _)), (cell_far (p := ⟨w3.heap.size, 1, none⟩) mG _).trans ((cell_far (p := ⟨w3.heap.size, 0, none⟩) mG _).trans (cell_al (cell_be hb3 y3) _)), (cell_far (p := ⟨w3.heap.size, 1, none⟩) mG _).trans ((cell_far (p := ⟨w3.heap.size, 0, none⟩) mG _).trans (cell_al (cell_be hb3 y4) _)), (cell_far (p := ⟨w3.heap.size, 1, none⟩) mG _).trans ((cell_far (p := ⟨w3.heap.size, 0, none⟩) mG _).trans (cell_al (cell_be hb3 y5) _)), (cell_far (p := ⟨w3.heap.size, 1, none⟩) mG _).trans ((cell_far (p := ⟨w3.heap.size, 0, none⟩) mG _).trans (cell_al (cell_be hb3 y6) _)), (cell_far (p := ⟨w3.heap.size, 1, none⟩) mG _).trans ((cell_far (p := ⟨w3.heap.size, 0, none⟩) mG _).trans (cell_al (cell_be hb3 y7) _)), (cell_far (p := ⟨w3.heap.size, 1, none⟩) mG _).trans ((cell_far (p := ⟨w3.heap.size, 0, none⟩) mG _).trans (cell_al (cell_be hb3 x9) _)), (cell_far (p := ⟨w3.heap.size, 1, none⟩) mo _).trans ((cell_far (p := ⟨w3.heap.size, 0, none⟩) mo _).trans (cell_al (cell_be hb3 k0) _)), (cell_far (p := ⟨w3.heap.size, 1, none⟩) mo _).trans ((cell_far (p := ⟨w3.heap.size, 0, none⟩) mo _).trans (cell_al (cell_be hb3 k1) _)), (cell_far (p := ⟨w3.heap.size, 1, none⟩) mo _).trans ((cell_far (p := ⟨w3.heap.size, 0, none⟩) mo _).trans (cell_al (cell_be hb3 k2) _)), (cell_far (p := ⟨w3.heap.size, 1, none⟩) mo _).trans ((cell_far (p := ⟨w3.heap.size, 0, none⟩) mo _).trans (cell_al (cell_be hb3 k3) _)), (cell_far (p := ⟨w3.heap.size, 1, none⟩) ms _).trans ((cell_far (p := ⟨w3.heap.size, 0, none⟩) ms _).trans (cell_al (cell_be hb3 u0) _)), (cell_far (p := ⟨w3.heap.size, 1, none⟩) ms _).trans ((cell_far (p := ⟨w3.heap.size, 0, none⟩) ms _).trans (cell_al (cell_be hb3 u1) _))⟩))
      ((go_at_call 60; refine (HEF.out _ (by first | exact HV.out.drew | exact (HV.out.alloc hVs _).drew)).mono ?_; rintro e w3 ⟨v3, rfl, ho3, hb3⟩; obtain ⟨A3, c3, rfl⟩ := own_slice ho3; have hs3 := hb3.size; simp at hs3; have mG : E.G ≠ w3.heap.size := (by omega); have ms : E.gs ≠ w3.heap.size := (by omega); have mo : w1.heap.size ≠ w3.heap.size := (by omega); (try (have rzz := row_kept hb3 (row_drewV (heap_alloc_new V (.cells #[.slice none 0 0, .int .i64 0] 81))); obtain ⟨zz0, zz1⟩ := cells2V rzz; have ff0 := Lib.frozen_of_heap rzz 0; have ff1 := Lib.frozen_of_heap rzz 1))))
    all_goals
      go_wp2_with fail
      go_meet
      case rel =>
        have hP := HV.out
        first
        | exact ⟨w3.heap.size, A3, c3, rfl, rfl, (hP.drew.trans (hb3.mono hP.size)).alloc (Nat.le_trans hP.size hb3.size) _, heap_alloc_new w3 _, row_alloc (row_kept hb3 (row_drewV R1.out)) _, (row_base ho3 hP.size).alloc _, by omega⟩
        | exact ⟨V.heap.size, A3, c3, rfl, rfl, below_set2 ((hP.alloc hP.size _).drew.trans (hb3.mono (hP.alloc hP.size _).size)) hP.size _ _, set2V rzz _ _, (far2 no).trans (row_kept hb3 (row_drewV (row_alloc R1.out _))), row_base (own_set2 ho3 (by simp) _ _) (by simp; omega), hP.size⟩
  case rest =>
    obtain ⟨T, A3, c3, rfl, rfl, hX, hT, ho, hown, hTs⟩ := hcut
    clear y0 y1 y2 y3 y4 y5 y6 y7 x9 u0 u1 k0 k1 k2 k3
    obtain ⟨-, -, -, -, -, -, y6, -⟩ := cells11b (row_kept hX HW.out.blk)
    obtain ⟨t0, t1⟩ := cells2V hT
    obtain ⟨k0, k1, k2, k3⟩ := cellsV ho
    have hcap := own_cap hown
    have HX := Lib.hid hX
    have HO := Lib.hid hown
    have HT := Lib.hid hT
    have HK := Lib.hid ho
    have hGX : E.G < wc.heap.size := block_lt_of_cell y6
    have hTX : T < wc.heap.size := block_lt_of_cell t0
    have hoX : w1.heap.size < wc.heap.size := block_lt_of_cell k0
    have hreach : ∀ (V' : World) (sh' : List Shp) (has' : List Bool) (q : Int), 0 ≤ q → Below wc.heap.size wc V' ∨ True → WkI E w0.heap.size V' sh' has' → Below w0.heap.size w0 V' → Kd.C (Kd.int .i64) V' A3 fs.length fs →
        Calls Tryd.prog 163 #[.pointer (some ⟨E.G, 0, none⟩), .int .i64 q, .agg #[.slice A3 fs.length c3, .int .i64 fh]] V' (RePost E w0 V' (reachS E.n sh' has' q (fs, fh))) := fun V' sh' has' q h0 _ h1 h2 h3 => reach_calls h1 h2 q h0 (fs, fh) h3 hcap hfl
    have HRE := Lib.hid hreach
    have hdrew : ∀ nq, Below wc.heap.size wc (wc.drewN nq) := fun nq => below_drewN0 (Below.refl _ _) nq
    have HD := Lib.hid hdrew
    clear hX hT ho hown hreach hdrew
    obtain hR0 := HR.out
    by_cases he : fe = 0
    · subst he
      rw [if_neg (fun h => h rfl)] at hR0
      by_cases hst : E.m.f3 < (fs.length : Int)
      · rw [if_pos (.inl hst)] at hR0
        subst hR0
        have g1 : decide (E.m.f3 < (fs.length : Int)) = true := by simpa using hst
        go_wp2_with fail
        go_quiet (fail)
        go_wp2_with fail
        go_ret
        exact ⟨rfl, HW.out.below (below_drewN0 HX.out nq), HB.out.trans ((below_drewN0 HX.out nq).mono HB.out.size), Fr.of_below (below_drewN0 HX.out nq)⟩
      · have g1 : decide (E.m.f3 < (fs.length : Int)) = false := by simpa using hst
        by_cases h28 : rc = 28
        · subst h28
          by_cases hp : 0 < fs.length
          · rw [if_pos (.inr ⟨rfl, hp⟩)] at hR0
            subst hR0
            have g2 : decide (0 < fs.length) = true := by simpa using hp
            have g3 : decide ((0 : Int) < (fs.length : Int)) = true := by simpa using hp
            go_wp2_with fail
            go_quiet (fail)
            go_wp2_with fail
            go_ret
            exact ⟨rfl, HW.out.below (below_drewN0 HX.out nq), HB.out.trans ((below_drewN0 HX.out nq).mono HB.out.size), Fr.of_below (below_drewN0 HX.out nq)⟩
          · rw [if_neg (fun h => h.elim hst (fun h => hp h.2))] at hR0
            have g2 : decide (0 < fs.length) = false := by simpa using hp
            have g3 : decide ((0 : Int) < (fs.length : Int)) = false := by simpa using hp
            by_cases hz : fh = 0
            · rw [if_neg (fun h => h.2 hz)] at hR0
              have g4 : (fh != 0) = false := by rw [bne_eq_false_iff_eq]; exact hz
              have e0 : onS E.n sh has i ⟨28, ra, rb, rz, re⟩ (fs, fh) = ((sh, has), 0) := by unfold onS; rw [if_pos rfl]
              rw [e0] at hR0
              subst hR0
              go_wp2_with fail
              go_quiet (fail)
              go_wp2_with fail
              go_ret
              exact ⟨rfl, HW.out.below (below_drewN0 HX.out nq), HB.out.trans ((below_drewN0 HX.out nq).mono HB.out.size), Fr.of_below (below_drewN0 HX.out nq)⟩
            · rw [if_pos ⟨rfl, hz⟩] at hR0
              subst hR0
              have g4 : (fh != 0) = true := by rw [bne_iff_ne]; exact hz
              go_wp2_with fail
              go_quiet (fail)
              go_wp2_with fail
              go_ret
              exact ⟨rfl, HW.out.below (below_drewN0 HX.out nq), HB.out.trans ((below_drewN0 HX.out nq).mono HB.out.size), Fr.of_below (below_drewN0 HX.out nq)⟩
        · rw [if_neg (fun h => h.elim hst (fun h => h28 h.1)), if_neg (fun h => h28 h.1)] at hR0
          by_cases h25 : rc = 25
          · subst h25
            have e0 : onS E.n sh has i ⟨25, ra, rb, rz, re⟩ (fs, fh) = reachS E.n sh has (↑i + ra) (fs, fh) := by unfold onS; rw [if_neg (show ¬ (25 : Int) = 28 by decide), if_pos rfl]
            rw [e0] at hR0
            subst hR0
            have hj : 0 ≤ (i : Int) + ra := HJ.out (.inl rfl)
            clear e0 h28
            go_wp2_with fail
            go_quiet (fail)
            go_wp2_with fail
            have hc1 := HRE.out (wc.drewN nq) sh has (↑i + ra) hj (.inr trivial) (HW.out.below (below_drewN0 HX.out nq)) (HB.out.trans ((below_drewN0 HX.out nq).mono HB.out.size)) (RI_own (pw_own_below HO.out (HD.out nq)))
            refine hc1.mono ?_
            clear hc1
            rintro e w5 ⟨rfl, hI, hB5, hF⟩
            have HI := Lib.hid hI
            have HB5 := Lib.hid hB5
            have HF := Lib.hid hF
            clear hI hB5 hF
            go_wp2_with fail
            all_goals
              go_ret
              refine ⟨?_, HI.out, HB5.out, (Fr.of_below (below_drewN0 HX.out nq)).trans HF.out⟩
              first | rfl | simp [*]
          · by_cases h26 : rc = 26
            · subst h26
              have e0 : onS E.n sh has i ⟨26, ra, rb, rz, re⟩ (fs, fh) = (if (reachS E.n sh has (i + rz) (fs, fh)).2 = 0 then reachS E.n (reachS E.n sh has (i + rz) (fs, fh)).1.1 (reachS E.n sh has (i + rz) (fs, fh)).1.2 (i + ra) (fs, fh) else reachS E.n sh has (i + rz) (fs, fh)) := by unfold onS; rw [if_neg (show ¬ (26 : Int) = 28 by decide), if_neg (show ¬ (26 : Int) = 25 by decide), if_pos rfl]
              rw [e0] at hR0
              have hj : 0 ≤ (i : Int) + ra := HJ.out (.inr rfl)
              clear e0 h28 h25
              obtain ⟨⟨⟨sh1, has1⟩, e1⟩, hq⟩ : ∃ z, reachS E.n sh has (i + rz) (fs, fh) = z := ⟨_, rfl⟩
              rw [hq] at hR0
              dsimp only at hR0
              have HQ := Lib.hid hq
              have HR1 := Lib.hid hR0
              clear hq hR0
              go_wp2_with fail
              go_quiet (fail)
              go_wp2_with fail
              have hc1 := HRE.out (wc.drewN nq) sh has (↑i + rz) (by omega) (.inr trivial) (HW.out.below (below_drewN0 HX.out nq)) (HB.out.trans ((below_drewN0 HX.out nq).mono HB.out.size)) (RI_own (pw_own_below HO.out (HD.out nq)))
              rw [HQ.out] at hc1
              refine hc1.mono ?_
              clear hc1
              rintro e w5 ⟨rfl, hI, hB5, hF⟩
              have HI := Lib.hid hI
              have HB5 := Lib.hid hB5
              have HF := Lib.hid hF
              clear hI hB5 hF
              have t5 := HF.out.2 _ _ (show (wc.drewN nq).heap[T]? = _ from HT.out) (by omega) (by omega)
              have o5 := HF.out.2 _ _ (show (wc.drewN nq).heap[w1.heap.size]? = _ from HK.out) (by omega) (by omega)
              clear t0 t1 k0 k1 k2 k3
              obtain ⟨t0, t1⟩ := cells2V t5
              obtain ⟨k0, k1, k2, k3⟩ := cellsV o5
              clear t5 o5
              by_cases he1 : e1 = 0
              · subst he1
                have hR1 := HR1.out
                rw [if_pos rfl] at hR1
                subst hR1
                clear HR1
                have own5 : w5.ownsRow W.heap.size 3 1 (.slice A3 fs.length c3) fs.length (nums .i64 fs) := own_move HO.out fun k hk => by
                  have h1 := row_ge HO.out k hk
                  obtain ⟨cells, hc⟩ := own_typed HO.out k hk
                  exact (HF.out.2 k _ (show (wc.drewN nq).heap[k]? = _ from hc) (by omega) (by omega)).trans hc.symm
                have HO5 := Lib.hid own5
                clear own5
                go_wp2_with fail
                have hc2 := HRE.out w5 sh1 has1 (↑i + ra) hj (.inr trivial) HI.out HB5.out (RI_own HO5.out)
                refine hc2.mono ?_
                clear hc2
                rintro e w6 ⟨rfl, hI, hB6, hF6⟩
                have HI6 := Lib.hid hI
                have HB6 := Lib.hid hB6
                have HF6 := Lib.hid hF6
                clear hI hB6 hF6
                go_wp2_with fail
                go_ret
                exact ⟨rfl, HI6.out, HB6.out, ((Fr.of_below (below_drewN0 HX.out nq)).trans HF.out).trans HF6.out⟩
              · have hR1 := HR1.out
                rw [if_neg he1] at hR1
                subst hR1
                have g6 : (e1 == 0) = false := by simpa using he1
                clear HR1 he1
                go_wp2_with fail
                go_ret
                exact ⟨rfl, HI.out, HB5.out, (Fr.of_below (below_drewN0 HX.out nq)).trans HF.out⟩
            · have e0 : onS E.n sh has i ⟨rc, ra, rb, rz, re⟩ (fs, fh) = reachS E.n sh has (↑i + rz) (fs, fh) := by unfold onS; rw [if_neg h28, if_neg h25, if_neg h26]
              rw [e0] at hR0
              subst hR0
              have g2 : (rc == 28) = false := by simpa using h28
              have g3 : (rc != 28) = true := by simpa using h28
              have g4 : (rc == 25) = false := by simpa using h25
              have g5 : (rc != 25) = true := by simpa using h25
              have g6 : (rc == 26) = false := by simpa using h26
              clear e0 h28 h25 h26
              go_wp2_with fail
              go_quiet (fail)
              go_wp2_with fail
              have hc1 := HRE.out (wc.drewN nq) sh has (↑i + rz) (by omega) (.inr trivial) (HW.out.below (below_drewN0 HX.out nq)) (HB.out.trans ((below_drewN0 HX.out nq).mono HB.out.size)) (RI_own (pw_own_below HO.out (HD.out nq)))
              refine hc1.mono ?_
              clear hc1
              rintro e w5 ⟨rfl, hI, hB5, hF⟩
              have HI := Lib.hid hI
              have HB5 := Lib.hid hB5
              have HF := Lib.hid hF
              clear hI hB5 hF
              have t5 := HF.out.2 _ _ (show (wc.drewN nq).heap[T]? = _ from HT.out) (by omega) (by omega)
              have o5 := HF.out.2 _ _ (show (wc.drewN nq).heap[w1.heap.size]? = _ from HK.out) (by omega) (by omega)
              clear t0 t1 k0 k1 k2 k3
              obtain ⟨t0, t1⟩ := cells2V t5
              obtain ⟨k0, k1, k2, k3⟩ := cellsV o5
              clear t5 o5
              go_wp2_with fail
              all_goals
                go_ret
                refine ⟨?_, HI.out, HB5.out, (Fr.of_below (below_drewN0 HX.out nq)).trans HF.out⟩
                first | rfl | simp [*]
    · rw [if_pos he] at hR0
      subst hR0
      have h1 : (fe != 0) = true := by rw [bne_iff_ne]; exact he
      go_wp2_with fail
      go_ret
      exact ⟨rfl, HW.out.below HX.out, HB.out.trans (HX.out.mono HB.out.size), Fr.of_below HX.out⟩
end
end Go.Proofs.YtkphijabhoppnaaDoor
