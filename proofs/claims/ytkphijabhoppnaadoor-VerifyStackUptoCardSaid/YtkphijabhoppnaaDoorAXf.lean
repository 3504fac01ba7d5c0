/- VerifyStack walked. -/
import Derived.Test.YtkphijabhoppnaaDoorAXe
namespace Go.Proofs.YtkphijabhoppnaaDoor
open Go.RowKit Go.Proofs.YtkphijabhoppnaaDoorW.PrintWords
set_option linter.unusedSimpArgs false
set_option linter.unusedVariables false
def TruePostV (w : World) (e : Ending) (w' : World) : Prop := e = .returned (.bool true) ∧ Below w.heap.size w w'
theorem info64 : (Tryd.prog.info? 64).map (fun i => (i.zero, i.size, i.bytes)) = some (some (.agg #[.slice none 0 0, .int .i64 0, .slice none 0 0, .int .i64 0, .slice none 0 0]), 5, 88) := by kernel_rfl
theorem own_some {w : World} {base : Nat} {e : TypeId} {size : Nat} {v : Value} {n : Nat} {xs : List Value} (h : w.ownsRow base e size v n xs) (hn : 0 < n) :
    ∃ g cap cur, v = .slice (some ⟨g, 0, none⟩) n cap ∧ base ≤ g ∧ w.heap[g]? = some (.cells cur e (0, 0)) ∧ n ≤ cap ∧ cap ≤ maxLen ∧ cur.size = cap * size ∧ cur.toList.take (n * size) = xs := by
  rcases h.2 with ⟨-, h0⟩ | h
  · omega
  · exact h
theorem QR.far {W0 w : World} {g : Nat} {ad : Addr} {n k : Nat} {s : Int} (h : QR W0 w g ad n k s) {Q i : Nat} (hne : g ≠ Q) {u : Value} : QR W0 (w.setCell ⟨Q, i, none⟩ u) g ad n k s := by
  obtain ⟨cells, hc⟩ := h.row
  exact ⟨⟨cells, (Below.heap_setCell _ ⟨Q, i, none⟩ _ _ hne).trans hc⟩, fun j i' hj hi hn v hv => (cell_far (p := ⟨Q, i, none⟩) hne _).trans (h.at' j i' hj hi hn v hv), (cell_far (p := ⟨Q, i, none⟩) hne _).trans h.one⟩
section
variable {w : World} {A0 A1 A2 : Option Addr} {c0 c1 c2 : Nat} {p : Pg} {ad : Addr}
/-- The methods' cells, one behind the other. -/
theorem rows_news (hp : PgX w A0 c0 A1 c1 (some ad) c2 p) : ∃ news : List Value, news.length = p.methods.length * 5 ∧ (∀ j u, news[j]? = some u → w.cell? (ad.add j) = some u) ∧ ∀ u ∈ news, u.oneCell' = true := by
  have hcell : ∀ j, j < p.methods.length * 5 → ∃ u, w.cell? (ad.add j) = some u ∧ u.oneCell' = true := fun j hj => by
    obtain ⟨ad', B0, d0, B2, d2, B4, d4, hM⟩ := mth_at hp (j / 5) (by omega)
    obtain rfl : ad = ad' := Option.some.inj hM.e
    have m0 : w.cell? (ad.add (j / 5 * 5 + 0)) = _ := hM.m0
    have m1 := hM.m1; rw [← add_field _ _ 1 (by omega)] at m1
    have m2 := hM.m2; rw [← add_field _ _ 2 (by omega)] at m2
    have m3 := hM.m3; rw [← add_field _ _ 3 (by omega)] at m3
    have m4 := hM.m4; rw [← add_field _ _ 4 (by omega)] at m4
    have hr : j % 5 = 0 ∨ j % 5 = 1 ∨ j % 5 = 2 ∨ j % 5 = 3 ∨ j % 5 = 4 := by omega
    rcases hr with h | h | h | h | h
    · exact ⟨_, by rw [show j = j / 5 * 5 + 0 by omega]; exact m0, rfl⟩
    · exact ⟨_, by rw [show j = j / 5 * 5 + 1 by omega]; exact m1, rfl⟩
    · exact ⟨_, by rw [show j = j / 5 * 5 + 2 by omega]; exact m2, rfl⟩
    · exact ⟨_, by rw [show j = j / 5 * 5 + 3 by omega]; exact m3, rfl⟩
    · exact ⟨_, by rw [show j = j / 5 * 5 + 4 by omega]; exact m4, rfl⟩
  refine ⟨(List.range (p.methods.length * 5)).map fun j => (w.cell? (ad.add j)).getD undef, by simp, fun j u hj => ?_, fun u hu => ?_⟩
  · obtain ⟨hl, he⟩ := List.getElem?_eq_some_iff.1 hj
    simp at hl he
    obtain ⟨x, hx, -⟩ := hcell j hl
    rw [hx] at he ⊢
    simpa using he
  · obtain ⟨j, hj, rfl⟩ := List.mem_map.1 hu
    obtain ⟨x, hx, h1⟩ := hcell j (List.mem_range.1 hj)
    rw [hx]
    exact h1
end
section
variable {w : World} {A0 A1 A2 : Option Addr} {c0 c1 c2 : Nat} {p : Pg}
set_option maxRecDepth 100000 in
set_option maxHeartbeats 1600000 in
theorem stackLaw_not (hp : PgX w A0 c0 A1 c1 A2 c2 p) (hG : Glob w) (m more : Int) (h : fewS p = false ∨ m < 0 ∨ (p.methods.length : Int) ≤ m ∨ more < 0 ∨ 10 < more) :
    Calls Tryd.prog 6 #[.agg #[.slice A0 p.pool.length c0, .slice A1 p.classes.length c1, .slice A2 p.methods.length c2], .int .i64 m, .int .i64 more] w (TruePostV w) := by
  have hA : Below w.heap.size w (w.alloc (obP A0 c0 A1 c1 A2 c2 p)) := (Below.refl _ w).alloc (Nat.le_refl _) _
  have hrow := heap_alloc_new w (obP A0 c0 A1 c1 A2 c2 p)
  have hK := known15 _ (hG.below hA)
  obtain ⟨fw, hfw⟩ : ∃ fw, fewS p = fw := ⟨_, rfl⟩
  have hF : ∀ V, Below w.heap.size w V → Calls Tryd.prog 28 #[.agg #[.slice A0 p.pool.length c0, .slice A1 p.classes.length c1, .slice A2 p.methods.length c2]] V fun e w' => e = .returned (.bool fw) ∧ Below V.heap.size V w' := fun V hV => by
    have := few_calls (hp.below hV).pg hp.small
    rwa [hfw] at this
  rw [hfw] at h
  have HA := Lib.hid hA
  have HR := Lib.hid hrow
  have HF := Lib.hid hF
  clear hA hrow hF hp hG hfw
  cases fw with
  | false =>
    clear h
    go_enter Tryd.func6, Tryd.ntmps6
    go_wp2_with (first | (go_at_call 27; refine hK.mono ?_; rintro e w1 ⟨rfl, hb1⟩; obtain ⟨y0, y1, y2⟩ := cells3V (row_kept hb1 HR.out); have B1 := Lib.hid (HA.out.trans (hb1.mono HA.out.size)); have R1 := Lib.hid (row_kept hb1 HR.out); clear hb1) | (go_at_call 28; refine (HF.out _ B1.out).mono ?_; rintro e w2 ⟨rfl, hb2⟩))
    go_ret
    exact ⟨rfl, B1.out.trans (hb2.mono B1.out.size)⟩
  | true =>
    by_cases h1 : m < 0
    · have t1 : decide (m < 0) = true := decide_eq_true h1
      clear h h1
      go_enter Tryd.func6, Tryd.ntmps6
      go_wp2_with (first | (go_at_call 27; refine hK.mono ?_; rintro e w1 ⟨rfl, hb1⟩; obtain ⟨y0, y1, y2⟩ := cells3V (row_kept hb1 HR.out); have B1 := Lib.hid (HA.out.trans (hb1.mono HA.out.size)); have R1 := Lib.hid (row_kept hb1 HR.out); clear hb1) | (go_at_call 28; refine (HF.out _ B1.out).mono ?_; rintro e w2 ⟨rfl, hb2⟩))
      go_ret
      exact ⟨rfl, B1.out.trans (hb2.mono B1.out.size)⟩
    · have t1 : decide (m < 0) = false := decide_eq_false h1
      by_cases h2 : (p.methods.length : Int) ≤ m
      · have t2 : decide ((p.methods.length : Int) ≤ m) = true := decide_eq_true h2
        clear h h1 h2
        go_enter Tryd.func6, Tryd.ntmps6
        go_wp2_with (first | (go_at_call 27; refine hK.mono ?_; rintro e w1 ⟨rfl, hb1⟩; obtain ⟨y0, y1, y2⟩ := cells3V (row_kept hb1 HR.out); have B1 := Lib.hid (HA.out.trans (hb1.mono HA.out.size)); have R1 := Lib.hid (row_kept hb1 HR.out); clear hb1) | (go_at_call 28; refine (HF.out _ B1.out).mono ?_; rintro e w2 ⟨rfl, hb2⟩; clear y0 y1 y2; obtain ⟨y0, y1, y2⟩ := cells3V (row_kept hb2 R1.out)))
        go_ret
        exact ⟨rfl, B1.out.trans (hb2.mono B1.out.size)⟩
      · have t2 : decide ((p.methods.length : Int) ≤ m) = false := decide_eq_false h2
        by_cases h3 : more < 0
        · have t3 : decide (more < 0) = true := decide_eq_true h3
          clear h h1 h2 h3
          go_enter Tryd.func6, Tryd.ntmps6
          go_wp2_with (first | (go_at_call 27; refine hK.mono ?_; rintro e w1 ⟨rfl, hb1⟩; obtain ⟨y0, y1, y2⟩ := cells3V (row_kept hb1 HR.out); have B1 := Lib.hid (HA.out.trans (hb1.mono HA.out.size)); have R1 := Lib.hid (row_kept hb1 HR.out); clear hb1) | (go_at_call 28; refine (HF.out _ B1.out).mono ?_; rintro e w2 ⟨rfl, hb2⟩; clear y0 y1 y2; obtain ⟨y0, y1, y2⟩ := cells3V (row_kept hb2 R1.out)))
          go_ret
          exact ⟨rfl, B1.out.trans (hb2.mono B1.out.size)⟩
        · have t3 : decide (more < 0) = false := decide_eq_false h3
          have t4 : decide (10 < more) = true := decide_eq_true (by simp at h; omega)
          clear h h1 h2 h3
          go_enter Tryd.func6, Tryd.ntmps6
          go_wp2_with (first | (go_at_call 27; refine hK.mono ?_; rintro e w1 ⟨rfl, hb1⟩; obtain ⟨y0, y1, y2⟩ := cells3V (row_kept hb1 HR.out); have B1 := Lib.hid (HA.out.trans (hb1.mono HA.out.size)); have R1 := Lib.hid (row_kept hb1 HR.out); clear hb1) | (go_at_call 28; refine (HF.out _ B1.out).mono ?_; rintro e w2 ⟨rfl, hb2⟩; clear y0 y1 y2; obtain ⟨y0, y1, y2⟩ := cells3V (row_kept hb2 R1.out)))
          go_ret
          exact ⟨rfl, B1.out.trans (hb2.mono B1.out.size)⟩
set_option maxRecDepth 100000 in
set_option maxHeartbeats 1600000 in
theorem stackLaw_bad (hp : PgX w A0 c0 A1 c1 A2 c2 p) (hG : Glob w) (m more : Int) (h : fewS p = true) (h1 : 0 ≤ m) (h2 : m < (p.methods.length : Int)) (h3 : 0 ≤ more) (h4 : more ≤ 10) (hm : (mthS p m).2 ≠ 0) :
    Calls Tryd.prog 6 #[.agg #[.slice A0 p.pool.length c0, .slice A1 p.classes.length c1, .slice A2 p.methods.length c2], .int .i64 m, .int .i64 more] w (TruePostV w) := by
  have hA : Below w.heap.size w (w.alloc (obP A0 c0 A1 c1 A2 c2 p)) := (Below.refl _ w).alloc (Nat.le_refl _) _
  have hrow := heap_alloc_new w (obP A0 c0 A1 c1 A2 c2 p)
  have hK := known15 _ (hG.below hA)
  have hF : ∀ V, Below w.heap.size w V → Calls Tryd.prog 28 #[.agg #[.slice A0 p.pool.length c0, .slice A1 p.classes.length c1, .slice A2 p.methods.length c2]] V fun e w' => e = .returned (.bool true) ∧ Below V.heap.size V w' := fun V hV => by
    have := few_calls (hp.below hV).pg hp.small
    rwa [h] at this
  obtain ⟨⟨ra, er⟩, her⟩ : ∃ er, mthS p m = er := ⟨_, rfl⟩
  have hM : ∀ V, Below w.heap.size w V → Calls Tryd.prog 29 #[.agg #[.slice A0 p.pool.length c0, .slice A1 p.classes.length c1, .slice A2 p.methods.length c2], .int .i64 m] V (MePost V (ra, er)) := fun V hV => by
    have := Method_calls (hp.below hV) (hG.below hV) (few_par h) m
    rwa [her] at this
  rw [her] at hm
  dsimp only at hm
  have t0 : (er != 0) = true := by simpa using hm
  have t1 : decide (m < 0) = false := decide_eq_false (by omega)
  have t2 : decide ((p.methods.length : Int) ≤ m) = false := decide_eq_false (by omega)
  have t3 : decide (more < 0) = false := decide_eq_false (by omega)
  have t4 : decide (10 < more) = false := decide_eq_false (by omega)
  have HA := Lib.hid hA
  have HR := Lib.hid hrow
  have HF := Lib.hid hF
  have HM := Lib.hid hM
  clear hA hrow hF hM hp hG h hm her h1 h2 h3 h4
  go_enter Tryd.func6, Tryd.ntmps6
  go_wp2_with (first | (go_at_call 27; refine hK.mono ?_; rintro e w1 ⟨rfl, hb1⟩; obtain ⟨y0, y1, y2⟩ := cells3V (row_kept hb1 HR.out); have B1 := Lib.hid (HA.out.trans (hb1.mono HA.out.size)); have R1 := Lib.hid (row_kept hb1 HR.out); clear hb1) | (go_at_call 28; refine (HF.out _ B1.out).mono ?_; rintro e w2 ⟨rfl, hb2⟩; clear y0 y1 y2; obtain ⟨y0, y1, y2⟩ := cells3V (row_kept hb2 R1.out); have B2 := Lib.hid (B1.out.trans (hb2.mono B1.out.size)); clear hb2) | (go_at_call 29; refine (HM.out _ B2.out).mono ?_; rintro e w3 ⟨rfl, hb3⟩))
  go_ret
  exact ⟨rfl, B2.out.trans (hb3.mono B2.out.size)⟩
set_option maxRecDepth 100000 in
set_option maxHeartbeats 3200000 in
theorem stackLaw_ok (hp : PgX w A0 c0 A1 c1 A2 c2 p) (hG : Glob w) (k : Nat) (more : Int) (h : fewS p = true) (hk : k < p.methods.length) (h3 : 0 ≤ more) (h4 : more ≤ 10) (hm : (mthS p k).2 = 0) :
    Calls Tryd.prog 6 #[.agg #[.slice A0 p.pool.length c0, .slice A1 p.classes.length c1, .slice A2 p.methods.length c2], .int .i64 k, .int .i64 more] w (TruePostV w) := by
  have hA : Below w.heap.size w (w.alloc (obP A0 c0 A1 c1 A2 c2 p)) := (Below.refl _ w).alloc (Nat.le_refl _) _
  have hrow := heap_alloc_new w (obP A0 c0 A1 c1 A2 c2 p)
  have hK := known15 _ (hG.below hA)
  have hf := few_par h
  have hF : ∀ V, Below w.heap.size w V → Calls Tryd.prog 28 #[.agg #[.slice A0 p.pool.length c0, .slice A1 p.classes.length c1, .slice A2 p.methods.length c2]] V fun e w' => e = .returned (.bool true) ∧ Below V.heap.size V w' := fun V hV => by
    have := few_calls (hp.below hV).pg hp.small
    rwa [h] at this
  have hM : ∀ V, Below w.heap.size w V → Calls Tryd.prog 29 #[.agg #[.slice A0 p.pool.length c0, .slice A1 p.classes.length c1, .slice A2 p.methods.length c2], .int .i64 k] V (MePost V ((mthS p k).1, 0)) := fun V hV => by
    have := Method_calls (hp.below hV) (hG.below hV) hf k
    rw [show mthS p k = ((mthS p k).1, 0) from Prod.ext rfl hm] at this
    exact this
  obtain ⟨ad, B0, d0, B2, d2, B4, d4, hMA⟩ := mth_at hp k hk
  obtain rfl := hMA.e
  have hck : checkS p = 0 := by
    unfold mthS at hm
    by_cases hx : (k : Int) < 0 ∨ (p.methods.length : Int) ≤ k ∨ checkS p ≠ 0
    · rw [if_pos hx] at hm; simp at hm
    · omega
  have hsz := sizes_zero ((check_sizes hck).2.1 (methS p k) (getD_in (by rw [Int.toNat_natCast]; exact hk)))
  have hn := (check_sizes hck).2.2.2.2
  have hQM : ∀ (V : World) (s : Int) (g cap : Nat), Below w.heap.size w V → QR w V g ad p.methods.length k s → 0 ≤ s → s ≤ 40 → p.methods.length ≤ cap → cap ≤ 9223372036854775807 →
      Calls Tryd.prog 29 #[.agg #[.slice A0 p.pool.length c0, .slice A1 p.classes.length c1, .slice (some ⟨g, 0, none⟩) p.methods.length cap], .int .i64 k] V (MePost V (mthS (stkP p k s) k)) := fun V s g cap hV hQ h0 h40 hc1 hc2 => by
    have := Method_calls (qr_pgx hp hV hk hQ hc1 hc2) (hG.below hV) (few_stk hf) k
    have hl : (stkP p k s).methods.length = p.methods.length := List.length_set
    rw [hl] at this
    exact this
  obtain ⟨S, hS⟩ : ∃ S, (methS p k).f3 = S := ⟨_, rfl⟩
  have hSr : 0 ≤ S ∧ S ≤ 40 := by rw [← hS]; exact hsz.2.1
  have hok : (mthS (stkP p k S) k).2 = 0 := by rw [← hS, stkP_self p k hk]; exact hm
  have hless : ∀ s, 0 ≤ s → s ≤ S → (mthS (stkP p k s) k).2 = 0 ∨ (mthS (stkP p k s) k).2 = 22 := fun s h0 hs => by
    rw [mth_stk hk hck s ⟨h0, by omega⟩]
    rw [mth_stk hk hck S hSr] at hok
    exact method_less hs hok
  have hmore : ∀ s t, 0 ≤ s → s ≤ t → t ≤ 40 → (mthS (stkP p k s) k).2 = 0 → (mthS (stkP p k t) k).2 = 0 := fun s t h0 hs ht hz => by
    rw [mth_stk hk hck s ⟨h0, by omega⟩] at hz
    rw [mth_stk hk hck t ⟨by omega, ht⟩]
    exact method_more hs hz
  obtain ⟨news, hnl, hnc, hn1⟩ := rows_news hp
  have m3 := hMA.m3
  rw [hS] at m3
  have t1 : decide ((k : Int) < 0) = false := decide_eq_false (by omega)
  have t2 : decide ((p.methods.length : Int) ≤ (k : Int)) = false := decide_eq_false (by omega)
  have t2' : decide (p.methods.length ≤ k) = false := decide_eq_false (by omega)
  have t2'' : ¬ (p.methods.length ≤ k) := by omega
  have t3 : decide (more < 0) = false := decide_eq_false (by omega)
  have t4 : decide (10 < more) = false := decide_eq_false (by omega)
  have i0 : (0 : Int) ≤ (k : Int) := by omega
  have i1 : (k : Int) < (p.methods.length : Int) := by omega
  have HP := Lib.hid hp
  have HA := Lib.hid hA
  have HR := Lib.hid hrow
  have HF := Lib.hid hF
  have HM := Lib.hid hM
  have HQM := Lib.hid hQM
  have HSr := Lib.hid hSr
  have HOK := Lib.hid hok
  have HLESS := Lib.hid hless
  have HMORE := Lib.hid hmore
  have HNEW := Lib.hid (And.intro hnl (And.intro hnc hn1))
  have HM3 := Lib.hid m3
  have HMA := Lib.hid hMA
  have HN := Lib.hid hn
  have HKK := Lib.hid hk
  have H34 := Lib.hid (And.intro h3 h4)
  clear hA hrow hF hM hp hG h hm hk h3 h4 hf hMA hck hsz hn hQM hS hSr hok hless hmore hnl hnc hn1 m3
  go_enter Tryd.func6, Tryd.ntmps6
  go_upto_region 9 with (first | (go_at_call 27; refine hK.mono ?_; rintro e w1 ⟨rfl, hb1⟩; obtain ⟨y0, y1, y2⟩ := cells3V (row_kept hb1 HR.out); have B1 := Lib.hid (HA.out.trans (hb1.mono HA.out.size)); have R1 := Lib.hid (row_kept hb1 HR.out); clear hb1) | (go_at_call 28; refine (HF.out _ B1.out).mono ?_; rintro e w2 ⟨rfl, hb2⟩; clear y0 y1 y2; obtain ⟨y0, y1, y2⟩ := cells3V (row_kept hb2 R1.out); have B2 := Lib.hid (B1.out.trans (hb2.mono B1.out.size)); have R2 := Lib.hid (row_kept hb2 R1.out); clear hb2) | (go_at_call 29; refine (HM.out _ B2.out).mono ?_; rintro e w3 ⟨rfl, hb3⟩; clear y0 y1 y2; obtain ⟨y0, y1, y2⟩ := cells3V (row_kept hb3 R2.out); have B3 := Lib.hid (B2.out.trans (hb3.mono B2.out.size)); have R3 := Lib.hid (row_kept hb3 R2.out); clear hb3))
  have hV0 : Below w.heap.size w (w3.alloc (obP A0 c0 A1 c1 (some ad) c2 p)) := B3.out.alloc B3.out.size _
  have hPV := row_alloc R3.out (obP A0 c0 A1 c1 (some ad) c2 p)
  have hQV := heap_alloc_new w3 (obP A0 c0 A1 c1 (some ad) c2 p)
  have hsV : (w3.alloc (obP A0 c0 A1 c1 (some ad) c2 p)).heap.size = w3.heap.size + 1 := by simp
  have hs3 := B3.out.size
  obtain ⟨V, hV⟩ : ∃ V, w3.alloc (obP A0 c0 A1 c1 (some ad) c2 p) = V := ⟨_, rfl⟩
  rw [hV] at hV0 hPV hQV hsV ⊢
  obtain ⟨Q, hQ⟩ : ∃ Q, w3.heap.size = Q := ⟨_, rfl⟩
  rw [hQ] at hQV hsV hs3 ⊢
  have hQe := hQ
  clear hV hQ y0 y1 y2 B1 B2 B3 R1 R2 hK
  have hPl := (Array.getElem?_eq_some_iff.1 hPV).1
  have hPQ : w.heap.size ≠ Q := by rw [← hQe]; have := (Array.getElem?_eq_some_iff.1 R3.out).1; omega
  clear hQe R3
  obtain ⟨y0, y1, y2⟩ := cells3V hPV
  obtain ⟨z0, z1, z2⟩ := cells3V hQV
  have fz := Lib.frozen_of_heap hQV 2
  have HV0 := Lib.hid hV0
  have HPV := Lib.hid hPV
  have HQV := Lib.hid hQV
  have HsV := Lib.hid hsV
  clear hV0 hPV hQV hsV
  obtain ⟨i0', hi', hz0, hz1, hz2⟩ := info_parts info64
  have hemp : (V.alloc (.cells #[] 64)).ownsRow V.heap.size 64 5 (.slice (some ⟨V.heap.size, 0, none⟩) 0 0) 0 [] :=
    ⟨rfl, .inr ⟨V.heap.size, 0, #[], rfl, Nat.le_refl _, heap_alloc_new V _, Nat.le_refl _, by simp, rfl, rfl⟩⟩
  have hnn := HN.out
  have hQl : Q < V.heap.size := by have := HsV.out; omega
  go_upto_region 10 with (at_builtin; go_loud (refine wpList_append_own _ rfl _ _ 57 rfl V.heap.size 64 i0' _ 5 88 Tryd.underlying57 hi' hz0 hz1 hz2 rfl (by decide) (.slice (some ⟨V.heap.size, 0, none⟩) 0 0) 0 [] rfl hemp ad p.methods.length c2 news rfl HNEW.out.1 (fun j u hu => cell_al (cell_be HV0.out (HNEW.out.2.1 j u hu)) _) HNEW.out.2.2 (by unfold maxLen; omega) (by omega) (by simp) ?_; intro v' w1 hown' hgrow _; rw [Nat.zero_add, List.nil_append] at hown'; have hbl := ((Below.refl V.heap.size V).alloc (Nat.le_refl _) (.cells #[] 64)).grown hgrow (by simp) (row_ge hemp); have hQ1 := (hbl.block Q hQl).trans HQV.out; clear z0 z1 z2 fz; obtain ⟨z0, z1, z2⟩ := cells3V hQ1; have fz := Lib.frozen_of_heap hQ1 2; obtain ⟨g, cap, cur, rfl, hg1, hg2, hg3, hg4, hg5, hg6⟩ := own_some hown' (by have := HKK.out; omega)))
  have hgl : g < w1.heap.size := (Array.getElem?_eq_some_iff.1 hg2).1
  have hwg : w.heap.size ≤ g := by omega
  have hgQ : g ≠ Q := by omega
  have hgP : g ≠ w.heap.size := by omega
  have hq1 : QR w w1 g ad p.methods.length k S := by
    have hat : ∀ j u, news[j]? = some u → w1.cell? ⟨g, j, none⟩ = some u := fun j u hu => by
      rw [cell_of_row _ _ _ _ _ _ hg2]
      have h6 : (cur.toList.take (p.methods.length * 5))[j]? = some u := by rw [hg6]; exact hu
      have hjl := (List.getElem?_eq_some_iff.1 h6).1
      rw [List.getElem?_take_of_lt (by simp at hjl; omega)] at h6
      simpa using h6
    have hnew : ∀ j u, j < p.methods.length * 5 → w.cell? (ad.add j) = some u → news[j]? = some u := fun j u hj hu => by
      have hl : j < news.length := by rw [HNEW.out.1]; exact hj
      have h2 := HNEW.out.2.1 j _ (List.getElem?_eq_getElem hl)
      rw [h2] at hu
      rw [List.getElem?_eq_getElem hl]
      exact hu
    refine ⟨⟨cur, hg2⟩, fun j i hj hi _ u hu => hat _ _ (hnew _ _ (by omega) hu), hat _ _ (hnew _ _ (by have := HKK.out; omega) ?_)⟩
    have m3 := HM3.out
    rwa [← add_field _ _ 3 (by omega)] at m3
  have hW0 : Below w.heap.size w (w1.setCell ⟨Q, 2, none⟩ (.slice (some ⟨g, 0, none⟩) p.methods.length cap)) := (HV0.out.trans (hbl.mono HV0.out.size)).setCell (p := ⟨Q, 2, none⟩) hs3 _
  have hQR : QR w (w1.setCell ⟨Q, 2, none⟩ (.slice (some ⟨g, 0, none⟩) p.methods.length cap)) g ad p.methods.length k S := hq1.far hgQ
  have hP1 : (w1.setCell ⟨Q, 2, none⟩ (.slice (some ⟨g, 0, none⟩) p.methods.length cap)).heap[w.heap.size]? = some (obP A0 c0 A1 c1 (some ad) c2 p) := (Below.heap_setCell _ ⟨Q, 2, none⟩ _ _ (show w.heap.size ≠ Q from hPQ)).trans ((hbl.block _ hPl).trans HPV.out)
  have hQ2 : (w1.setCell ⟨Q, 2, none⟩ (.slice (some ⟨g, 0, none⟩) p.methods.length cap)).heap[Q]? = some (.cells #[.slice A0 p.pool.length c0, .slice A1 p.classes.length c1, .slice (some ⟨g, 0, none⟩) p.methods.length cap] 59 (0, 0)) :=
    set_list (l := [.slice A0 p.pool.length c0, .slice A1 p.classes.length c1, .slice (some ad) p.methods.length c2]) hQ1 2 _ rfl (by simp)
  obtain ⟨W4, hW4⟩ : ∃ W4, w1.setCell ⟨Q, 2, none⟩ (.slice (some ⟨g, 0, none⟩) p.methods.length cap) = W4 := ⟨_, rfl⟩
  rw [hW4] at hW0 hQR hP1 hQ2 ⊢
  have HW0 := Lib.hid hW0
  have HQR := Lib.hid hQR
  have HP1 := Lib.hid hP1
  have HQ2 := Lib.hid hQ2
  have HC := Lib.hid (And.intro hg3 hg4)
  clear hW4 hW0 hQR hP1 hQ2 hq1 hg1 hg2 hg3 hg4 hg5 hg6 hgl hbl hQ1 hown' hgrow z0 z1 z2 fz y0 y1 y2 hemp hnn hi' hz0 hz1 hz2
  go_wp2_with fail
  obtain ⟨T, rfl⟩ : ∃ T : Nat, S = T := ⟨S.toNat, by have := HSr.out; omega⟩
  go_loopg [10] (T + 1) (fun g2 s10 wx => ∃ j : Nat, j + g2 = T + 1 ∧ s10 = .int .i64 j ∧ Hid (Below w.heap.size w wx ∧ (∃ t, QR w wx g ad p.methods.length k t) ∧ wx.heap[w.heap.size]? = some (obP A0 c0 A1 c1 (some ad) c2 p) ∧ wx.heap[Q]? = some (.cells #[.slice A0 p.pool.length c0, .slice A1 p.classes.length c1, .slice (some ⟨g, 0, none⟩) p.methods.length cap] 59 (0, 0)) ∧ ∀ i : Nat, i < j → (mthS (stkP p k i) k).2 ≠ 0))
  case atStart => exact ⟨0, by omega, rfl, Lib.hid ⟨HW0.out, ⟨_, HQR.out⟩, HP1.out, HQ2.out, fun i hi => by omega⟩⟩
  case round =>
    obtain ⟨j, hjg, rfl, HJ⟩ := hrel
    clear HW0 HQR HP1 HQ2
    cases gk with
    | zero => exact absurd HOK.out (HJ.out.2.2.2.2 T (by omega))
    | succ g2 =>
      have hjT : j ≤ T := by omega
      have hT40 := HSr.out.2
      have ht : decide ((j : Int) ≤ (T : Int)) = true := decide_eq_true (by omega)
      obtain ⟨tq, hq⟩ := HJ.out.2.1
      obtain ⟨y0, y1, y2⟩ := cells3V HJ.out.2.2.1
      obtain ⟨z0, z1, z2⟩ := cells3V HJ.out.2.2.2.1
      have m3 := cell_be HJ.out.1 HM3.out
      have one := hq.one
      obtain ⟨cells, hrow⟩ := hq.row
      have fz := Lib.frozen_of_heap hrow (k * 5 + 3)
      have hb1 : Below w.heap.size w (wr.setCell ⟨g, k * 5 + 3, none⟩ (.int .i64 j)) := HJ.out.1.setCell (p := ⟨g, k * 5 + 3, none⟩) hwg _
      have hq1 : QR w (wr.setCell ⟨g, k * 5 + 3, none⟩ (.int .i64 j)) g ad p.methods.length k j := hq.set ⟨_, one⟩
      have hp1 := (Below.heap_setCell wr ⟨g, k * 5 + 3, none⟩ (.int .i64 j) w.heap.size (Ne.symm hgP)).trans HJ.out.2.2.1
      have hr1 := (Below.heap_setCell wr ⟨g, k * 5 + 3, none⟩ (.int .i64 j) Q (Ne.symm hgQ)).trans HJ.out.2.2.2.1
      have hme := HQM.out _ j g cap hb1 hq1 (by omega) (by omega) HC.out.1 (by have := HC.out.2; unfold maxLen at this; omega)
      have hcase := HLESS.out j (by omega) (by omega)
      obtain ⟨⟨ra, re⟩, hr⟩ : ∃ r, mthS (stkP p k j) k = r := ⟨_, rfl⟩
      rw [hr] at hme hcase
      dsimp only at hcase
      have HB1 := Lib.hid hb1
      have HQ1 := Lib.hid hq1
      have HP1 := Lib.hid hp1
      have HR1 := Lib.hid hr1
      have HME := Lib.hid hme
      have HRR := Lib.hid hr
      clear hq hrow hb1 hq1 hp1 hr1 hme hr
      by_cases h0 : re = 0
      · subst h0
        clear hcase
        obtain ⟨hm0, hm1⟩ := H34.out
        have u0 : (0 : Int) ≤ (j : Int) := by omega
        have u1 : (j : Int) ≤ 40 := by omega
        by_cases hbig : 40 < (j : Int) + more
        · have tb : decide (40 < (j : Int) + more) = true := decide_eq_true hbig
          clear hbig
          go_wp2_with (first | (go_at_call 29; refine HME.out.mono ?_; rintro e w6 ⟨rfl, hb6⟩; clear y0 y1 y2 z0 z1 z2 one fz m3; obtain ⟨y0, y1, y2⟩ := cells3V (row_kept hb6 HP1.out); obtain ⟨z0, z1, z2⟩ := cells3V (row_kept hb6 HR1.out); have hq6 := HQ1.out.below hb6; have one := hq6.one; obtain ⟨cells6, hrow6⟩ := hq6.row; have fz := Lib.frozen_of_heap hrow6 (k * 5 + 3); have hb6' := HB1.out.trans (hb6.mono HB1.out.size); have m3 := cell_be hb6' HM3.out; have B6 := Lib.hid hb6'; have Q6 := Lib.hid hq6; have P6 := Lib.hid (row_kept hb6 HP1.out); have R6 := Lib.hid (row_kept hb6 HR1.out); clear hb6 hq6 hrow6 hb6'))
          try rw [Exit.noGoto_ret]
          go_ret
          exact ⟨rfl, B6.out.setCell (p := ⟨g, k * 5 + 3, none⟩) hwg _⟩
        · have tb : decide (40 < (j : Int) + more) = false := decide_eq_false hbig
          have hz2 : (mthS (stkP p k ((j : Int) + more)) k).2 = 0 := HMORE.out j ((j : Int) + more) (by omega) (by omega) (by omega) (by rw [HRR.out])
          have hme2 : ∀ V, Below w.heap.size w V → QR w V g ad p.methods.length k ((j : Int) + more) → Calls Tryd.prog 29 #[.agg #[.slice A0 p.pool.length c0, .slice A1 p.classes.length c1, .slice (some ⟨g, 0, none⟩) p.methods.length cap], .int .i64 k] V (MePost V ((mthS (stkP p k ((j : Int) + more)) k).1, 0)) := fun V hV hQ => by
            have := HQM.out V ((j : Int) + more) g cap hV hQ (by omega) (by omega) HC.out.1 (by have := HC.out.2; unfold maxLen at this; omega)
            rw [show mthS (stkP p k ((j : Int) + more)) k = ((mthS (stkP p k ((j : Int) + more)) k).1, 0) from Prod.ext rfl hz2] at this
            exact this
          have HME2 := Lib.hid hme2
          clear hbig hz2 hme2
          go_wp2_with (first | (go_at_call 29; refine HME.out.mono ?_; rintro e w6 ⟨rfl, hb6⟩; clear y0 y1 y2 z0 z1 z2 one fz m3; obtain ⟨y0, y1, y2⟩ := cells3V (row_kept hb6 HP1.out); obtain ⟨z0, z1, z2⟩ := cells3V (row_kept hb6 HR1.out); have hq6 := HQ1.out.below hb6; have one := hq6.one; obtain ⟨cells6, hrow6⟩ := hq6.row; have fz := Lib.frozen_of_heap hrow6 (k * 5 + 3); have hb6' := HB1.out.trans (hb6.mono HB1.out.size); have m3 := cell_be hb6' HM3.out; have B6 := Lib.hid hb6'; have Q6 := Lib.hid hq6; have P6 := Lib.hid (row_kept hb6 HP1.out); have R6 := Lib.hid (row_kept hb6 HR1.out); clear hb6 hq6 hrow6 hb6') | (go_at_call 29; refine (HME2.out _ (B6.out.setCell (p := ⟨g, k * 5 + 3, none⟩) hwg _) (Q6.out.set ⟨_, Q6.out.one⟩)).mono ?_; rintro e w7 ⟨rfl, hb7⟩; have hb7' := (B6.out.setCell (p := ⟨g, k * 5 + 3, none⟩) hwg (.int .i64 ((j : Int) + more))).trans (hb7.mono (by have := B6.out.size; simpa using this)); clear y0 y1 y2 m3; obtain ⟨y0, y1, y2⟩ := cells3V (row_kept hb7 ((Below.heap_setCell w6 ⟨g, k * 5 + 3, none⟩ (.int .i64 ((j : Int) + more)) w.heap.size (Ne.symm hgP)).trans P6.out)); have m3 := cell_be hb7' HM3.out; have B7 := Lib.hid hb7'; clear hb7 hb7'))
          try rw [Exit.noGoto_ret]
          go_ret
          exact ⟨rfl, B7.out⟩
      · have h22 : re = 22 := hcase.resolve_left h0
        subst h22
        clear hcase h0
        go_wp2_with (first | (go_at_call 29; refine HME.out.mono ?_; rintro e w6 ⟨rfl, hb6⟩))
        go_roundg g2
        case measure => omega
        case rel =>
          refine ⟨j + 1, by omega, by first | rfl | simp, Lib.hid ⟨HB1.out.trans (hb6.mono HB1.out.size), ⟨_, HQ1.out.below hb6⟩, row_kept hb6 HP1.out, row_kept hb6 HR1.out, fun i hi => ?_⟩⟩
          by_cases hij : i = j
          · subst hij; rw [HRR.out]; show (22 : Int) ≠ 0; decide
          · exact HJ.out.2.2.2.2 i (by omega)
end
end Go.Proofs.YtkphijabhoppnaaDoor
