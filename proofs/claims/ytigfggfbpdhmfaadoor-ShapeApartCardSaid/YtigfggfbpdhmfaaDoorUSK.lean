/- The law on what is kept holds of the lifted functions. No conditions. -/
import Derived.Test.YtigfggfbpdhmfaaDoorUSL
set_option linter.all false
namespace Go.Vx
set_option maxRecDepth 100000

theorem shp_zero {x w : Int} (w0 : 0 ≤ w) (w1 : w ≤ 3) (h : shpL x w = 0) : x = 0 := by
  rcases shpL_mem x with hx | ⟨f, f1, f2, f3⟩
  · rw [← hx w]; exact h
  · exfalso
    have hk := allI (allI (show ldForms.all (fun f => four.all fun i => !(valF f i == 0)) = true by kernel_rfl) f f1) w (mem_four w0 w1)
    rw [← f3 w w0 w1, h] at hk
    simp at hk
theorem mirL_zero {x : Int} (h : mirL x = 0) : x = 0 := by
  have h2 := mirL_mirL x
  rw [h] at h2
  have h0 : mirL 0 = 0 := by kernel_rfl
  exact h2.symm.trans h0
theorem Mir_zero {x l : Int} {b : Bool} (h : Mir x l b = 0) : x = 0 := by
  unfold Mir at h
  split at h
  · exact h
  · exact mirL_zero h
theorem frmV_bd (a b : Bool) : 0 ≤ frmV a b ∧ frmV a b ≤ 3 := by cases a <;> cases b <;> decide
theorem g1_zero {x l : Int} {p s : Option Int} {b : Bool} (h : g1 x p s l b = 0) : x = 0 := by
  unfold g1 at h
  split at h
  · exact Mir_zero h
  · exact shp_zero (frmV_bd _ _).1 (frmV_bd _ _).2 h
theorem gv_zero {x l : Int} {p s : Option Int} {b : Bool} (hx : x ≠ 0) (h : gv x p s l b = 0) : p = some 1604 ∧ x ∈ lig4 := by
  unfold gv at h
  split at h
  · assumption
  · exfalso
    unfold ligS at h
    split at h
    · split at h
      · split at h
        · rename_i hy
          have := (lig_val hy (fstF x p)).1
          simp only [Option.getD_some] at h
          omega
        · exact hx (g1_zero h)
      · exact hx (g1_zero h)
    · exact hx (g1_zero h)
theorem gv_plain {x l : Int} {p s : Option Int} {b : Bool} (hj : joiL x = 0) (hs : shpL x 0 = x) (hm : l % 2 = 0 ∨ mirL x = x) : gv x p s l b = x := by
  have h4 : x ∉ lig4 := fun h => by rw [lig4_join h] at hj; cases hj
  have hl : x ≠ 1604 := fun h => by rw [h, lam_join] at hj; cases hj
  unfold gv ligS
  rw [if_neg (fun h => h4 h.2), if_neg hl]
  show g1 x p s l b = x
  have hf : frmV (fstF x p) (sndF x s) = 0 := by
    unfold fstF sndF
    rw [hj]; rfl
  unfold g1
  rw [hf, if_pos hs]
  unfold Mir
  split
  · rfl
  · rename_i hc
    rcases hm with h | h
    · exact absurd (.inl h) hc
    · exact h
theorem gv_lam {p s : Option Int} {l y : Int} {b : Bool} (hs : s = some y) (hy : y ∈ lig4) : 65269 ≤ gv 1604 p s l b ∧ gv 1604 p s l b ≤ 65276 := by
  unfold gv ligS
  rw [if_neg (fun h => lam_lig h.2), if_pos rfl, hs]
  dsimp only
  rw [if_pos hy]
  exact lig_val hy _

theorem shapeKeeps_true (r levels : List Int) (boxes : Bool) : lapwinglaw20_ShapeKeeps r levels boxes = some true := by
  refine Yields.eq ?_
  unfold lapwinglaw20_ShapeKeeps
  rw [awake20, bindO_eq]
  refine .ite (fun _ => .ret rfl) (fun hg => ?_)
  have hg : lenL r ≤ 150 ∧ lenL levels = lenL r := by
    by_cases h1 : 150 < lenL r
    · simp [h1] at hg
    · simp [h1] at hg; exact ⟨by omega, hg⟩
  obtain ⟨hr, hlv⟩ := hg
  rw [load_eq, bindO_eq]
  refine .bind _ (glyphs_spec boxes hlv (by omega)) fun g ⟨hf, hgv⟩ => ?_
  rw [show (!((lenL g) == (lenL r))) = false by simp [hf], iteO_false]
  refine .cut (fun o => o = .go ()) ?_ ?_
  · refine .loop (fun i => 0 ≤ i ∧ i ≤ lenL r) (fun i => (lenL r - i).toNat) ⟨by omega, lenL_nn _⟩ ?_
    rintro i ⟨i0, i1⟩
    refine .ite (fun h => ?_) (fun h => .ret rfl)
    have h : i < lenL r := by simpa using h
    have next : Yields (chk (inR .i64 (i + 1)) (some (Fl.go (i + 1)))) (StepP (fun i : Int => 0 ≤ i ∧ i ≤ lenL r) (fun i => (lenL r - i).toNat) (fun o : Fl Unit Bool => o = .go ()) i) := .chk (inR64 (by omega) (by omega)) (.ret ⟨⟨by omega, by omega⟩, by dsimp only; omega⟩)
    simp only [show ∀ x : Int, 0 + x = x from fun x => by omega, bnd1]
    refine .chk ⟨i0, h⟩ (.call (join_L _) (.chk (fun _ => ⟨i0, h⟩) ?_))
    refine .bind (fun v4 => joiL (getL 0 r i) = 0 → v4 = shpL (getL 0 r i) 0) ?_ fun v4 h4 => ?_
    · by_cases hj : joiL (getL 0 r i) = 0
      · rw [show (joiL (getL 0 r i) == 0) = true by simp [hj], if_pos rfl, shape_L]
        exact .ret (fun _ => rfl)
      · rw [show (joiL (getL 0 r i) == 0) = false by simp [hj]]
        exact .ret (fun h => absurd h hj)
    refine .chk (fun _ => ⟨i0, h⟩) (.chk (fun _ => ⟨i0, h⟩) ?_)
    try dsimp only
    refine .chk (fun _ => ⟨i0, by omega⟩) (.chk (fun _ => ⟨i0, h⟩) ?_)
    have hp : ∀ c, c = (if (if (joiL (getL 0 r i) == 0) = true then (v4 == getL 0 r i) else false) = true then (!((getL 0 r i) == 0)) else false) → (c = true → joiL (getL 0 r i) = 0 ∧ shpL (getL 0 r i) 0 = getL 0 r i) := by
      intro c hc hct
      rw [hct] at hc
      by_cases hj : joiL (getL 0 r i) = 0
      · refine ⟨hj, ?_⟩
        rw [← h4 hj]
        by_cases hv : v4 = getL 0 r i
        · exact hv
        · simp [hj, hv] at hc
      · simp [hj] at hc
    generalize hcd : (if (if (joiL (getL 0 r i) == 0) = true then (v4 == getL 0 r i) else false) = true then (!((getL 0 r i) == 0)) else false) = c at *
    have hp := hp c rfl
    refine .bind (fun v5 => c = true → ¬ getL 0 levels i % 2 = 0 → v5 = mirL (getL 0 r i)) ?_ fun v5 h5 => ?_
    · by_cases hc : (c && (c && !((getL 0 levels i) % 2 == 0))) = true
      · rw [if_pos hc, mirror_L]
        exact .ret (fun _ _ => rfl)
      · rw [if_neg hc]
        refine .ret (fun h1 h2 => ?_)
        simp [h1, h2] at hc
    refine .chk (fun _ => ⟨i0, h⟩) (.chk (fun _ => ⟨i0, by omega⟩) (.chk (fun _ => ⟨i0, h⟩) ?_))
    rw [hgv i i0 h]
    refine .ite (fun hc => ?_) (fun _ => .chk ⟨i0, by omega⟩ (.chk (fun _ => ⟨i0, h⟩) (.ite (fun hz => ?_) (fun _ => next))))
    · exfalso
      by_cases hct : c = true
      · obtain ⟨q1, q2⟩ := hp hct
        by_cases hl : getL 0 levels i % 2 = 0
        · have := gv_plain (p := prevS r i) (s := nextS r i) (b := boxes) q1 q2 (.inl hl)
          unfold gvAt at hc
          rw [this] at hc
          simp [hct] at hc
        · by_cases hm : mirL (getL 0 r i) = getL 0 r i
          · have := gv_plain (l := getL 0 levels i) (p := prevS r i) (s := nextS r i) (b := boxes) q1 q2 (.inr hm)
            unfold gvAt at hc
            rw [this] at hc
            simp [hct] at hc
          · have := h5 hct hl
            simp [hct, hl, this, hm] at hc
      · simp [hct] at hc
    · have hz : gvAt r levels boxes i = 0 ∧ getL 0 r i ≠ 0 := by
        by_cases h1 : gvAt r levels boxes i = 0
        · refine ⟨h1, ?_⟩
          simpa [h1] using hz
        · simp [h1] at hz
      obtain ⟨z1, z2⟩ := gv_zero hz.2 hz.1
      refine .bind _ (before_spec i0 h (by omega)) fun k hk => ?_
      have hpk := isB_prev i0 hk
      by_cases hk0 : 0 ≤ k
      · rw [if_pos hk0, z1] at hpk
        have hpk : getL 0 r k = 1604 := (Option.some.inj hpk).symm
        have hki : k < i := by rcases hk with ⟨a, _⟩ | ⟨_, a, _⟩ <;> omega
        have hA : IsA r k i := isB_isA h (by unfold J; rw [lig4_join z2]; decide) hk0 hk
        have hnx := isA_next hk0 (by omega) hA
        rw [if_pos i0] at hnx
        refine .chk (fun _ => ⟨hk0, by omega⟩) (.chk (fun _ => ⟨hk0, by omega⟩) (.chk (fun _ => ⟨hk0, by omega⟩) ?_))
        rw [hgv k hk0 (by omega)]
        have hb : 65269 ≤ gvAt r levels boxes k ∧ gvAt r levels boxes k ≤ 65276 := by
          unfold gvAt
          rw [hpk]
          exact gv_lam hnx z2
        refine .ite (fun hc => ?_) (fun _ => next)
        exfalso
        rw [hpk] at hc
        rw [show (decide (k < 0)) = false by simp; omega, show (decide (gvAt r levels boxes k < 65269)) = false by simp; omega, show (decide (65276 < gvAt r levels boxes k)) = false by simp; omega] at hc
        simp at hc
      · rw [if_neg hk0, z1] at hpk
        cases hpk
  · rintro o rfl
    exact .go (.ret rfl)
end Go.Vx
