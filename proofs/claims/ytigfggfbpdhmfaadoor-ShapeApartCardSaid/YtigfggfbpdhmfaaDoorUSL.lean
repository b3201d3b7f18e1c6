/- The laws of what letters look like hold of the lifted functions. No conditions. -/
import Derived.Test.YtigfggfbpdhmfaaDoorUG
set_option linter.all false
namespace Go.Vx
set_option maxRecDepth 100000

/-! Mirrors. -/
theorem mir_box (x : Int) : (9472 ≤ mirL x ∧ mirL x ≤ 9631) ↔ (9472 ≤ x ∧ x ≤ 9631) := by
  rcases mirF_mem ldMirror x with h | ⟨p, h1, h2⟩
  · rw [show mirL x = x from h]
  · have := allI (show (ends ldMirror).all (fun r => (decide (9472 ≤ mirL r) && decide (mirL r ≤ 9631)) == (decide (9472 ≤ r) && decide (r ≤ 9631))) = true by kernel_rfl) x (mem_ends h1 h2)
    have this : (decide (9472 ≤ mirL x) && decide (mirL x ≤ 9631)) = (decide (9472 ≤ x) && decide (x ≤ 9631)) := by simpa using this
    constructor
    · rintro ⟨a, b⟩
      rw [decide_eq_true a, decide_eq_true b] at this
      simpa using this.symm
    · rintro ⟨a, b⟩
      rw [decide_eq_true a, decide_eq_true b] at this
      simpa using this
theorem mir_mir (x l : Int) (b : Bool) : Mir (Mir x l b) l b = x := by
  unfold Mir
  by_cases h : l % 2 = 0 ∨ (9472 ≤ x ∧ x ≤ 9631 ∧ b = false)
  · rw [if_pos h, if_pos h]
  · rw [if_neg h, if_neg, mirL_mirL]
    rintro (h1 | ⟨h1, h2, h3⟩)
    · exact h (.inl h1)
    · have := (mir_box x).1 ⟨h1, h2⟩
      exact h (.inr ⟨this.1, this.2, h3⟩)
theorem shapeMirrors_true (r level : Int) (boxes : Bool) : lapwinglaw20_ShapeMirrors r level boxes = some true := by
  unfold lapwinglaw20_ShapeMirrors
  rw [awake20, bindO_eq, load_eq, bindO_eq, mirror_spec, bindO_eq]
  dsimp only
  rw [if_pos rfl, mirror_spec, bindO_eq, mir_mir, bnd1]
  have h2 : level % 2 = 0 ∨ level % 2 = 1 := by omega
  have key : (level % 2 = 1 ∨ Mir r level boxes = r) ∧ (9472 ≤ r → r ≤ 9631 → boxes = true ∨ Mir r level boxes = r) := by
    constructor
    · rcases h2 with h | h
      · exact .inr (by unfold Mir; rw [if_pos (.inl h)])
      · exact .inl h
    · intro a b
      cases boxes
      · exact .inr (by unfold Mir; rw [if_pos (.inr ⟨a, b, rfl⟩)])
      · exact .inl rfl
  obtain ⟨k1, k2⟩ := key
  generalize Mir r level boxes = m at k1 k2 ⊢
  have e1 : (if ((level % 2) == 1) = true then true else (m == r)) = true := by
    rcases k1 with h | h
    · simp [h]
    · simp [h]
  have e2 : (if (if (!(if (decide (9472 ≤ r)) = true then (decide (r ≤ 9631)) else false)) = true then true else boxes) = true then true else (m == r)) = true := by
    by_cases a : 9472 ≤ r
    · by_cases b : r ≤ 9631
      · rcases k2 a b with h | h
        · simp [h]
        · simp [h]
      · simp [b]
    · simp [a]
  simp only [beq_self_eq_true, if_true, e1, e2]

/-! Who joins is joined. -/
theorem shapeJoins_true (r : List Int) : lapwinglaw20_ShapeJoins r = some true := by
  refine Yields.eq ?_
  unfold lapwinglaw20_ShapeJoins
  rw [awake20, bindO_eq]
  refine .ite (fun _ => .ret rfl) (fun hg => ?_)
  have hr : lenL r ≤ 150 := by simpa using hg
  rw [load_eq, bindO_eq]
  refine .bind _ (forms_spec (by omega)) fun f ⟨hf, hfg⟩ => ?_
  rw [show (!((lenL f) == (lenL r))) = false by simp [hf], iteO_false]
  refine .cut (fun o => o = .go ()) ?_ ?_
  · refine .loop (fun i => 0 ≤ i ∧ i ≤ lenL r) (fun i => (lenL r - i).toNat) ⟨by omega, lenL_nn _⟩ ?_
    rintro i ⟨i0, i1⟩
    refine .ite (fun h => ?_) (fun h => .ret rfl)
    have h : i < lenL r := by simpa using h
    refine .bind _ (after_spec i0 h (by omega)) fun k hk => ?_
    simp only [show ∀ x : Int, 0 + x = x from fun x => by omega]
    refine .chk ⟨i0, by omega⟩ (.chk (fun _ => ⟨i0, by omega⟩) ?_)
    have hnx := isA_next i0 h hk
    have hkn : k < lenL r ∧ (0 ≤ k → i < k) := by rcases hk with ⟨a, _⟩ | ⟨a, b, _⟩ <;> omega
    rw [hfg i i0 h]
    rw [show (if ((frmAt r i) == 2) = true then true else ((frmAt r i) == 3)) = sndF (getL 0 r i) (nextS r i) from frmV_snd' _ _, hnx]
    refine .ite (fun hc => ?_) (fun _ => ?_)
    · exfalso
      by_cases h0 : 0 ≤ k
      · simp [show ¬ k < 0 by omega] at hc
        omega
      · simp [h0, sndF] at hc
        omega
    · refine .chk (fun _ => ⟨i0, h⟩) ?_
      by_cases h0 : 0 ≤ k
      · rw [decide_eq_true h0, if_pos rfl, join_L, bindO_eq]
        refine .chk (fun _ => ⟨h0, by omega⟩) (.chk (fun _ => ⟨h0, by omega⟩) ?_)
        rw [hfg k h0 hkn.1]
        rw [show (if ((frmAt r k) == 1) = true then true else ((frmAt r k) == 3)) = fstF (getL 0 r k) (prevS r k) from frmV_fst _ _]
        refine .ite (fun hc => ?_) (fun _ => .chk (inR64 (by omega) (by omega)) (.ret ⟨⟨by omega, by omega⟩, by dsimp only; omega⟩))
        exfalso
        by_cases hj : J r i = 4
        · simp [show joiL (getL 0 r i) = 4 from hj] at hc
        · rw [isB_prev h0 (isA_isB i0 hj h0 hk), if_pos h0, if_pos i0] at hc
          unfold sndF fstF at hc
          dsimp only at hc
          rw [Bool.and_comm (jB _) (jA _)] at hc
          simp at hc
      · rw [decide_eq_false h0]
        simp only [Bool.false_eq_true, if_false]
        rw [bindO_eq]
        refine .chk (fun h => by cases h) (.chk (fun h => by simp at h) ?_)
        rw [iteO_false]
        exact .chk (inR64 (by omega) (by omega)) (.ret ⟨⟨by omega, by omega⟩, by dsimp only; omega⟩)
  · rintro o rfl
    exact .go (.ret rfl)
end Go.Vx
