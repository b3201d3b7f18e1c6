/- The law of what stands at the end holds of the lifted functions. No conditions. -/
import Derived.Test.YtigfggfbpdhmfaaDoorUC
import Derived.Test.YtigfggfbpdhmfaaDoorUTwinO
set_option linter.all false
namespace Go.Vx
set_option maxRecDepth 100000

theorem awake19 : lapwinglaw19_awake = some true := (lapwinglaw19_awake_le).of (ok_true (by kernel_rfl))
theorem clone_eq {s : List Int} (h : growOk 8 (lenL s)) : slices_Clone___int_int_ s = some s := by
  unfold slices_Clone___int_int_
  rw [nilO_eq]
  · show chk (growOk 8 (lenL s)) (some s) = some s
    rw [chk_ok h]
  · intro h0
    have : s = [] := by cases s with | nil => rfl | cons x l => simp [lenL] at h0; omega
    subst this
    show some [] = chk (growOk 8 (lenL ([] : List Int))) (some [])
    rw [chk_ok h]

def passedB (c : Int) : Bool := c == 13 || c == 10 || c == 15 || c == 16 || c == 17 || c == 18 || c == 19 || c == 20 || c == 21 || c == 22 || c == 23
theorem passed_eq (c : Int) : order_passed c = some (passedB c) := by
  unfold order_passed passedB
  generalize (c == 13) = b1; generalize (c == 10) = b2; generalize (c == 15) = b3; generalize (c == 16) = b4; generalize (c == 17) = b5; generalize (c == 18) = b6
  generalize (c == 19) = b7; generalize (c == 20) = b8; generalize (c == 21) = b9; generalize (c == 22) = b10; generalize (c == 23) = b11
  cases b1 <;> try rfl
  cases b2 <;> try rfl
  cases b3 <;> try rfl
  cases b4 <;> try rfl
  cases b5 <;> try rfl
  cases b6 <;> try rfl
  cases b7 <;> try rfl
  cases b8 <;> try rfl
  cases b9 <;> try rfl
  cases b10 <;> try rfl
  cases b11 <;> rfl

/-- Whether all from i on, to the next place that ends a part, is passed by. -/
def endF (f : Int → Int) : Nat → Int → Bool
  | 0, _ => true
  | k + 1, i => if f (i + 1) == 11 || f (i + 1) == 12 then true else if passedB (f (i + 1)) then endF f k (i + 1) else false
def zF (f : Int → Int) (n i : Int) : Bool := (f i == 11 || f i == 12) || (passedB (f i) && endF f (n - 1 - i).toNat i)
theorem reset_spec {r levels : List Int} (base : Int) (hl : lenL r = lenL levels) (hb : lenL levels ≤ 100000) :
    Yields (order_Reset dLoad r levels base) (fun q => lenL q = lenL levels ∧ ∀ k, 0 ≤ k → k < lenL levels → getL 0 q k = if zF (fun i => clsL (getL 0 r i)) (lenL levels) k = true then base else getL 0 levels k) := by
  have hn := lenL_nn levels
  unfold order_Reset
  rw [clone_eq (grOk hn (by omega) (by omega)), bindO_eq, show (!((lenL r) == (lenL levels))) = false by simp [hl], iteO_false, hl]
  refine .cut (fun o => ∃ q, o = .go q ∧ lenL q = lenL levels ∧ ∀ k, 0 ≤ k → k < lenL levels → getL 0 q k = if zF (fun i => clsL (getL 0 r i)) (lenL levels) k = true then base else getL 0 levels k) ?_ ?_
  · refine .chk (inR64 (by omega) (by omega)) ?_
    refine .loop (fun x => -1 ≤ x.2.1 ∧ x.2.1 < lenL levels ∧ x.1 = endF (fun i => clsL (getL 0 r i)) (lenL levels - 1 - x.2.1).toNat x.2.1 ∧ lenL x.2.2 = lenL levels ∧
      ∀ k, 0 ≤ k → k < lenL levels → getL 0 x.2.2 k = if x.2.1 < k ∧ zF (fun i => clsL (getL 0 r i)) (lenL levels) k = true then base else getL 0 levels k) (fun x => (x.2.1 + 1).toNat) ⟨by dsimp only; omega, by dsimp only; omega, ?_, rfl, fun k k0 k1 => ?_⟩ ?_
    · dsimp only
      rw [show (lenL levels - 1 - (lenL levels - 1)).toNat = 0 by omega]; rfl
    · dsimp only
      rw [if_neg (by omega)]
    · rintro ⟨e, i, q⟩ ⟨i0, i1, he, hq, hg⟩
      dsimp only at i0 i1 he hq hg ⊢
      refine .ite (fun h => ?_) (fun h => ?_)
      · have h : 0 ≤ i := by simpa using h
        have hE : ∀ b, b = (if clsL (getL 0 r i) == 11 || clsL (getL 0 r i) == 12 then true else if passedB (clsL (getL 0 r i)) then e else false) → b = endF (fun i => clsL (getL 0 r i)) (lenL levels - 1 - (i - 1)).toNat (i - 1) := by
          intro b hb
          rw [show (lenL levels - 1 - (i - 1)).toNat = (lenL levels - 1 - i).toNat + 1 by omega]
          simp only [endF, show i - 1 + 1 = i by omega]
          rw [← he, hb]
        have hz : zF (fun i => clsL (getL 0 r i)) (lenL levels) i = ((clsL (getL 0 r i) == 11 || clsL (getL 0 r i) == 12) || (passedB (clsL (getL 0 r i)) && e)) := by
          simp only [zF]; rw [← he]
        have hS : zF (fun i => clsL (getL 0 r i)) (lenL levels) i = true → ∀ k, 0 ≤ k → k < lenL levels → getL 0 (setL q i base) k = if i - 1 < k ∧ zF (fun i => clsL (getL 0 r i)) (lenL levels) k = true then base else getL 0 levels k := by
          intro hzi k k0 k1
          rw [getL_put (by omega) k0 (by omega)]
          by_cases hk : k = i
          · subst hk; rw [if_pos rfl, if_pos ⟨by omega, hzi⟩]
          · rw [if_neg hk, hg k k0 k1]
            congr 1
            exact propext ⟨fun ⟨a, b⟩ => ⟨by omega, b⟩, fun ⟨a, b⟩ => ⟨by omega, b⟩⟩
        have hN : zF (fun i => clsL (getL 0 r i)) (lenL levels) i = false → ∀ k, 0 ≤ k → k < lenL levels → getL 0 q k = if i - 1 < k ∧ zF (fun i => clsL (getL 0 r i)) (lenL levels) k = true then base else getL 0 levels k := by
          intro hzi k k0 k1
          rw [hg k k0 k1]
          by_cases hk : k = i
          · subst hk; rw [if_neg (by omega), if_neg (by rw [hzi]; simp)]
          · congr 1
            exact propext ⟨fun ⟨a, b⟩ => ⟨by omega, b⟩, fun ⟨a, b⟩ => ⟨by omega, b⟩⟩
        refine .chk ⟨h, by omega⟩ (.call (class_L _) ?_)
        generalize clsL (getL 0 r i) = c at *
        refine .ite (fun hc => ?_) (fun hc => ?_)
        · have hc : (c == 11 || c == 12) = true := by cases h1 : (c == 11) <;> simp [h1] at hc ⊢; exact hc
          refine .chk ⟨h, by omega⟩ (.chk (inR64 (by omega) (by omega)) (.ret ⟨⟨by dsimp only; omega, by dsimp only; omega, hE _ (by rw [if_pos hc]), by simp [hq], hS (by rw [hz, hc]; rfl)⟩, by dsimp only; omega⟩))
        · have hc : (c == 11 || c == 12) = false := by cases h1 : (c == 11) <;> simp [h1] at hc ⊢; exact hc
          refine .call (passed_eq c) (.ite (fun hp => ?_) (fun hp => ?_))
          · have hp : passedB c = false := by simpa using hp
            refine .chk (inR64 (by omega) (by omega)) (.ret ⟨⟨by dsimp only; omega, by dsimp only; omega, hE _ (by rw [if_neg (by rw [hc]; simp), if_neg (by rw [hp]; simp)]), hq, hN (by rw [hz, hc, hp]; rfl)⟩, by dsimp only; omega⟩)
          · have hp : passedB c = true := by simpa using hp
            refine .ite (fun hee => ?_) (fun hee => ?_)
            · refine .chk ⟨h, by omega⟩ (.chk (inR64 (by omega) (by omega)) (.ret ⟨⟨by dsimp only; omega, by dsimp only; omega, hE _ (by rw [if_neg (by rw [hc]; simp), if_pos hp]), by simp [hq], hS (by rw [hz, hc, hp, hee]; rfl)⟩, by dsimp only; omega⟩))
            · refine .chk (inR64 (by omega) (by omega)) (.ret ⟨⟨by dsimp only; omega, by dsimp only; omega, hE _ (by rw [if_neg (by rw [hc]; simp), if_pos hp]), hq, hN (by rw [hz, hc, hp, hee]; rfl)⟩, by dsimp only; omega⟩)
      · have h : ¬ 0 ≤ i := by simpa using h
        refine .ret ⟨q, rfl, hq, fun k k0 k1 => ?_⟩
        rw [hg k k0 k1]
        congr 1
        exact propext ⟨fun ⟨a, b⟩ => b, fun b => ⟨by omega, b⟩⟩
  · rintro o ⟨q, rfl, h1, h2⟩
    exact .go (.ret ⟨h1, h2⟩)

theorem ints_self (a : List Int) (ha : lenL a ≤ 100000) : lapwingref03_Ints a a = some true := by
  refine Yields.eq ?_
  unfold lapwingref03_Ints
  rw [show (!((lenL a) == (lenL a))) = false by simp, iteO_false]
  refine .cut (fun o => o = .go ()) ?_ ?_
  · refine .loop (fun i => 0 ≤ i ∧ i ≤ lenL a) (fun i => (lenL a - i).toNat) ⟨by omega, lenL_nn a⟩ ?_
    rintro i ⟨i0, i1⟩
    refine .ite (fun h => ?_) (fun h => .ret rfl)
    have h : i < lenL a := by simpa using h
    refine .chk ⟨i0, h⟩ (.chk ⟨i0, h⟩ ?_)
    rw [show (!((getL 0 a i) == (getL 0 a i))) = false by simp, iteO_false]
    exact .chk (inR64 (by omega) (by omega)) (.ret ⟨⟨by omega, by omega⟩, by dsimp only; omega⟩)
  · rintro o rfl
    exact .go (.ret rfl)

theorem cls32 : passedB (clsL 32) = true ∧ clsL 32 ≠ 11 ∧ clsL 32 ≠ 12 ∧ clsL 32 ≠ 1 ∧ clsL 32 ≠ 2 ∧ clsL 32 ≠ 3 ∧ clsL 32 ≠ 4 := by
  have h : (passedB (clsL 32) && !(clsL 32 == 11) && !(clsL 32 == 12) && !(clsL 32 == 1) && !(clsL 32 == 2) && !(clsL 32 == 3) && !(clsL 32 == 4)) = true := by kernel_rfl
  simp at h
  obtain ⟨⟨⟨⟨⟨⟨a, b⟩, c⟩, d⟩, e⟩, f⟩, g⟩ := h
  exact ⟨a, b, c, d, e, f, g⟩
theorem endF_all {f : Int → Int} : ∀ (k : Nat) (i : Int), (∀ j, i < j → j ≤ i + k → passedB (f j) = true) → endF f k i = true
  | 0, _, _ => rfl
  | k + 1, i, h => by
    simp only [endF]
    split
    · rfl
    · rw [if_pos (h (i + 1) (by omega) (by omega))]
      exact endF_all k (i + 1) fun j j0 j1 => h j (by omega) (by omega)

theorem orderReset_true (r levels : List Int) (base n : Int) : lapwinglaw19_OrderReset r levels base n = some true := by
  refine Yields.eq ?_
  unfold lapwinglaw19_OrderReset
  rw [awake19, bindO_eq]
  refine .ite (fun _ => .ret rfl) (fun hg => ?_)
  have hg : lenL r ≤ 200 ∧ lenL levels = lenL r := by
    by_cases h1 : 200 < lenL r
    · simp [h1] at hg
    · simp [h1] at hg; exact ⟨by omega, hg⟩
  obtain ⟨hr, hlv⟩ := hg
  have hrn := lenL_nn r
  rw [load_eq, bindO_eq, show bndI .i64 n 7 = n % 8 from bnd_mask n 3 (by omega)]
  have m0 : 0 ≤ n % 8 := Int.emod_nonneg _ (by omega)
  have m1 : n % 8 < 8 := Int.emod_lt_of_pos _ (by omega)
  generalize n % 8 = m at m0 m1 ⊢
  refine .chk (grOk hrn (by omega) (by omega)) (.chk (grOk (by omega) (by omega) (by omega)) ?_)
  refine .cut (fun o => ∃ s t, o = .go (s, t) ∧ lenL s = lenL r + m ∧ lenL t = lenL s ∧ ∀ k, lenL r ≤ k → k < lenL s → getL 0 s k = 32) ?_ ?_
  · refine .loop (fun x => 0 ≤ x.1 ∧ x.1 ≤ m ∧ lenL x.2.1 = lenL r + x.1 ∧ lenL x.2.2 = lenL x.2.1 ∧ ∀ k, lenL r ≤ k → k < lenL x.2.1 → getL 0 x.2.1 k = 32) (fun x => (m - x.1).toNat) ⟨by dsimp only; omega, m0, by dsimp only; omega, hlv, fun k k0 k1 => by dsimp only at k1; omega⟩ ?_
    rintro ⟨i, s, t⟩ ⟨i0, i1, hs, ht, hk⟩
    dsimp only at i0 i1 hs ht hk ⊢
    refine .ite (fun h => ?_) (fun h => ?_)
    · have h : i < m := by simpa using h
      have e1 : lenL (s ++ ([32] : List Int)) = lenL s + 1 := by rw [lenL_app]; rfl
      have e2 : lenL (t ++ ([99] : List Int)) = lenL t + 1 := by rw [lenL_app]; rfl
      refine .chk (grOk (by omega) (by omega) (by omega)) (.chk (grOk (by omega) (by omega) (by omega)) (.chk (inR64 (by omega) (by omega)) (.ret ⟨⟨by dsimp only; omega, by dsimp only; omega, by dsimp only; omega, by dsimp only; omega, fun k k0 k1 => ?_⟩, by dsimp only; omega⟩)))
      dsimp only at k1 ⊢
      rw [getL_app (by omega)]
      split
      · exact hk k k0 (by assumption)
      · rw [show k - lenL s = 0 by omega]; rfl
    · have h : ¬ i < m := by simpa using h
      exact .ret ⟨s, t, rfl, by omega, ht, hk⟩
  · rintro o ⟨s, t, rfl, hs, ht, hk⟩
    refine .go ?_
    dsimp only
    obtain ⟨a, ha, hla, hga⟩ := reset_spec (r := s) (levels := t) base ht.symm (by omega)
    obtain ⟨b, hb, hlb, hgb⟩ := reset_spec (r := s) (levels := a) base (by omega) (by omega)
    have hab : b = a := by
      refine extL 0 hlb fun k k0 k1 => ?_
      rw [hgb k k0 (by omega), hga k k0 (by omega), hla]
      split <;> rfl
    rw [hab] at hb
    rw [ha, bindO_eq]
    refine .cut (fun o => o = .go a) (.ret rfl) ?_
    rintro o rfl
    refine .go ?_
    rw [show (!((lenL a) == (lenL s))) = false by simp [hla, ht], Bool.not_false, if_pos rfl, hb, bindO_eq, if_pos rfl, ints_self a (by omega), bindO_eq]
    simp only [Bool.not_true, Bool.false_eq_true, if_false, iteO_false]
    refine .cut (fun o => o = .go ()) ?_ ?_
    · refine .loop (fun i => 0 ≤ i ∧ i ≤ lenL s) (fun i => (lenL s - i).toNat) ⟨by omega, by omega⟩ ?_
      rintro i ⟨i0, i1⟩
      refine .ite (fun h => ?_) (fun h => .ret rfl)
      have h : i < lenL s := by simpa using h
      refine .cut (fun o => o = .go ()) ?_ (fun o ho => by
        subst ho
        exact .go (.chk (inR64 (by omega) (by omega)) (.ret ⟨⟨by omega, by omega⟩, by dsimp only; omega⟩)))
      refine .chk ⟨i0, h⟩ (.call (class_L _) ?_)
      have hi := hga i i0 (by omega)
      have f1 : lenL r ≤ i → getL 0 a i = base := by
        intro hri
        rw [hi, if_pos]
        have hp : ∀ j, lenL r ≤ j → j < lenL s → passedB (clsL (getL 0 s j)) = true := fun j j0 j1 => by rw [hk j j0 j1]; exact cls32.1
        simp only [zF]
        rw [hp i hri h, endF_all _ _ fun j j0 j1 => hp j (by omega) (by omega)]
        simp
      have f2 : getL 0 a i = getL 0 t i ∨ getL 0 a i = base := by
        rw [hi]; split <;> simp
      have f3 : (clsL (getL 0 s i) = 1 ∨ clsL (getL 0 s i) = 2 ∨ clsL (getL 0 s i) = 3 ∨ clsL (getL 0 s i) = 4) → getL 0 a i = getL 0 t i := by
        intro hc
        rw [hi, if_neg]
        simp only [zF]
        rcases hc with hc | hc | hc | hc <;> rw [hc] <;> simp [passedB]
      have e0 : (0 : Int) + i = i := by omega
      rw [e0]
      have hla' : lenL a = lenL s := by omega
      refine .chk (fun _ => ⟨i0, by omega⟩) (.chk (fun _ => ⟨i0, by omega⟩) (.chk (fun _ => ⟨i0, by omega⟩) (.chk (fun _ => ⟨i0, by omega⟩) (.chk (fun _ => ⟨i0, by omega⟩) (.chk (fun _ => ⟨i0, by omega⟩) ?_)))))
      generalize getL 0 a i = x at f1 f2 f3 ⊢
      generalize getL 0 t i = y at f2 f3 ⊢
      generalize clsL (getL 0 s i) = c at f3 ⊢
      refine .ite (fun hc => ?_) (fun _ => .ret rfl)
      exfalso
      by_cases g1 : lenL r ≤ i
      · have := f1 g1
        subst this
        by_cases g2 : c = 1 ∨ c = 2 ∨ c = 3 ∨ c = 4
        · have := f3 g2
          subst this
          simp at hc
        · simp at hc
          omega
      · rcases f2 with rfl | rfl
        · simp [g1] at hc
        · by_cases g2 : c = 1 ∨ c = 2 ∨ c = 3 ∨ c = 4
          · have := f3 g2
            subst this
            simp [g1] at hc
          · simp [g1] at hc
            omega
    · rintro o rfl
      exact .go (.ret rfl)
end Go.Vx
