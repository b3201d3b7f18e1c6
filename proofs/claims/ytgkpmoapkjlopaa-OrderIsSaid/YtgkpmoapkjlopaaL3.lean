/- Part of a proof; no conditions of its own. -/
import Derived.Test.YtgkpmoapkjlopaaL2
set_option linter.all false
namespace Go.Vx

theorem Tops.uniq {n : Int} {L : Int → Int} {m l m' l' : Int} (hL : ∀ i, 0 ≤ L i ∧ L i ≤ 127) (h : Tops n L m l) (h' : Tops n L m' l') : m = m' ∧ l = l' := by
  obtain ⟨⟨a0, a1, a2⟩, b1, b2⟩ := h
  obtain ⟨⟨c0, c1, c2⟩, d1, d2⟩ := h'
  constructor
  · have e1 : m ≤ m' := by
      rcases a2 with h | ⟨i, i0, i1, h⟩
      · omega
      · rw [← h]; exact c1 i i0 i1
    have e2 : m' ≤ m := by
      rcases c2 with h | ⟨i, i0, i1, h⟩
      · omega
      · rw [← h]; exact a1 i i0 i1
    omega
  · rcases b1 with h | ⟨i, i0, i1, h, ho⟩
    · rcases d1 with h' | ⟨j, j0, j1, h', ho'⟩
      · omega
      · have := b2 j j0 j1 ho'; have := hL j; omega
    · have e1 := d2 i i0 i1 ho
      rcases d1 with h' | ⟨j, j0, j1, h', ho'⟩
      · have := hL i; omega
      · have := b2 j j0 j1 ho'; omega

theorem visual_with {levels : List Int} (hb : lenL levels ≤ 100000) {most least : Int} (ht : Tops (lenL levels) (fun i => clI (getL 0 levels i)) most least) :
    Yields (order_Visual levels) fun out => lenL out = lenL levels ∧ ∀ p, 0 ≤ p → p < lenL levels → getL 0 out p = comp (lenL levels) (fun i => clI (getL 0 levels i)) (most - least + 1).toNat most p :=
  (visual_yields hb).mono fun out ⟨h1, m, l, h2, h3⟩ => by
    obtain ⟨rfl, rfl⟩ := Tops.uniq (fun i => clI_bd _) h2 ht
    exact ⟨h1, h3⟩

theorem clI_id {x : Int} (h0 : 0 ≤ x) (h1 : x ≤ 127) : clI x = x := by
  unfold clI imaxI iminI
  repeat' split
  all_goals omega

/-! ### Invert -/
theorem invert_eq {l : List Int} {n : Int} (hn : lenL l = n) (hb : n ≤ 1000000) {g : Int → Int} (h1 : ∀ i, 0 ≤ i → i < n → 0 ≤ getL 0 l i ∧ getL 0 l i < n ∧ g (getL 0 l i) = i)
    (h2 : ∀ j, 0 ≤ j → j < n → 0 ≤ g j ∧ g j < n ∧ getL 0 l (g j) = j) : order_Invert l = some (mkL n g, true) := by
  have hn0 : 0 ≤ n := by rw [← hn]; exact lenL_nn l
  refine Yields.eq ?_
  unfold order_Invert
  rw [hn]
  refine .chk (mkOk hn0 hb (by omega)) (.cut (fun o => ∃ x, o = .go x ∧ lenL x = n ∧ ∀ j, 0 ≤ j → j < n → getL 0 x j = -1) ?_ ?_)
  · refine .loop (fun x => 0 ≤ x.1 ∧ x.1 ≤ n ∧ lenL x.2 = n ∧ ∀ j, 0 ≤ j → j < x.1 → getL 0 x.2 j = -1) (fun x => (n - x.1).toNat) ⟨by simp only; omega, by simp only; omega, lenL_rep _ hn0, fun j _ _ => by simp only at *; omega⟩ ?_
    rintro ⟨i, x⟩ ⟨i0, i1, hx, hg⟩
    simp only at i0 i1 hx hg ⊢
    refine .ite (fun h => ?_) (fun h => ?_)
    · have h : i < n := by simpa using h
      refine .chk ⟨i0, by omega⟩ (.chk (inR64 (by omega) (by omega)) (.ret ⟨⟨by simp only; omega, by simp only; omega, by simpa using hx, fun j j0 j1 => ?_⟩, by simp only; omega⟩))
      simp only at j1 ⊢
      rw [getL_put i0 j0 (by omega)]
      split
      · rfl
      · exact hg j j0 (by omega)
    · have h : ¬ i < n := by simpa using h
      exact .ret ⟨x, rfl, hx, fun j j0 j1 => hg j j0 (by omega)⟩
  · rintro _ ⟨x, rfl, hx, hg⟩
    show Yields (cutO _ _) _
    refine .cut (fun o => ∃ x, o = .go x ∧ lenL x = n ∧ ∀ j, 0 ≤ j → j < n → getL 0 x j = g j) ?_ ?_
    · refine .loop (fun x => 0 ≤ x.1 ∧ x.1 ≤ n ∧ lenL x.2 = n ∧ ∀ j, 0 ≤ j → j < n → getL 0 x.2 j = if g j < x.1 then g j else -1) (fun x => (n - x.1).toNat) ⟨by simp only; omega, by simp only; omega, hx, fun j j0 j1 => by simp only; rw [hg j j0 j1, if_neg (by have := h2 j j0 j1; omega)]⟩ ?_
      rintro ⟨v, x⟩ ⟨v0, v1, hx, hg⟩
      simp only at v0 v1 hx hg ⊢
      refine .ite (fun h => ?_) (fun h => ?_)
      · have h : v < n := by simpa using h
        obtain ⟨e1, e2, e3⟩ := h1 v v0 h
        have hc : (if decide (getL 0 l v < 0) = true then true else decide (n ≤ getL 0 l v)) = false := by
          rw [decide_eq_false (by omega)]; simp; omega
        have hc2 : decide (0 ≤ getL 0 x (0 + getL 0 l v)) = false := by
          rw [Int.zero_add, hg _ e1 e2, e3, if_neg (by omega)]; rfl
        refine .chk ⟨v0, h⟩ (.chk (fun _ => ⟨e1, by omega⟩) (.ite (fun h3 => ?_) (fun _ => ?_)))
        · exfalso
          rw [hc] at h3
          simp only [Bool.false_eq_true, if_false] at h3
          rw [hc2] at h3; cases h3
        · refine .chk ⟨e1, by omega⟩ (.chk (inR64 (by omega) (by omega)) (.ret ⟨⟨by simp only; omega, by simp only; omega, by simpa using hx, fun j j0 j1 => ?_⟩, by simp only; omega⟩))
          simp only
          rw [getL_put e1 j0 (by omega)]
          by_cases c : j = getL 0 l v
          · rw [if_pos c, c, e3, if_pos (by omega)]
          · rw [if_neg c, hg j j0 j1]
            have hne : g j ≠ v := fun h => c (by rw [← h]; exact ((h2 j j0 j1).2.2).symm)
            by_cases c2 : g j < v
            · rw [if_pos c2, if_pos (by omega)]
            · rw [if_neg c2, if_neg (by omega)]
      · have h : ¬ v < n := by simpa using h
        refine .ret ⟨x, rfl, hx, fun j j0 j1 => ?_⟩
        have := h2 j j0 j1
        rw [hg j j0 j1, if_pos (by omega)]
    · rintro _ ⟨x, rfl, hx, hg⟩
      refine .ret ?_
      have : x = mkL n g := extL 0 (by rw [hx, lenL_mk _ hn0]) fun i i0 i1 => by rw [hg i i0 (by omega), getL_mk i0 (by omega)]
      rw [this]

/-! ### awake -/
theorem visual0110 : order_Visual [0, 1, 1, 0] = some [0, 2, 1, 3] := by
  have ht : Tops (lenL ([0, 1, 1, 0] : List Int)) (fun i => clI (getL 0 [0, 1, 1, 0] i)) 1 1 := by
    refine ⟨⟨by omega, fun i i0 i1 => ?_, .inr ⟨1, by omega, by decide, by decide⟩⟩, .inr ⟨1, by omega, by decide, by decide, by decide⟩, fun i i0 i1 ho => ?_⟩
    · have i2 : i < 4 := i1
      rcases (show i = 0 ∨ i = 1 ∨ i = 2 ∨ i = 3 by omega) with rfl | rfl | rfl | rfl <;> decide
    · have := clI_bd (getL 0 [0, 1, 1, 0] i)
      simp only at ho ⊢
      omega
  refine Yields.eq ((visual_with (by decide) ht).mono fun out ⟨h1, h2⟩ => ?_)
  refine extL 0 h1 fun i i0 i1 => ?_
  have i2 : i < 4 := by rw [h1] at i1; exact i1
  rw [h2 i i0 i2]
  rcases (show i = 0 ∨ i = 1 ∨ i = 2 ∨ i = 3 by omega) with rfl | rfl | rfl | rfl <;> decide

theorem awake_true : lapwinglaw19_awake = some true := by
  refine Yields.eq ?_
  unfold lapwinglaw19_awake
  have hi : order_Invert [2, 0, 1] = some (mkL 3 (fun j => getL 0 [1, 2, 0] j), true) := by
    refine invert_eq (n := 3) rfl (by omega) (fun i i0 i1 => ?_) (fun i i0 i1 => ?_)
    · rcases (show i = 0 ∨ i = 1 ∨ i = 2 by omega) with rfl | rfl | rfl <;> decide
    · rcases (show i = 0 ∨ i = 1 ∨ i = 2 by omega) with rfl | rfl | rfl <;> decide
  refine .call hi ?_
  refine .call (b := [0, 2, 1, 3]) visual0110 ?_
  refine .call (b := true) (ints_eq (by decide)) ?_
  refine .call (b := true) ?_ (.ret rfl)
  exact (ints_eq (by decide)).trans (by decide)

/-! ### OrderTurns -/
theorem comp_congr {n : Int} {L L' : Int → Int} {d : Int} (h : ∀ i, 0 ≤ i → i < n → L' i = L i + d) : ∀ (k : Nat) (lev p : Int), 0 ≤ p → p < n → comp n L' k (lev + d) p = comp n L k lev p
  | 0, lev, p, _, _ => rfl
  | k + 1, lev, p, p0, p1 => by
    have hs : ∀ q, 0 ≤ q → q < n → sig n (fun q => decide (lev + d ≤ L' q)) q = sig n (fun q => decide (lev ≤ L q)) q := by
      intro q q0 q1
      have hR : ∀ j, 0 ≤ j → j < n → decide (lev + d ≤ L' j) = decide (lev ≤ L j) := fun j j0 j1 => by
        rw [h j j0 j1]; exact decide_eq_decide.2 (by omega)
      cases hq : decide (lev ≤ L q) with
      | false => rw [sig_not (R := fun q => decide (lev ≤ L q)) hq, sig_not (R := fun q => decide (lev + d ≤ L' q)) ((hR q q0 q1).trans hq)]
      | true =>
        have hr := run_of (n := n) (R := fun q => decide (lev ≤ L q)) q0 q1 hq
        rw [sig_run hr]
        refine sig_run (R := fun q => decide (lev + d ≤ L' q)) ?_
        obtain ⟨a1, a2, a3, a4, a5, a6, a7⟩ := hr
        refine ⟨a1, a2, a3, a4, fun j j0 j1 => (hR j (by omega) (by omega)).trans (a5 j j0 j1), ?_, ?_⟩
        · by_cases hs0 : rBeg (fun q => decide (lev ≤ L q)) q.toNat q = 0
          · exact .inl hs0
          · rcases a6 with h6 | h6
            · exact .inl h6
            · exact .inr ((hR _ (by omega) (by omega)).trans h6)
        · rcases a7 with h' | h'
          · exact .inl h'
          · by_cases he : rEnd n (fun q => decide (lev ≤ L q)) (n - q).toNat q = n
            · exact .inl he
            · exact .inr ((hR _ (by omega) (by omega)).trans h')
    obtain ⟨a, b⟩ := comp_bd (n := n) (L := L) k (lev - 1) p p0 p1
    have ih := comp_congr h k (lev - 1) p p0 p1
    simp only [comp]
    rw [show lev + d - 1 = lev - 1 + d by omega, ih, hs _ a b]

theorem turns_visual {a b : List Int} {n : Int} (ha : lenL a = n) (hb : lenL b = n) (hn : n ≤ 1000) (hr : ∀ i, 0 ≤ i → i < n → 0 ≤ getL 0 a i ∧ getL 0 a i ≤ 120) (h2 : ∀ i, 0 ≤ i → i < n → getL 0 b i = getL 0 a i + 2) :
    ∃ out, order_Visual a = some out ∧ order_Visual b = some out ∧ lenL out = n := by
  have hn0 : 0 ≤ n := by rw [← ha]; exact lenL_nn a
  obtain ⟨o1, e1, l1, most, least, ht, g1⟩ := visual_yields (levels := a) (by omega)
  rw [ha] at l1 ht g1
  dsimp only [Tops] at ht
  have hL : ∀ i, 0 ≤ i → i < n → clI (getL 0 b i) = clI (getL 0 a i) + 2 := fun i i0 i1 => by
    have := hr i i0 i1
    rw [h2 i i0 i1, clI_id (by omega) (by omega), clI_id (by omega) (by omega)]
  have hLa : ∀ i, 0 ≤ i → i < n → clI (getL 0 a i) ≤ 120 := fun i i0 i1 => by
    have := hr i i0 i1
    rw [clI_id (by omega) (by omega)]; omega
  obtain ⟨⟨m0, m1, m2⟩, k1, k2⟩ := ht
  have ht' : Tops (lenL b) (fun i => clI (getL 0 b i)) (if n = 0 then 0 else most + 2) (if least = 128 then 128 else least + 2) := by
    rw [hb]
    dsimp only [Tops]
    by_cases hz : n = 0
    · subst hz
      rw [if_pos rfl]
      have h128 : least = 128 := by
        rcases k1 with h | ⟨i, i0, i1, _⟩
        · exact h
        · omega
      rw [if_pos h128]
      exact ⟨⟨by omega, fun i _ _ => by omega, .inl rfl⟩, .inl rfl, fun i _ _ => by omega⟩
    · rw [if_neg hz]
      have hmx : ∃ i, 0 ≤ i ∧ i < n ∧ clI (getL 0 a i) = most := by
        rcases m2 with h | h
        · refine ⟨0, by omega, by omega, ?_⟩
          have := m1 0 (by omega) (by omega)
          have := clI_bd (getL 0 a 0)
          omega
        · exact h
      obtain ⟨i, i0, i1, hi⟩ := hmx
      refine ⟨⟨by omega, fun j j0 j1 => ?_, .inr ⟨i, i0, i1, by rw [hL i i0 i1, hi]⟩⟩, ?_, fun j j0 j1 ho => ?_⟩
      · have := m1 j j0 j1
        rw [hL j j0 j1]; omega
      · rcases k1 with h | ⟨j, j0, j1, h, ho⟩
        · exact .inl (if_pos h)
        · have := hLa j j0 j1
          rw [if_neg (by omega)]
          exact .inr ⟨j, j0, j1, by rw [hL j j0 j1, h], by rw [hL j j0 j1]; omega⟩
      · rw [hL j j0 j1] at ho ⊢
        have := k2 j j0 j1 (by omega)
        have := hLa j j0 j1
        rw [if_neg (by omega)]
        omega
  obtain ⟨o2, e2, l2, g2⟩ := visual_with (levels := b) (by omega) ht'
  rw [hb] at l2 g2
  have : o2 = o1 := by
    refine extL 0 (by omega) fun p p0 p1 => ?_
    rw [l2] at p1
    rw [g1 p p0 p1, g2 p p0 p1, if_neg (by omega)]
    have hm : most ≤ 120 := by
      rcases m2 with h | ⟨i, i0, i1, h⟩
      · omega
      · rw [← h]; exact hLa i i0 i1
    by_cases h128 : least = 128
    · rw [if_pos h128, show (most + 2 - 128 + 1).toNat = 0 by omega, show (most - least + 1).toNat = 0 by omega]; rfl
    · rw [if_neg h128, show most + 2 - (least + 2) + 1 = most - least + 1 by omega]
      exact comp_congr (d := 2) (fun i i0 i1 => hL i i0 i1) _ _ _ p0 p1
  subst this
  exact ⟨o2, e1, e2, l2⟩

end Go.Vx
