/- Part of a proof; no conditions of its own. -/
import Derived.Test.YtgkpmoapkjlopaaILift
import Derived.Test.YtgkpmoapkjlopaaVxHoare
set_option linter.all false
namespace Go.Vx

theorem iteO_true {α : Type} (x y : Option α) : iteO true x y = x := rfl
theorem iteO_false {α : Type} (x y : Option α) : iteO false x y = y := rfl
theorem cutLoop {α β γ : Type} {body : α → Option (Fl α (Fl β γ))} {k : β → Option γ} (inv : α → Prop) (μ : α → Nat) (M : Fl β γ → Prop) (Q : γ → Prop) {x : α} (hx : inv x)
    (step : ∀ x, inv x → (∃ y, body x = some (.go y) ∧ inv y ∧ μ y < μ x) ∨ ∃ r, body x = some (.out r) ∧ M r) (hk : ∀ o, M o → ∃ r, contO k o = some r ∧ Q r) : ∃ r, cutO (loopO body x) k = some r ∧ Q r := by
  obtain ⟨o, h1, h2⟩ := loopO_rule inv μ M hx step
  obtain ⟨r, h3, h4⟩ := hk o h2
  exact ⟨r, by rw [h1]; exact h3, h4⟩

theorem ints_ex {a b : List Int} (ha : lenL a ≤ 1000000) : ∃ r, lapwingref03_Ints a b = some r ∧ r = decide (a = b) := by
  unfold lapwingref03_Ints
  by_cases hl : lenL a = lenL b
  · rw [show (!(lenL a == lenL b)) = false by simp [hl], iteO_false]
    refine cutLoop (fun i => 0 ≤ i ∧ i ≤ lenL a ∧ ∀ k, 0 ≤ k → k < i → getL 0 a k = getL 0 b k) (fun i => (lenL a - i).toNat) (fun r : Fl Unit Bool => (r = .go () ∧ a = b) ∨ (r = .out false ∧ a ≠ b)) _ ⟨by omega, lenL_nn a, fun k _ _ => by omega⟩ ?_ ?_
    · rintro i ⟨i0, i1, hi⟩
      by_cases h : i < lenL a
      · rw [decide_eq_true h, iteO_true, chk_ok ⟨i0, h⟩, chk_ok ⟨i0, by omega⟩]
        by_cases he : getL 0 a i = getL 0 b i
        · rw [show (!(getL 0 a i == getL 0 b i)) = false by simp [he], iteO_false]
          refine .inl ⟨i + 1, by rw [chk_ok (inR64 (by omega) (by omega))], ⟨by omega, by omega, fun k k0 k1 => ?_⟩, by omega⟩
          rcases Int.lt_or_eq_of_le (show k ≤ i by omega) with h' | rfl
          · exact hi k k0 h'
          · exact he
        · rw [show (!(getL 0 a i == getL 0 b i)) = true by simp [he], iteO_true]
          exact .inr ⟨_, rfl, .inr ⟨rfl, fun hab => he (by rw [hab])⟩⟩
      · rw [decide_eq_false h, iteO_false]
        exact .inr ⟨_, rfl, .inl ⟨rfl, extL 0 hl fun k k0 k1 => hi k k0 (by omega)⟩⟩
    · rintro o (⟨rfl, h⟩ | ⟨rfl, h⟩)
      · exact ⟨_, rfl, by simp [h]⟩
      · exact ⟨_, rfl, by simp [h]⟩
  · rw [show (!(lenL a == lenL b)) = true by simp [hl], iteO_true]
    exact ⟨_, rfl, by rw [decide_eq_false (fun h => hl (by rw [h]))]⟩
theorem ints_eq {a b : List Int} (ha : lenL a ≤ 1000000) : lapwingref03_Ints a b = some (decide (a = b)) := by
  obtain ⟨r, h, rfl⟩ := ints_ex (b := b) ha
  exact h

theorem reverse_spec {s : List Int} {off n : Int} (h0 : 0 ≤ off) (h1 : 0 ≤ n) (h2 : off + n ≤ lenL s) (hb : lenL s ≤ 1000000) :
    ∃ r, slices_Reverse___int_int_ s off n = some r ∧ lenL r = lenL s ∧ ∀ k, 0 ≤ k → k < lenL s → getL 0 r k = if off ≤ k ∧ k < off + n then getL 0 s (off + (off + n - 1 - k)) else getL 0 s k := by
  unfold slices_Reverse___int_int_
  rw [chk_ok ⟨h0, h1, h2⟩, chk_ok (inR64 (by omega) (by omega))]
  refine loopO_rule (fun x => 0 ≤ x.1 ∧ 2 * x.1 ≤ n + 1 ∧ x.2.1 = n - 1 - x.1 ∧ lenL x.2.2 = lenL s ∧
    ∀ k, 0 ≤ k → k < lenL s → getL 0 x.2.2 k = if off ≤ k ∧ k < off + x.1 ∨ off + n - x.1 ≤ k ∧ k < off + n then getL 0 s (off + (off + n - 1 - k)) else getL 0 s k) (fun x => (n - x.1).toNat) _
    ⟨by simp only; omega, by simp only; omega, by simp only; omega, rfl, fun k k0 k1 => by simp only; rw [if_neg (by omega)]⟩ ?_
  rintro ⟨i, j, t⟩ ⟨i0, i1, hj, hl, hg⟩
  simp only at i0 i1 hj hl hg ⊢
  by_cases h : i < j
  · rw [decide_eq_true h]
    simp only [iteO]
    rw [chk_ok ⟨by omega, by omega⟩, chk_ok ⟨by omega, by omega⟩, chk_ok ⟨by omega, by omega⟩, chk_ok ⟨by omega, by omega⟩, chk_ok (inR64 (by omega) (by omega)), chk_ok (inR64 (by omega) (by omega))]
    refine .inl ⟨_, rfl, ⟨by simp only; omega, by simp only; omega, by simp only; omega, by simp [hl], fun k k0 k1 => ?_⟩, by simp only; omega⟩
    simp only
    rw [getL_put (by omega) k0 (by simp [hl]; omega), getL_put (by omega) k0 (by omega)]
    by_cases e1 : k = off + j
    · rw [if_pos e1, hg _ (by omega) (by omega), if_neg (by omega), if_pos (by omega)]
      congr 1; omega
    · rw [if_neg e1]
      by_cases e2 : k = off + i
      · rw [if_pos e2, hg _ (by omega) (by omega), if_neg (by omega), if_pos (by omega)]
        congr 1; omega
      · rw [if_neg e2, hg _ k0 k1]
        by_cases e3 : off ≤ k ∧ k < off + i ∨ off + n - i ≤ k ∧ k < off + n
        · rw [if_pos e3, if_pos (by omega)]
        · rw [if_neg e3, if_neg (by omega)]
  · rw [decide_eq_false h]
    refine .inr ⟨_, rfl, hl, fun k k0 k1 => ?_⟩
    rw [hg k k0 k1]
    by_cases e3 : off ≤ k ∧ k < off + n
    · rw [if_pos e3]
      by_cases e4 : off ≤ k ∧ k < off + i ∨ off + n - i ≤ k ∧ k < off + n
      · rw [if_pos e4]
      · rw [if_neg e4]; congr 1; omega
    · rw [if_neg e3, if_neg (by omega)]

/-! Runs of places that R holds of. -/
def rEnd (n : Int) (R : Int → Bool) : Nat → Int → Int
  | 0, t => t
  | k + 1, t => if t < n ∧ R t = true then rEnd n R k (t + 1) else t
def rBeg (R : Int → Bool) : Nat → Int → Int
  | 0, s => s
  | k + 1, s => if 0 < s ∧ R (s - 1) = true then rBeg R k (s - 1) else s
theorem rEnd_spec {n : Int} {R : Int → Bool} : ∀ {k : Nat} {t : Int}, t ≤ n → (n - t).toNat ≤ k → t ≤ rEnd n R k t ∧ rEnd n R k t ≤ n ∧ (∀ j, t ≤ j → j < rEnd n R k t → R j = true) ∧ (rEnd n R k t = n ∨ R (rEnd n R k t) = false)
  | 0, t, h0, h1 => by
    simp only [rEnd]
    exact ⟨by omega, by omega, fun j _ _ => by omega, by omega⟩
  | k + 1, t, h0, h1 => by
    simp only [rEnd]
    split
    · rename_i h
      obtain ⟨a, b, c, d⟩ := rEnd_spec (n := n) (R := R) (k := k) (t := t + 1) (by have := h.1; omega) (by omega)
      refine ⟨by omega, b, fun j j0 j1 => ?_, d⟩
      rcases Int.lt_or_eq_of_le j0 with h' | rfl
      · exact c j (by omega) j1
      · exact h.2
    · rename_i h
      refine ⟨by omega, h0, fun j _ _ => by omega, ?_⟩
      by_cases h' : t = n
      · exact .inl h'
      · refine .inr ?_
        cases hR : R t with
        | false => rfl
        | true => exact absurd ⟨by omega, hR⟩ h
theorem rBeg_spec {R : Int → Bool} : ∀ {k : Nat} {s : Int}, 0 ≤ s → s.toNat ≤ k → 0 ≤ rBeg R k s ∧ rBeg R k s ≤ s ∧ (∀ j, rBeg R k s ≤ j → j < s → R j = true) ∧ (rBeg R k s = 0 ∨ R (rBeg R k s - 1) = false)
  | 0, s, h0, h1 => by
    simp only [rBeg]
    exact ⟨by omega, by omega, fun j _ _ => by omega, by omega⟩
  | k + 1, s, h0, h1 => by
    simp only [rBeg]
    split
    · rename_i h
      obtain ⟨a, b, c, d⟩ := rBeg_spec (R := R) (k := k) (s := s - 1) (by have := h.1; omega) (by omega)
      refine ⟨a, by omega, fun j j0 j1 => ?_, d⟩
      rcases Int.lt_or_eq_of_le (show j ≤ s - 1 by omega) with h' | rfl
      · exact c j (by omega) h'
      · exact h.2
    · rename_i h
      refine ⟨h0, by omega, fun j _ _ => by omega, ?_⟩
      by_cases h' : s = 0
      · exact .inl h'
      · refine .inr ?_
        cases hR : R (s - 1) with
        | false => rfl
        | true => exact absurd ⟨by omega, hR⟩ h
/-- The run [s, e) that holds p. -/
def IsRun (n : Int) (R : Int → Bool) (p s e : Int) : Prop := 0 ≤ s ∧ s ≤ p ∧ p < e ∧ e ≤ n ∧ (∀ j, s ≤ j → j < e → R j = true) ∧ (s = 0 ∨ R (s - 1) = false) ∧ (e = n ∨ R e = false)
theorem IsRun.uniq {n : Int} {R : Int → Bool} {p s e s' e' : Int} (h : IsRun n R p s e) (h' : IsRun n R p s' e') : s = s' ∧ e = e' := by
  obtain ⟨a1, a2, a3, a4, a5, a6, a7⟩ := h
  obtain ⟨b1, b2, b3, b4, b5, b6, b7⟩ := h'
  constructor
  · rcases Int.lt_trichotomy s s' with h | h | h
    · have := a5 (s' - 1) (by omega) (by omega)
      rcases b6 with h6 | h6
      · omega
      · rw [h6] at this; cases this
    · exact h
    · have := b5 (s - 1) (by omega) (by omega)
      rcases a6 with h6 | h6
      · omega
      · rw [h6] at this; cases this
  · rcases Int.lt_trichotomy e e' with h | h | h
    · have := b5 e (by omega) (by omega)
      rcases a7 with h6 | h6
      · omega
      · rw [h6] at this; cases this
    · exact h
    · have := a5 e' (by omega) (by omega)
      rcases b7 with h6 | h6
      · omega
      · rw [h6] at this; cases this
/-- Where a place is turned to. -/
def sig (n : Int) (R : Int → Bool) (p : Int) : Int := if R p = true then rBeg R p.toNat p + rEnd n R (n - p).toNat p - 1 - p else p
theorem run_of {n : Int} {R : Int → Bool} {p : Int} (h0 : 0 ≤ p) (h1 : p < n) (hR : R p = true) : IsRun n R p (rBeg R p.toNat p) (rEnd n R (n - p).toNat p) := by
  obtain ⟨a, b, c, d⟩ := rEnd_spec (n := n) (R := R) (k := (n - p).toNat) (t := p) (by omega) (by omega)
  obtain ⟨a', b', c', d'⟩ := rBeg_spec (R := R) (k := p.toNat) (s := p) h0 (by omega)
  refine ⟨a', b', ?_, b, fun j j0 j1 => ?_, d', d⟩
  · rcases d with h | h
    · omega
    · rcases Int.lt_or_eq_of_le a with h' | h'
      · exact h'
      · rw [← h', hR] at h; cases h
  · rcases Int.lt_or_le j p with h | h
    · exact c' j j0 h
    · exact c j h j1
theorem sig_run {n : Int} {R : Int → Bool} {p s e : Int} (h : IsRun n R p s e) : sig n R p = s + e - 1 - p := by
  have hR : R p = true := h.2.2.2.2.1 p h.2.1 h.2.2.1
  have h' := run_of (n := n) (by have := h.1; have := h.2.1; omega) (by have := h.2.2.1; have := h.2.2.2.1; omega) hR
  obtain ⟨e1, e2⟩ := h.uniq h'
  simp only [sig, hR, if_true]
  rw [← e1, ← e2]
theorem sig_not {n : Int} {R : Int → Bool} {p : Int} (h : R p = false) : sig n R p = p := by
  simp [sig, h]
theorem IsRun.move {n : Int} {R : Int → Bool} {p s e q : Int} (h : IsRun n R p s e) (h1 : s ≤ q) (h2 : q < e) : IsRun n R q s e := ⟨h.1, h1, h2, h.2.2.2.1, h.2.2.2.2.1, h.2.2.2.2.2.1, h.2.2.2.2.2.2⟩
theorem sig_spec {n : Int} {R : Int → Bool} {p : Int} (h0 : 0 ≤ p) (h1 : p < n) : 0 ≤ sig n R p ∧ sig n R p < n ∧ R (sig n R p) = R p ∧ sig n R (sig n R p) = p := by
  cases hR : R p with
  | false => rw [sig_not hR, sig_not hR]; exact ⟨h0, h1, hR, rfl⟩
  | true =>
    have hr := run_of h0 h1 hR
    generalize hs : rBeg R p.toNat p = s at hr
    generalize he : rEnd n R (n - p).toNat p = e at hr
    have e1 := sig_run hr
    have hr' : IsRun n R (sig n R p) s e := hr.move (by rw [e1]; have := hr.2.2.1; omega) (by rw [e1]; have := hr.2.1; omega)
    refine ⟨by have := hr'.1; have := hr'.2.1; omega, by have := hr'.2.2.1; have := hr'.2.2.2.1; omega, hr'.2.2.2.2.1 _ hr'.2.1 hr'.2.2.1, ?_⟩
    rw [sig_run hr', e1]; omega
end Go.Vx
