/- Part of a proof; no conditions of its own. -/
import Derived.Test.YtgkpmoapkjlopaaL3
set_option linter.all false
namespace Go.Vx
/-! ### OrderOne -/
theorem bnd_mask (x : Int) (k : Nat) (hk : k < 63) : bndI .i64 x ((2 ^ k - 1 : Nat) : Int) = x % (2 ^ k : Nat) := by
  unfold bndI
  have hb : IntKind.bits .i64 = 64 := rfl
  rw [hb]
  have hm : BitVec.ofInt 64 ((2 ^ k - 1 : Nat) : Int) = BitVec.ofNat 64 (2 ^ k - 1) := by
    apply BitVec.eq_of_toNat_eq
    simp
  rw [hm, BitVec.toNat_and, BitVec.toNat_ofNat]
  have hp : 2 ^ k < 2 ^ 63 := Nat.pow_lt_pow_right (by omega) hk
  have hp0 : 0 < 2 ^ k := Nat.two_pow_pos k
  rw [Nat.mod_eq_of_lt (show 2 ^ k - 1 < 2 ^ 64 by omega), Nat.and_two_pow_sub_one_eq_mod, BitVec.toNat_ofInt]
  have h1 : ((x % ((2 ^ 64 : Nat) : Int)).toNat % 2 ^ k : Nat) = (x % ((2 ^ k : Nat) : Int)).toNat := by
    have hd : ((2 ^ k : Nat) : Int) ∣ ((2 ^ 64 : Nat) : Int) := Int.ofNat_dvd.2 (Nat.pow_dvd_pow 2 (by omega))
    have e1 : 0 ≤ x % ((2 ^ 64 : Nat) : Int) := Int.emod_nonneg _ (by decide)
    have e2 : 0 ≤ x % ((2 ^ k : Nat) : Int) := Int.emod_nonneg _ (by omega)
    have e3 : (x % ((2 ^ 64 : Nat) : Int)) % ((2 ^ k : Nat) : Int) = x % ((2 ^ k : Nat) : Int) := Int.emod_emod_of_dvd _ hd
    have : (((x % ((2 ^ 64 : Nat) : Int)).toNat % 2 ^ k : Nat) : Int) = ((x % ((2 ^ k : Nat) : Int)).toNat : Int) := by
      rw [Int.natCast_emod, Int.toNat_of_nonneg e1, e3, Int.toNat_of_nonneg e2]
    exact_mod_cast this
  rw [h1, Int.toNat_of_nonneg (Int.emod_nonneg _ (by omega))]
  have e2 : 0 ≤ x % ((2 ^ k : Nat) : Int) := Int.emod_nonneg _ (by omega)
  have e3 : x % ((2 ^ k : Nat) : Int) < ((2 ^ k : Nat) : Int) := Int.emod_lt_of_pos _ (by omega)
  generalize x % ((2 ^ k : Nat) : Int) = y at *
  refine wrap_rng .i64 y ?_
  have m1 : IntKind.min .i64 = -9223372036854775808 := by decide
  have m2 : IntKind.max .i64 = 9223372036854775807 := by decide
  omega

theorem visual_const {a : List Int} {n l : Int} (ha : lenL a = n) (hn : n ≤ 1000) (h0 : 0 ≤ l) (h1 : l ≤ 127) (hl : ∀ i, 0 ≤ i → i < n → getL 0 a i = l) :
    Yields (order_Visual a) fun v => lenL v = n ∧ ∀ p, 0 ≤ p → p < n → getL 0 v p = if l % 2 = 0 then p else n - 1 - p := by
  have hn0 : 0 ≤ n := by rw [← ha]; exact lenL_nn a
  have hL : ∀ i, 0 ≤ i → i < n → clI (getL 0 a i) = l := fun i i0 i1 => by rw [hl i i0 i1, clI_id h0 h1]
  have ht : Tops (lenL a) (fun i => clI (getL 0 a i)) (if n = 0 then 0 else l) (if n = 0 ∨ l % 2 = 0 then 128 else l) := by
    rw [ha]
    dsimp only [Tops]
    by_cases hz : n = 0
    · rw [if_pos hz, if_pos (.inl hz)]
      exact ⟨⟨by omega, fun i _ _ => by omega, .inl rfl⟩, .inl rfl, fun i _ _ => by omega⟩
    · rw [if_neg hz]
      refine ⟨⟨h0, fun i i0 i1 => by rw [hL i i0 i1]; omega, .inr ⟨0, by omega, by omega, hL 0 (by omega) (by omega)⟩⟩, ?_, fun i i0 i1 ho => ?_⟩
      · by_cases he : l % 2 = 0
        · exact .inl (if_pos (.inr he))
        · rw [if_neg (by omega)]
          exact .inr ⟨0, by omega, by omega, hL 0 (by omega) (by omega), by rw [hL 0 (by omega) (by omega)]; omega⟩
      · rw [hL i i0 i1] at ho ⊢
        rw [if_neg (by omega)]; omega
  refine (visual_with (by omega) ht).mono fun v ⟨h2, h3⟩ => ?_
  rw [ha] at h2 h3
  refine ⟨h2, fun p p0 p1 => ?_⟩
  rw [h3 p p0 p1, if_neg (by omega)]
  by_cases he : l % 2 = 0
  · rw [if_pos he, if_pos (.inr he), show (l - 128 + 1).toNat = 0 by omega]; rfl
  · rw [if_neg he, if_neg (by omega), show (l - l + 1).toNat = 1 by omega]
    show sig n (fun q => decide (l ≤ clI (getL 0 a q))) p = _
    have hr : IsRun n (fun q => decide (l ≤ clI (getL 0 a q))) p 0 n :=
      ⟨by omega, p0, p1, by omega, fun j j0 j1 => by rw [decide_eq_true_eq, hL j j0 j1]; omega, .inl rfl, .inl rfl⟩
    rw [sig_run hr]; omega

theorem sig_more {n : Int} {R R' : Int → Bool} (h : ∀ j, 0 ≤ j → j < n → R' j = R j) (hn : R' n = false) {p : Int} (p0 : 0 ≤ p) (p1 : p < n) : sig (n + 1) R' p = sig n R p := by
  cases hR : R p with
  | false => rw [sig_not hR, sig_not ((h p p0 p1).trans hR)]
  | true =>
    have hr := run_of p0 p1 hR
    rw [sig_run hr]
    refine sig_run ?_
    obtain ⟨a1, a2, a3, a4, a5, a6, a7⟩ := hr
    refine ⟨a1, a2, a3, by omega, fun j j0 j1 => (h j (by omega) (by omega)).trans (a5 j j0 j1), ?_, ?_⟩
    · by_cases hs0 : rBeg R p.toNat p = 0
      · exact .inl hs0
      · rcases a6 with h6 | h6
        · exact .inl h6
        · exact .inr ((h _ (by omega) (by omega)).trans h6)
    · by_cases he : rEnd n R (n - p).toNat p = n
      · rw [he]; exact .inr hn
      · rcases a7 with h7 | h7
        · exact absurd h7 he
        · exact .inr ((h _ (by omega) (by omega)).trans h7)

theorem visual01 {a : List Int} {n : Int} (ha : lenL a = n) (hn : n ≤ 900) (h : ∀ i, 0 ≤ i → i < n → getL 0 a i = 0 ∨ getL 0 a i = 1) :
    ∃ w x, order_Visual a = some w ∧ order_Visual (a ++ [0]) = some x ∧ lenL w = n ∧ lenL x = n + 1 ∧ (∀ p, 0 ≤ p → p < n → getL 0 x p = getL 0 w p) ∧ getL 0 x n = n := by
  have hn0 : 0 ≤ n := by rw [← ha]; exact lenL_nn a
  have hb : lenL (a ++ [0]) = n + 1 := by simp [ha]
  have hg : ∀ i, 0 ≤ i → i < n → getL 0 (a ++ [0]) i = getL 0 a i := fun i i0 i1 => by rw [getL_app i0, if_pos (by omega)]
  have hgn : getL 0 (a ++ [0]) n = 0 := by rw [getL_app hn0, if_neg (by omega), show n - lenL a = 0 by omega]; rfl
  have h01 : ∀ i, 0 ≤ i → i < n → clI (getL 0 a i) = getL 0 a i := fun i i0 i1 => by rcases h i i0 i1 with h | h <;> rw [h] <;> decide
  have h01' : ∀ i, 0 ≤ i → i < n → clI (getL 0 (a ++ [0]) i) = getL 0 a i := fun i i0 i1 => by rw [hg i i0 i1, h01 i i0 i1]
  have h01n : clI (getL 0 (a ++ [0]) n) = 0 := by rw [hgn]; decide
  by_cases hx : ∃ i, 0 ≤ i ∧ i < n ∧ getL 0 a i = 1
  · obtain ⟨i, i0, i1, hi⟩ := hx
    have ht : Tops (lenL a) (fun i => clI (getL 0 a i)) 1 1 := by
      rw [ha]; dsimp only [Tops]
      refine ⟨⟨by omega, fun j j0 j1 => ?_, .inr ⟨i, i0, i1, by rw [h01 i i0 i1, hi]⟩⟩, .inr ⟨i, i0, i1, by rw [h01 i i0 i1, hi], by rw [h01 i i0 i1, hi]; decide⟩, fun j j0 j1 ho => ?_⟩
      · rw [h01 j j0 j1]; rcases h j j0 j1 with h | h <;> omega
      · have := clI_bd (getL 0 a j); omega
    have ht' : Tops (lenL (a ++ [0])) (fun i => clI (getL 0 (a ++ [0]) i)) 1 1 := by
      rw [hb]; dsimp only [Tops]
      refine ⟨⟨by omega, fun j j0 j1 => ?_, .inr ⟨i, i0, by omega, by rw [h01' i i0 i1, hi]⟩⟩, .inr ⟨i, i0, by omega, by rw [h01' i i0 i1, hi], by rw [h01' i i0 i1, hi]; decide⟩, fun j j0 j1 ho => ?_⟩
      · by_cases c : j < n
        · rw [h01' j j0 c]; rcases h j j0 c with h | h <;> omega
        · obtain rfl : j = n := by omega
          rw [h01n]; omega
      · have := clI_bd (getL 0 (a ++ [0]) j); omega
    obtain ⟨w, e1, l1, g1⟩ := visual_with (by omega) ht
    obtain ⟨x, e2, l2, g2⟩ := visual_with (by omega) ht'
    rw [ha] at l1 g1
    rw [hb] at l2 g2
    have hR : ∀ j, 0 ≤ j → j < n → decide ((1 : Int) ≤ clI (getL 0 (a ++ [0]) j)) = decide ((1 : Int) ≤ clI (getL 0 a j)) := fun j j0 j1 => by rw [h01' j j0 j1, h01 j j0 j1]
    have hRn : decide ((1 : Int) ≤ clI (getL 0 (a ++ [0]) n)) = false := by rw [h01n]; rfl
    refine ⟨w, x, e1, e2, l1, l2, fun p p0 p1 => ?_, ?_⟩
    · rw [g1 p p0 p1, g2 p p0 (by omega)]
      exact sig_more (R := fun q => decide ((1 : Int) ≤ clI (getL 0 a q))) (R' := fun q => decide ((1 : Int) ≤ clI (getL 0 (a ++ [0]) q))) hR hRn p0 p1
    · rw [g2 n hn0 (by omega)]
      exact sig_not (R := fun q => decide ((1 : Int) ≤ clI (getL 0 (a ++ [0]) q))) hRn
  · have hz : ∀ i, 0 ≤ i → i < n → getL 0 a i = 0 := fun i i0 i1 => by
      rcases h i i0 i1 with h | h
      · exact h
      · exact absurd ⟨i, i0, i1, h⟩ hx
    obtain ⟨w, e1, l1, g1⟩ := visual_const (l := 0) ha (by omega) (by omega) (by omega) hz
    obtain ⟨x, e2, l2, g2⟩ := visual_const (l := 0) (n := n + 1) hb (by omega) (Int.le_refl 0) (by decide) (fun i i0 i1 => by
      by_cases c : i < n
      · rw [hg i i0 c, hz i i0 c]
      · obtain rfl : i = n := by omega
        exact hgn)
    refine ⟨w, x, e1, e2, l1, l2, fun p p0 p1 => ?_, ?_⟩
    · rw [g1 p p0 p1, g2 p p0 (by omega)]; rfl
    · rw [g2 n hn0 (by omega)]; rfl

end Go.Vx
