/- Part of a proof; no conditions of its own. -/
import Derived.Test.YtgkpmoapkjlopaaOrdC
set_option linter.all false
namespace Go.Vx
/-! ### OrderOne -/
theorem bnd_mask (x : Int) (k : Nat) (hk : k < 63) : bndI .i64 x ((2 ^ k - 1 : Nat) : Int) = x % (2 ^ k : Nat) := by
  unfold bndI
  have hb : IntKind.bits .i64 = 64 := rfl
  rw [hb]
  have hm : BitVec.ofInt 64 ((2 ^ k - 1 : Nat) : Int) = BitVec.ofNat 64 (2 ^ k - 1) := by
    apply BitVec.eq_of_toNat_eq
    simp
  rw [hm, BitVec.toNat_and, BitVec.toNat_ofNat]
  have hp : 2 ^ k < 2 ^ 63 := Nat.pow_lt_pow_right (by omega) hk
  have hp0 : 0 < 2 ^ k := Nat.two_pow_pos k
  rw [Nat.mod_eq_of_lt (show 2 ^ k - 1 < 2 ^ 64 by omega), Nat.and_two_pow_sub_one_eq_mod, BitVec.toNat_ofInt]
  have h1 : ((x % ((2 ^ 64 : Nat) : Int)).toNat % 2 ^ k : Nat) = (x % ((2 ^ k : Nat) : Int)).toNat := by
    have hd : ((2 ^ k : Nat) : Int) ∣ ((2 ^ 64 : Nat) : Int) := Int.ofNat_dvd.2 (Nat.pow_dvd_pow 2 (by omega))
    have e1 : 0 ≤ x % ((2 ^ 64 : Nat) : Int) := Int.emod_nonneg _ (by decide)
    have e2 : 0 ≤ x % ((2 ^ k : Nat) : Int) := Int.emod_nonneg _ (by omega)
    have e3 : (x % ((2 ^ 64 : Nat) : Int)) % ((2 ^ k : Nat) : Int) = x % ((2 ^ k : Nat) : Int) := Int.emod_emod_of_dvd _ hd
    have : (((x % ((2 ^ 64 : Nat) : Int)).toNat % 2 ^ k : Nat) : Int) = ((x % ((2 ^ k : Nat) : Int)).toNat : Int) := by
      rw [Int.natCast_emod, Int.toNat_of_nonneg e1, e3, Int.toNat_of_nonneg e2]
    exact_mod_cast this
  rw [h1, Int.toNat_of_nonneg (Int.emod_nonneg _ (by omega))]
  have e2 : 0 ≤ x % ((2 ^ k : Nat) : Int) := Int.emod_nonneg _ (by omega)
  have e3 : x % ((2 ^ k : Nat) : Int) < ((2 ^ k : Nat) : Int) := Int.emod_lt_of_pos _ (by omega)
  generalize x % ((2 ^ k : Nat) : Int) = y at *
  refine wrap_rng .i64 y ?_
  have m1 : IntKind.min .i64 = -9223372036854775808 := by decide
  have m2 : IntKind.max .i64 = 9223372036854775807 := by decide
  omega

theorem visual_const {a : List Int} {n l : Int} (ha : lenL a = n) (hn : n ≤ 1000) (h0 : 0 ≤ l) (h1 : l ≤ 127) (hl : ∀ i, 0 ≤ i → i < n → getL 0 a i = l) :
    Yields (order_Visual a) fun v => lenL v = n ∧ ∀ p, 0 ≤ p → p < n → getL 0 v p = if l % 2 = 0 then p else n - 1 - p := by
  have hn0 : 0 ≤ n := by rw [← ha]; exact lenL_nn a
  have hL : ∀ i, 0 ≤ i → i < n → clI (getL 0 a i) = l := fun i i0 i1 => by rw [hl i i0 i1, clI_id h0 h1]
  have ht : Tops (lenL a) (fun i => clI (getL 0 a i)) (if n = 0 then 0 else l) (if n = 0 ∨ l % 2 = 0 then 128 else l) := by
    rw [ha]
    dsimp only [Tops]
    by_cases hz : n = 0
    · rw [if_pos hz, if_pos (.inl hz)]
      exact ⟨⟨by omega, fun i _ _ => by omega, .inl rfl⟩, .inl rfl, fun i _ _ => by omega⟩
    · rw [if_neg hz]
      refine ⟨⟨h0, fun i i0 i1 => by rw [hL i i0 i1]; omega, .inr ⟨0, by omega, by omega, hL 0 (by omega) (by omega)⟩⟩, ?_, fun i i0 i1 ho => ?_⟩
      · by_cases he : l % 2 = 0
        · exact .inl (if_pos (.inr he))
        · rw [if_neg (by omega)]
          exact .inr ⟨0, by omega, by omega, hL 0 (by omega) (by omega), by rw [hL 0 (by omega) (by omega)]; omega⟩
      · rw [hL i i0 i1] at ho ⊢
        rw [if_neg (by omega)]; omega
  refine (visual_with (by omega) ht).mono fun v ⟨h2, h3⟩ => ?_
  rw [ha] at h2 h3
  refine ⟨h2, fun p p0 p1 => ?_⟩
  rw [h3 p p0 p1, if_neg (by omega)]
  by_cases he : l % 2 = 0
  · rw [if_pos he, if_pos (.inr he), show (l - 128 + 1).toNat = 0 by omega]; rfl
  · rw [if_neg he, if_neg (by omega), show (l - l + 1).toNat = 1 by omega]
    show sig n (fun q => decide (l ≤ clI (getL 0 a q))) p = _
    have hr : IsRun n (fun q => decide (l ≤ clI (getL 0 a q))) p 0 n :=
      ⟨by omega, p0, p1, by omega, fun j j0 j1 => by rw [decide_eq_true_eq, hL j j0 j1]; omega, .inl rfl, .inl rfl⟩
    rw [sig_run hr]; omega

theorem sig_more {n : Int} {R R' : Int → Bool} (h : ∀ j, 0 ≤ j → j < n → R' j = R j) (hn : R' n = false) {p : Int} (p0 : 0 ≤ p) (p1 : p < n) : sig (n + 1) R' p = sig n R p := by
  cases hR : R p with
  | false => rw [sig_not hR, sig_not ((h p p0 p1).trans hR)]
  | true =>
    have hr := run_of p0 p1 hR
    rw [sig_run hr]
    refine sig_run ?_
    obtain ⟨a1, a2, a3, a4, a5, a6, a7⟩ := hr
    refine ⟨a1, a2, a3, by omega, fun j j0 j1 => (h j (by omega) (by omega)).trans (a5 j j0 j1), ?_, ?_⟩
    · by_cases hs0 : rBeg R p.toNat p = 0
      · exact .inl hs0
      · rcases a6 with h6 | h6
        · exact .inl h6
        · exact .inr ((h _ (by omega) (by omega)).trans h6)
    · by_cases he : rEnd n R (n - p).toNat p = n
      · rw [he]; exact .inr hn
      · rcases a7 with h7 | h7
        · exact absurd h7 he
        · exact .inr ((h _ (by omega) (by omega)).trans h7)

theorem visual01 {a : List Int} {n : Int} (ha : lenL a = n) (hn : n ≤ 900) (h : ∀ i, 0 ≤ i → i < n → getL 0 a i = 0 ∨ getL 0 a i = 1) :
    ∃ w x, order_Visual a = some w ∧ order_Visual (a ++ [0]) = some x ∧ lenL w = n ∧ lenL x = n + 1 ∧ (∀ p, 0 ≤ p → p < n → getL 0 x p = getL 0 w p) ∧ getL 0 x n = n := by
  have hn0 : 0 ≤ n := by rw [← ha]; exact lenL_nn a
  have hb : lenL (a ++ [0]) = n + 1 := by simp [ha]
  have hg : ∀ i, 0 ≤ i → i < n → getL 0 (a ++ [0]) i = getL 0 a i := fun i i0 i1 => by rw [getL_app i0, if_pos (by omega)]
  have hgn : getL 0 (a ++ [0]) n = 0 := by rw [getL_app hn0, if_neg (by omega), show n - lenL a = 0 by omega]; rfl
  have h01 : ∀ i, 0 ≤ i → i < n → clI (getL 0 a i) = getL 0 a i := fun i i0 i1 => by rcases h i i0 i1 with h | h <;> rw [h] <;> decide
  have h01' : ∀ i, 0 ≤ i → i < n → clI (getL 0 (a ++ [0]) i) = getL 0 a i := fun i i0 i1 => by rw [hg i i0 i1, h01 i i0 i1]
  have h01n : clI (getL 0 (a ++ [0]) n) = 0 := by rw [hgn]; decide
  by_cases hx : ∃ i, 0 ≤ i ∧ i < n ∧ getL 0 a i = 1
  · obtain ⟨i, i0, i1, hi⟩ := hx
    have ht : Tops (lenL a) (fun i => clI (getL 0 a i)) 1 1 := by
      rw [ha]; dsimp only [Tops]
      refine ⟨⟨by omega, fun j j0 j1 => ?_, .inr ⟨i, i0, i1, by rw [h01 i i0 i1, hi]⟩⟩, .inr ⟨i, i0, i1, by rw [h01 i i0 i1, hi], by rw [h01 i i0 i1, hi]; decide⟩, fun j j0 j1 ho => ?_⟩
      · rw [h01 j j0 j1]; rcases h j j0 j1 with h | h <;> omega
      · have := clI_bd (getL 0 a j); omega
    have ht' : Tops (lenL (a ++ [0])) (fun i => clI (getL 0 (a ++ [0]) i)) 1 1 := by
      rw [hb]; dsimp only [Tops]
      refine ⟨⟨by omega, fun j j0 j1 => ?_, .inr ⟨i, i0, by omega, by rw [h01' i i0 i1, hi]⟩⟩, .inr ⟨i, i0, by omega, by rw [h01' i i0 i1, hi], by rw [h01' i i0 i1, hi]; decide⟩, fun j j0 j1 ho => ?_⟩
      · by_cases c : j < n
        · rw [h01' j j0 c]; rcases h j j0 c with h | h <;> omega
        · obtain rfl : j = n := by omega
          rw [h01n]; omega
      · have := clI_bd (getL 0 (a ++ [0]) j); omega
    obtain ⟨w, e1, l1, g1⟩ := visual_with (by omega) ht
    obtain ⟨x, e2, l2, g2⟩ := visual_with (by omega) ht'
    rw [ha] at l1 g1
    rw [hb] at l2 g2
    have hR : ∀ j, 0 ≤ j → j < n → decide ((1 : Int) ≤ clI (getL 0 (a ++ [0]) j)) = decide ((1 : Int) ≤ clI (getL 0 a j)) := fun j j0 j1 => by rw [h01' j j0 j1, h01 j j0 j1]
    have hRn : decide ((1 : Int) ≤ clI (getL 0 (a ++ [0]) n)) = false := by rw [h01n]; rfl
    refine ⟨w, x, e1, e2, l1, l2, fun p p0 p1 => ?_, ?_⟩
    · rw [g1 p p0 p1, g2 p p0 (by omega)]
      exact sig_more (R := fun q => decide ((1 : Int) ≤ clI (getL 0 a q))) (R' := fun q => decide ((1 : Int) ≤ clI (getL 0 (a ++ [0]) q))) hR hRn p0 p1
    · rw [g2 n hn0 (by omega)]
      exact sig_not (R := fun q => decide ((1 : Int) ≤ clI (getL 0 (a ++ [0]) q))) hRn
  · have hz : ∀ i, 0 ≤ i → i < n → getL 0 a i = 0 := fun i i0 i1 => by
      rcases h i i0 i1 with h | h
      · exact h
      · exact absurd ⟨i, i0, i1, h⟩ hx
    obtain ⟨w, e1, l1, g1⟩ := visual_const (l := 0) ha (by omega) (by omega) (by omega) hz
    obtain ⟨x, e2, l2, g2⟩ := visual_const (l := 0) (n := n + 1) hb (by omega) (Int.le_refl 0) (by decide) (fun i i0 i1 => by
      by_cases c : i < n
      · rw [hg i i0 c, hz i i0 c]
      · obtain rfl : i = n := by omega
        exact hgn)
    refine ⟨w, x, e1, e2, l1, l2, fun p p0 p1 => ?_, ?_⟩
    · rw [g1 p p0 p1, g2 p p0 (by omega)]; rfl
    · rw [g2 n hn0 (by omega)]; rfl

theorem orderOne_true (n level : Int) (ahead : List Int) : lapwinglaw19_OrderOne n level ahead = some true := by
  refine Yields.eq ?_
  unfold lapwinglaw19_OrderOne
  have hm : bndI .i64 n 63 = n % 64 := bnd_mask n 6 (by omega)
  have hl : bndI .i64 level 127 = level % 128 := bnd_mask level 7 (by omega)
  have h1 : ∀ x, bndI .i64 x 1 = x % 2 := fun x => bnd_mask x 1 (by omega)
  rw [hm, hl]
  simp only [h1]
  have hm0 : 0 ≤ n % 64 ∧ n % 64 ≤ 63 := by omega
  have hl0 : 0 ≤ level % 128 ∧ level % 128 ≤ 127 := by omega
  generalize n % 64 = m at *
  generalize level % 128 = l at *
  have ha := lenL_nn ahead
  refine .call awake_true (.ite (fun _ => .ret rfl) fun h => ?_)
  have h : lenL ahead ≤ 100 := by simpa using h
  refine .cut (fun o => ∃ levels, o = .go levels ∧ lenL levels = lenL ahead ∧ ∀ i, 0 ≤ i → i < lenL ahead → getL 0 levels i = 0 ∨ getL 0 levels i = 1) ?_ ?_
  · refine .loop (fun x => 0 ≤ x.1 ∧ x.1 ≤ lenL ahead ∧ lenL x.2 = x.1 ∧ ∀ i, 0 ≤ i → i < x.1 → getL 0 x.2 i = 0 ∨ getL 0 x.2 i = 1) (fun x => (lenL ahead - x.1).toNat) ⟨by simp only; omega, by simp only; omega, rfl, fun i _ _ => by simp only at *; omega⟩ ?_
    rintro ⟨i, x⟩ ⟨i0, i1, hx, hg⟩
    simp only at i0 i1 hx hg ⊢
    refine .ite (fun h2 => ?_) (fun h2 => ?_)
    · have h2 : i < lenL ahead := by simpa using h2
      refine .chk ⟨i0, h2⟩ (.chk (grOk (by omega) (by omega) (by omega)) (.chk (inR64 (by omega) (by omega)) (.ret ⟨⟨by simp only; omega, by simp only; omega, by simp [hx], fun k k0 k1 => ?_⟩, by simp only; omega⟩)))
      simp only at k1 ⊢
      rw [getL_app k0, hx]
      by_cases c : k < i
      · rw [if_pos c]; exact hg k k0 c
      · rw [if_neg c, show k - i = 0 by omega]
        show getL 0 ahead i % 2 = 0 ∨ getL 0 ahead i % 2 = 1
        omega
    · have h2 : ¬ i < lenL ahead := by simpa using h2
      exact .ret ⟨x, rfl, by omega, fun k k0 k1 => hg k k0 (by omega)⟩
  rintro _ ⟨levels, rfl, hll, hlg⟩
  refine .chk (mkOk hm0.1 (by omega) (by omega)) (.cut (fun o => ∃ same, o = .go same ∧ lenL same = m ∧ ∀ i, 0 ≤ i → i < m → getL 0 same i = l) ?_ ?_)
  · refine .loop (fun x => 0 ≤ x.1 ∧ x.1 ≤ m ∧ lenL x.2 = m ∧ ∀ i, 0 ≤ i → i < x.1 → getL 0 x.2 i = l) (fun x => (m - x.1).toNat) ⟨by simp only; omega, by simp only; omega, lenL_rep _ hm0.1, fun i _ _ => by simp only at *; omega⟩ ?_
    rintro ⟨i, x⟩ ⟨i0, i1, hx, hg⟩
    simp only at i0 i1 hx hg ⊢
    refine .ite (fun h2 => ?_) (fun h2 => ?_)
    · have h2 : i < m := by simpa using h2
      refine .chk ⟨i0, h2⟩ (.chk (inR64 (by omega) (by omega)) (.ret ⟨⟨by simp only; omega, by simp only; omega, by simpa using hx, fun k k0 k1 => ?_⟩, by simp only; omega⟩))
      simp only at k1 ⊢
      rw [getL_put i0 k0 (by omega)]
      split
      · rfl
      · exact hg k k0 (by omega)
    · have h2 : ¬ i < m := by simpa using h2
      exact .ret ⟨x, rfl, hx, fun k k0 k1 => hg k k0 (by omega)⟩
  rintro _ ⟨same, rfl, hsl, hsg⟩
  show Yields (bindO _ _) _
  obtain ⟨v, ev, lv, gv⟩ := visual_const (l := l) hsl (by omega) hl0.1 hl0.2 hsg
  refine .call ev (.ite (fun h2 => ?_) fun _ => ?_)
  · rw [lv] at h2; simp at h2
  refine .cut (fun o => o = .go ()) ?_ ?_
  · refine .loop (fun i => 0 ≤ i ∧ i ≤ m) (fun i => (m - i).toNat) ⟨by omega, by omega⟩ ?_
    rintro i ⟨i0, i1⟩
    refine .ite (fun h2 => ?_) (fun h2 => ?_)
    · have h2 : i < m := by simpa using h2
      refine .chk (fun _ => ⟨i0, by omega⟩) (.chk (fun _ => ⟨i0, by omega⟩) (.chk (fun _ => inR64 (by omega) (by omega)) (.chk (fun _ => inR64 (by omega) (by omega)) (.ite (fun h3 => ?_) fun _ => ?_))))
      · exfalso
        rw [Int.zero_add, gv i i0 h2] at h3
        by_cases c : l % 2 = 0
        · simp [c] at h3
        · have c' : l % 2 = 1 := by omega
          simp [c'] at h3
      · exact .chk (inR64 (by omega) (by omega)) (.ret ⟨⟨by omega, by omega⟩, by simp only; omega⟩)
    · exact .ret rfl
  rintro _ rfl
  obtain ⟨w, x, e1, e2, l1, l2, g1, g2⟩ := visual01 hll (by omega) hlg
  show Yields (bindO _ _) _
  refine .call e1 (.chk (grOk (by omega) (by omega) (by omega)) (.chk (grOk (by omega) (by omega) (by omega)) (.call e2 (.chk (fun _ => inR64 (by omega) (by omega)) (.chk (fun _ => ⟨by omega, by omega, by omega⟩) ?_)))))
  have hc : (if true = true then (lenL x == lenL levels + 1) else false) = true := by simp [l2, hll]
  rw [if_pos hc]
  have hi : lapwingref03_Ints (subL x (0 + 0) (0 + 0 + (lenL levels - 0))) w = some true := by
    have e : subL x (0 + 0) (0 + 0 + (lenL levels - 0)) = w := by
      have hs : lenL (subL x (0 + 0) (0 + 0 + (lenL levels - 0))) = lenL levels := by
        rw [lenL_sub (by omega) (by omega) (by omega)]; omega
      refine extL 0 (by omega) fun p p0 p1 => ?_
      rw [getL_sub (by omega) p0 (by omega), show (0 : Int) + 0 + p = p by omega, g1 p p0 (by omega)]
    rw [e]
    exact (ints_eq (by omega)).trans (by simp)
  refine .call hi (.chk (fun _ => ⟨by omega, by omega⟩) (.ret ?_))
  rw [if_pos hc, Int.zero_add, hll, g2]
  simp [l2]
end Go.Vx
