/- The document's order of places is the program's. No conditions. -/
import Derived.Test.YtgkpmoapkjlopaaM1
set_option linter.all false
namespace Go.Vx
set_option maxRecDepth 100000
theorem comp_split {n : Int} {L : Int → Int} : ∀ (k l : Nat) (lev p : Int), comp n L (k + l) lev p = comp n L k lev (comp n L l (lev - k) p)
  | 0, l, lev, p => by simp [comp]
  | k + 1, l, lev, p => by
    rw [show k + 1 + l = (k + l) + 1 by omega]
    show sig n (fun q => decide (lev ≤ L q)) (comp n L (k + l) (lev - 1) p) = sig n (fun q => decide (lev ≤ L q)) (comp n L k (lev - 1) (comp n L l (lev - ((k + 1 : Nat) : Int)) p))
    rw [comp_split k l (lev - 1) p, show lev - 1 - (k : Int) = lev - ((k + 1 : Nat) : Int) by omega]
theorem comp_top {n : Int} {L : Int → Int} {most : Int} (h : ∀ i, L i ≤ most) : ∀ (j : Nat) (p : Int), comp n L j (most + j) p = p
  | 0, _ => rfl
  | j + 1, p => by
    show sig n (fun q => decide (most + ((j + 1 : Nat) : Int) ≤ L q)) (comp n L j (most + ((j + 1 : Nat) : Int) - 1) p) = p
    rw [show most + ((j + 1 : Nat) : Int) - 1 = most + (j : Int) by omega, comp_top h j p]
    exact sig_not (decide_eq_false (by have := h p; omega))
theorem comp_pairs {n : Int} {L : Int → Int} : ∀ (q : Nat) (p : Int), (∀ i, L i % 2 = 1 → 2 * (q : Int) < L i) → 0 ≤ p → p < n → comp n L (2 * q) (2 * (q : Int)) p = p
  | 0, _, _, _, _ => rfl
  | q + 1, p, h, h0, h1 => by
    have ih := comp_pairs q p (fun i hi => by have := h i hi; omega) h0 h1
    show sig n (fun x => decide (2 * ((q + 1 : Nat) : Int) ≤ L x)) (sig n (fun x => decide (2 * ((q + 1 : Nat) : Int) - 1 ≤ L x)) (comp n L (2 * q) (2 * ((q + 1 : Nat) : Int) - 1 - 1) p)) = p
    rw [show 2 * ((q + 1 : Nat) : Int) - 1 - 1 = 2 * (q : Int) by omega, ih]
    have e : (fun x => decide (2 * ((q + 1 : Nat) : Int) ≤ L x)) = (fun x => decide (2 * ((q + 1 : Nat) : Int) - 1 ≤ L x)) := by
      funext x
      have := h x
      by_cases hx : 2 * ((q + 1 : Nat) : Int) ≤ L x
      · rw [decide_eq_true hx, decide_eq_true (by omega)]
      · rw [decide_eq_false hx, decide_eq_false (by omega)]
    rw [e]
    exact (sig_spec (R := fun x => decide (2 * ((q + 1 : Nat) : Int) - 1 ≤ L x)) h0 h1).2.2.2
theorem get_some_in (levels : List Int) (i : Int) : clI (getL 0 levels i) = 0 ∨ ∃ j, 0 ≤ j ∧ j < lenL levels ∧ clI (getL 0 levels i) = clI (getL 0 levels j) := by
  by_cases h : i.toNat < levels.length
  · refine .inr ⟨(i.toNat : Nat), by omega, by simp only [lenL]; omega, ?_⟩
    have e : ((i.toNat : Nat) : Int).toNat = i.toNat := by omega
    simp only [getL, e]
  · refine .inl ?_
    have : getL 0 levels i = 0 := by
      simp only [getL, List.getD_eq_getElem?_getD]
      rw [List.getElem?_eq_none (by omega)]; rfl
    rw [this]; rfl
theorem comp_all' {n most least p : Int} {L : Int → Int} (hle : ∀ i, L i ≤ most) (hodd : ∀ i, L i % 2 = 1 → least ≤ L i) (hbd : ∀ i, 0 ≤ L i ∧ L i ≤ 127) (m0 : 0 ≤ most) (hm127 : most ≤ 127)
    (l1 : least = 128 ∨ ∃ i, L i = least ∧ L i % 2 = 1) (h0 : 0 ≤ p) (h1 : p < n) : comp n L 127 127 p = comp n L (most - least + 1).toNat most p := by
  rcases l1 with rfl | ⟨i, hi, ho⟩
  · rw [show (most - 128 + 1).toNat = 0 by omega]
    show sig n (fun q => decide (127 ≤ L q)) (comp n L 126 (127 - 1) p) = p
    have e := comp_pairs (n := n) (L := L) 63 p (fun i hi => by have := hodd i hi; have := hbd i; omega) h0 h1
    have e : comp n L 126 126 p = p := e
    rw [show (127 : Int) - 1 = 126 by omega, e]
    exact sig_not (decide_eq_false (fun h => by have := hodd p; have := hbd p; have h : 127 ≤ L p := h; omega))
  · have hlm : least ≤ most := by have := hle i; omega
    have hlp : 1 ≤ least := by have := hbd i; omega
    have e1 := comp_split (n := n) (L := L) (127 - most).toNat ((most - least + 1).toNat + (least - 1).toNat) 127 p
    rw [show (127 - most).toNat + ((most - least + 1).toNat + (least - 1).toNat) = 127 by omega, show (127 : Int) - ((127 - most).toNat : Nat) = most by omega] at e1
    rw [e1]
    have e2 := comp_top (n := n) hle (127 - most).toNat (comp n L ((most - least + 1).toNat + (least - 1).toNat) most p)
    rw [show most + (((127 - most).toNat : Nat) : Int) = 127 by omega] at e2
    rw [e2, comp_split, show most - (((most - least + 1).toNat : Nat) : Int) = least - 1 by omega]
    have e3 := comp_pairs (n := n) (L := L) ((least - 1) / 2).toNat p (fun j hj => by have := hodd j hj; omega) h0 h1
    rw [show 2 * ((least - 1) / 2).toNat = (least - 1).toNat by omega, show 2 * ((((least - 1) / 2).toNat : Nat) : Int) = least - 1 by omega] at e3
    rw [e3]
theorem comp_all {levels : List Int} {most least p : Int} (ht : Tops (lenL levels) (fun i => clI (getL 0 levels i)) most least) (h0 : 0 ≤ p) (h1 : p < lenL levels) :
    comp (lenL levels) (fun i => clI (getL 0 levels i)) 127 127 p = comp (lenL levels) (fun i => clI (getL 0 levels i)) (most - least + 1).toNat most p := by
  obtain ⟨⟨m0, m1, m2⟩, l1, l2⟩ := ht
  have hle : ∀ i, clI (getL 0 levels i) ≤ most := fun i => by
    rcases get_some_in levels i with h | ⟨j, j0, j1, h⟩
    · omega
    · have := m1 j j0 j1
      rw [h]; exact this
  have hodd : ∀ i, clI (getL 0 levels i) % 2 = 1 → least ≤ clI (getL 0 levels i) := fun i hi => by
    rcases get_some_in levels i with h | ⟨j, j0, j1, h⟩
    · rw [h] at hi; cases hi
    · rw [h] at hi ⊢; exact l2 j j0 j1 hi
  have hm127 : most ≤ 127 := by
    rcases m2 with h | ⟨i, _, _, h⟩
    · omega
    · have := clI_bd (getL 0 levels i)
      have h : clI (getL 0 levels i) = most := h
      omega
  refine comp_all' hle hodd (fun i => clI_bd _) m0 hm127 ?_ h0 h1
  rcases l1 with h | ⟨i, _, _, hi, ho⟩
  · exact .inl h
  · exact .inr ⟨i, hi, ho⟩
theorem visual_same {levels : List Int} (hb : lenL levels ≤ 1000) : ∃ v, order_Visual levels = some v ∧ lapwingref19_Visual levels = some v ∧ lenL v = lenL levels ∧ ∀ p, 0 ≤ p → p < lenL levels → 0 ≤ getL 0 v p ∧ getL 0 v p < lenL levels := by
  obtain ⟨v, h1, h2, most, least, ht, h3⟩ := visual_yields (levels := levels) (by omega)
  obtain ⟨v', k1, k2, k3⟩ := refvisual_yields hb
  have : v' = v := extL 0 (by omega) fun p p0 p1 => by
    rw [k3 p p0 (by omega), h3 p p0 (by omega)]
    exact comp_all ht p0 (by omega)
  subst this
  exact ⟨v', h1, k1, h2, fun p p0 p1 => by rw [h3 p p0 p1]; exact comp_bd _ _ _ p0 p1⟩
end Go.Vx
