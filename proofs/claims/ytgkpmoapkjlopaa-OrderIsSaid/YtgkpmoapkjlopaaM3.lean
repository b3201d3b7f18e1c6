/- The document's places of letters that take one or two are the program's. No conditions. -/
import Derived.Test.YtgkpmoapkjlopaaM2
import Derived.Test.YtgkpmoapkjlopaaL5
set_option linter.all false
namespace Go.Vx
set_option maxRecDepth 100000
def rowL (s : Int) : Nat → List Int
  | 0 => []
  | k + 1 => rowL s k ++ [s + k]
def celL (w : Int → Int) (v : Int → Int) : Nat → List Int
  | 0 => []
  | i + 1 => celL w v i ++ rowL (preI w (v i)) (w (v i)).toNat
theorem rowL_len (s : Int) : ∀ k : Nat, lenL (rowL s k) = k
  | 0 => rfl
  | k + 1 => by simp [rowL, rowL_len s k]
theorem rowL_succ (s : Int) {k : Int} (h : 0 ≤ k) : rowL s (k + 1).toNat = rowL s k.toNat ++ [s + k] := by
  rw [show (k + 1).toNat = k.toNat + 1 by omega]
  simp only [rowL]
  rw [show ((k.toNat : Nat) : Int) = k by omega]
theorem celL_succ (w v : Int → Int) {i : Int} (h : 0 ≤ i) : celL w v (i + 1).toNat = celL w v i.toNat ++ rowL (preI w (v i)) (w (v i)).toNat := by
  rw [show (i + 1).toNat = i.toNat + 1 by omega]
  simp only [celL]
  rw [show ((i.toNat : Nat) : Int) = i by omega]
theorem celL_len {w v : Int → Int} {n : Int} (hw : ∀ i, 0 ≤ i → i < n → w (v i) ≤ 2) : ∀ i : Nat, (i : Int) ≤ n → lenL (celL w v i) ≤ 2 * i
  | 0, _ => by simp [celL]
  | i + 1, h => by
    have ih := celL_len hw i (by omega)
    have := hw i (by omega) (by omega)
    simp only [celL, lenL_app, rowL_len]
    omega
theorem pre_bd {w : Int → Int} {n : Int} (h12 : ∀ i, 0 ≤ i → i < n → w i = 1 ∨ w i = 2) {i : Int} (i0 : 0 ≤ i) (i1 : i ≤ n) : 0 ≤ preI w i ∧ preI w i ≤ 2 * i := by
  obtain ⟨k, rfl⟩ := Int.eq_ofNat_of_zero_le i0
  clear i0
  induction k with
  | zero => simp [preI_zero]
  | succ k ih =>
    have ih := ih (by omega)
    have h := h12 k (by omega) (by omega)
    have e := preI_succ (w := w) (i := (k : Int)) (by omega)
    rw [show ((k + 1 : Nat) : Int) = (k : Int) + 1 by omega, e]
    omega

theorem cells_is {levels widths v : List Int} {n : Int} (hl : lenL levels = n) (hw : lenL widths = n) (hn : n ≤ 1000) (h12 : ∀ i, 0 ≤ i → i < n → getL 0 widths i = 1 ∨ getL 0 widths i = 2)
    (hv : order_Visual levels = some v) (hvl : lenL v = n) (hvb : ∀ p, 0 ≤ p → p < n → 0 ≤ getL 0 v p ∧ getL 0 v p < n) : order_Cells levels widths = some (celL (getL 0 widths) (getL 0 v) n.toNat, true) := by
  have hn0 : 0 ≤ n := by rw [← hl]; exact lenL_nn levels
  refine Yields.eq ?_
  unfold order_Cells
  rw [hl, hw, show (!(n == n)) = false by simp, iteO_false]
  simp only [show ∀ x : Int, 0 + x = x from fun x => by omega]
  refine .chk (mkOk hn0 (by omega) (by omega)) (.cut (fun o => ∃ N st, o = .go (N, st) ∧ 0 ≤ N ∧ N ≤ 2 * n ∧ lenL st = n ∧ ∀ k, 0 ≤ k → k < n → getL 0 st k = preI (getL 0 widths) k) ?_ ?_)
  · refine .loop (fun x => 0 ≤ x.2.1 ∧ x.2.1 ≤ n ∧ x.1 = preI (getL 0 widths) x.2.1 ∧ lenL x.2.2 = n ∧ ∀ k, 0 ≤ k → k < x.2.1 → getL 0 x.2.2 k = preI (getL 0 widths) k) (fun x => (n - x.2.1).toNat)
      ⟨by dsimp only; omega, hn0, rfl, lenL_rep _ hn0, fun k _ _ => by dsimp only at *; omega⟩ ?_
    rintro ⟨N, i, st⟩ ⟨i0, i1, hN, hs, hg⟩
    dsimp only at i0 i1 hN hs hg ⊢
    refine .ite (fun h => ?_) (fun h => ?_)
    · have h : i < n := by simpa using h
      have hwi := h12 i i0 h
      obtain ⟨b0, b1⟩ := pre_bd h12 i0 i1
      refine .chk ⟨i0, h⟩ ?_
      rw [show (if (!((getL 0 widths i) == 1)) = true then (!((getL 0 widths i) == 2)) else false) = false by rcases hwi with c | c <;> simp [c], iteO_false]
      refine .chk ⟨i0, by omega⟩ (.chk (inR64 (by omega) (by omega)) (.chk (inR64 (by omega) (by omega)) (.ret ⟨⟨by dsimp only; omega, by dsimp only; omega, ?_, by simp [hs], fun k k0 k1 => ?_⟩, by dsimp only; omega⟩)))
      · dsimp only; rw [preI_succ i0, hN]
      · dsimp only at k1 ⊢
        rw [getL_put i0 k0 (by omega)]
        by_cases c : k = i
        · rw [if_pos c, c]; exact hN
        · rw [if_neg c]; exact hg k k0 (by omega)
    · have h : ¬ i < n := by simpa using h
      obtain rfl : i = n := by omega
      obtain ⟨b0, b1⟩ := pre_bd h12 i0 i1
      exact .ret ⟨N, st, rfl, by omega, by omega, hs, hg⟩
  · rintro o ⟨N, st, rfl, N0, N1, hs, hg⟩
    refine .go ?_
    have hmk : makeOk 8 0 N := ⟨by omega, by omega, by omega, by omega⟩
    refine .chk hmk (.cut (fun o => o = .go (celL (getL 0 widths) (getL 0 v) n.toNat)) ?_ ?_)
    · refine .call hv ?_
      rw [hvl]
      refine .loop (fun x => 0 ≤ x.1 ∧ x.1 ≤ n ∧ x.2 = celL (getL 0 widths) (getL 0 v) x.1.toNat) (fun x => (n - x.1).toNat) ⟨by dsimp only; omega, hn0, rfl⟩ ?_
      rintro ⟨i, q⟩ ⟨i0, i1, hq⟩
      dsimp only at i0 i1 hq ⊢
      refine .ite (fun h => ?_) (fun h => ?_)
      · have h : i < n := by simpa using h
        obtain ⟨v0, v1⟩ := hvb i i0 h
        have hwi := h12 _ v0 v1
        have hlen := celL_len (w := getL 0 widths) (v := getL 0 v) (n := n) (fun j j0 j1 => by obtain ⟨a, b⟩ := hvb j j0 j1; have := h12 _ a b; omega) i.toNat (by omega)
        obtain ⟨b0, b1⟩ := pre_bd h12 v0 (by omega)
        refine .cut (fun o => o = .go (celL (getL 0 widths) (getL 0 v) (i + 1).toNat)) ?_ ?_
        · refine .chk ⟨i0, h⟩ (.chk ⟨v0, v1⟩ ?_)
          refine .loop (fun x => 0 ≤ x.1 ∧ x.1 ≤ getL 0 widths (getL 0 v i) ∧ x.2 = q ++ rowL (preI (getL 0 widths) (getL 0 v i)) x.1.toNat) (fun x => (getL 0 widths (getL 0 v i) - x.1).toNat) ⟨by dsimp only; omega, by dsimp only; omega, by simp [rowL]⟩ ?_
          rintro ⟨k, t⟩ ⟨k0, k1, ht⟩
          dsimp only at k0 k1 ht ⊢
          refine .ite (fun hk => ?_) (fun hk => ?_)
          · have hk : k < getL 0 widths (getL 0 v i) := by simpa using hk
            have htl : lenL t ≤ 2 * n + 2 := by rw [ht, lenL_app, rowL_len, hq]; omega
            refine .chk ⟨v0, by omega⟩ ?_
            rw [hg _ v0 v1]
            refine .chk (inR64 (by omega) (by omega)) (.chk (grOk (by have := lenL_nn t; omega) (by omega) (by omega)) (.chk (inR64 (by omega) (by omega)) (.ret ⟨⟨by dsimp only; omega, by dsimp only; omega, ?_⟩, by dsimp only; omega⟩)))
            dsimp only
            rw [rowL_succ _ k0, ← List.append_assoc, ← ht]
          · have hk : ¬ k < getL 0 widths (getL 0 v i) := by simpa using hk
            refine .ret (show Fl.go t = Fl.go _ from ?_)
            rw [celL_succ _ _ i0, ← hq, ht, show k = getL 0 widths (getL 0 v i) by omega]
        · rintro o rfl
          exact .go (.chk (inR64 (by omega) (by omega)) (.ret ⟨⟨by dsimp only; omega, by dsimp only; omega, rfl⟩, by dsimp only; omega⟩))
      · have h : ¬ i < n := by simpa using h
        obtain rfl : i = n := by omega
        exact .ret (show Fl.go q = Fl.go _ by rw [hq])
    · rintro o rfl
      exact .go (.ret rfl)

theorem refcells_is {levels widths v : List Int} {n : Int} (hl : lenL levels = n) (hw : lenL widths = n) (hn : n ≤ 1000) (h12 : ∀ i, 0 ≤ i → i < n → getL 0 widths i = 1 ∨ getL 0 widths i = 2)
    (hv : lapwingref19_Visual levels = some v) (hvl : lenL v = n) (hvb : ∀ p, 0 ≤ p → p < n → 0 ≤ getL 0 v p ∧ getL 0 v p < n) : lapwingref19_Cells levels widths = some (celL (getL 0 widths) (getL 0 v) n.toNat, true) := by
  have hn0 : 0 ≤ n := by rw [← hl]; exact lenL_nn levels
  refine Yields.eq ?_
  unfold lapwingref19_Cells
  rw [hl, hw, show (!(n == n)) = false by simp, iteO_false]
  simp only [show ∀ x : Int, 0 + x = x from fun x => by omega]
  refine .cut (fun o => ∃ st, o = .go st ∧ lenL st = n ∧ ∀ k, 0 ≤ k → k < n → getL 0 st k = preI (getL 0 widths) k) ?_ ?_
  · refine .loop (fun x => 0 ≤ x.2.1 ∧ x.2.1 ≤ n ∧ x.1 = preI (getL 0 widths) x.2.1 ∧ lenL x.2.2 = x.2.1 ∧ ∀ k, 0 ≤ k → k < x.2.1 → getL 0 x.2.2 k = preI (getL 0 widths) k) (fun x => (n - x.2.1).toNat)
      ⟨by dsimp only; omega, hn0, rfl, rfl, fun k _ _ => by dsimp only at *; omega⟩ ?_
    rintro ⟨N, i, st⟩ ⟨i0, i1, hN, hs, hg⟩
    dsimp only at i0 i1 hN hs hg ⊢
    refine .ite (fun h => ?_) (fun h => ?_)
    · have h : i < n := by simpa using h
      have hwi := h12 i i0 h
      obtain ⟨b0, b1⟩ := pre_bd h12 i0 i1
      refine .chk ⟨i0, h⟩ (.chk (fun _ => ⟨i0, h⟩) ?_)
      rw [show (if (!((getL 0 widths i) == 1)) = true then (!((getL 0 widths i) == 2)) else false) = false by rcases hwi with c | c <;> simp [c], iteO_false]
      refine .chk (grOk (by omega) (by omega) (by omega)) (.chk ⟨i0, h⟩ (.chk (inR64 (by omega) (by omega)) (.chk (inR64 (by omega) (by omega)) (.ret ⟨⟨by dsimp only; omega, by dsimp only; omega, ?_, ?_, fun k k0 k1 => ?_⟩, by dsimp only; omega⟩))))
      · dsimp only; rw [preI_succ i0, hN]
      · dsimp only; rw [lenL_app, hs]; rfl
      · dsimp only at k1 ⊢
        rw [getL_app k0]
        split
        · exact hg k k0 (by omega)
        · rw [show k - lenL st = 0 by omega, show k = i by omega]; exact hN
    · have h : ¬ i < n := by simpa using h
      obtain rfl : i = n := by omega
      exact .ret ⟨st, rfl, hs, hg⟩
  · rintro o ⟨st, rfl, hs, hg⟩
    refine .go (.call hv ?_)
    rw [hvl]
    refine .cut (fun o => o = .go (celL (getL 0 widths) (getL 0 v) n.toNat)) ?_ ?_
    · refine .loop (fun x => 0 ≤ x.1 ∧ x.1 ≤ n ∧ x.2 = celL (getL 0 widths) (getL 0 v) x.1.toNat) (fun x => (n - x.1).toNat) ⟨by dsimp only; omega, hn0, rfl⟩ ?_
      rintro ⟨i, q⟩ ⟨i0, i1, hq⟩
      dsimp only at i0 i1 hq ⊢
      refine .ite (fun h => ?_) (fun h => ?_)
      · have h : i < n := by simpa using h
        obtain ⟨v0, v1⟩ := hvb i i0 h
        have hwi := h12 _ v0 v1
        have hlen := celL_len (w := getL 0 widths) (v := getL 0 v) (n := n) (fun j j0 j1 => by obtain ⟨a, b⟩ := hvb j j0 j1; have := h12 _ a b; omega) i.toNat (by omega)
        obtain ⟨b0, b1⟩ := pre_bd h12 v0 (by omega)
        refine .cut (fun o => o = .go (celL (getL 0 widths) (getL 0 v) (i + 1).toNat)) ?_ ?_
        · refine .loop (fun x => 0 ≤ x.1 ∧ x.1 ≤ getL 0 widths (getL 0 v i) ∧ x.2 = q ++ rowL (preI (getL 0 widths) (getL 0 v i)) x.1.toNat) (fun x => (getL 0 widths (getL 0 v i) - x.1).toNat) ⟨by dsimp only; omega, by dsimp only; omega, by simp [rowL]⟩ ?_
          rintro ⟨k, t⟩ ⟨k0, k1, ht⟩
          dsimp only at k0 k1 ht ⊢
          refine .chk ⟨i0, h⟩ (.chk ⟨v0, v1⟩ (.ite (fun hk => ?_) (fun hk => ?_)))
          · have hk : k < getL 0 widths (getL 0 v i) := by simpa using hk
            have htl : lenL t ≤ 2 * n + 2 := by rw [ht, lenL_app, rowL_len, hq]; omega
            refine .chk ⟨i0, h⟩ (.chk ⟨v0, by omega⟩ ?_)
            rw [hg _ v0 v1]
            refine .chk (inR64 (by omega) (by omega)) (.chk (grOk (by have := lenL_nn t; omega) (by omega) (by omega)) (.chk (inR64 (by omega) (by omega)) (.ret ⟨⟨by dsimp only; omega, by dsimp only; omega, ?_⟩, by dsimp only; omega⟩)))
            dsimp only
            rw [rowL_succ _ k0, ← List.append_assoc, ← ht]
          · have hk : ¬ k < getL 0 widths (getL 0 v i) := by simpa using hk
            refine .ret (show Fl.go t = Fl.go _ from ?_)
            rw [celL_succ _ _ i0, ← hq, ht, show k = getL 0 widths (getL 0 v i) by omega]
        · rintro o rfl
          exact .go (.chk (inR64 (by omega) (by omega)) (.ret ⟨⟨by dsimp only; omega, by dsimp only; omega, rfl⟩, by dsimp only; omega⟩))
      · have h : ¬ i < n := by simpa using h
        obtain rfl : i = n := by omega
        exact .ret (show Fl.go q = Fl.go _ by rw [hq])
    · rintro o rfl
      exact .go (.ret rfl)

theorem refcells_no {levels widths : List Int} (hl : lenL widths ≤ 1000) (h : ¬ (lenL levels = lenL widths ∧ ∀ i, 0 ≤ i → i < lenL widths → getL 0 widths i = 1 ∨ getL 0 widths i = 2)) : lapwingref19_Cells levels widths = some ([], false) := by
  refine Yields.eq ?_
  have hn0 := lenL_nn widths
  unfold lapwingref19_Cells
  refine .ite (fun _ => .ret rfl) fun h1 => ?_
  have h1 : lenL levels = lenL widths := by simpa using h1
  refine .cut (fun o => o = .out ([], false)) ?_ ?_
  · refine .loop (fun x => 0 ≤ x.2.1 ∧ x.2.1 ≤ lenL widths ∧ lenL x.2.2 = x.2.1 ∧ 0 ≤ x.1 ∧ x.1 ≤ 2 * x.2.1 ∧ ∀ i, 0 ≤ i → i < x.2.1 → getL 0 widths i = 1 ∨ getL 0 widths i = 2) (fun x => (lenL widths - x.2.1).toNat)
      ⟨by dsimp only; omega, by dsimp only; omega, rfl, by dsimp only; omega, by dsimp only; omega, fun i _ _ => by dsimp only at *; omega⟩ ?_
    rintro ⟨N, i, st⟩ ⟨i0, i1, hs, N0, N1, hg⟩
    dsimp only at i0 i1 hs N0 N1 hg ⊢
    refine .ite (fun h2 => ?_) (fun h2 => ?_)
    · have h2 : i < lenL widths := by simpa using h2
      refine .chk ⟨i0, h2⟩ (.chk (fun _ => ⟨i0, h2⟩) (.ite (fun _ => .ret rfl) fun h3 => ?_))
      have h3 : getL 0 widths i = 1 ∨ getL 0 widths i = 2 := by
        by_cases c : getL 0 widths i = 1
        · exact .inl c
        · simp [c] at h3; exact .inr h3
      refine .chk (grOk (by omega) (by omega) (by omega)) (.chk ⟨i0, h2⟩ (.chk (inR64 (by omega) (by omega)) (.chk (inR64 (by omega) (by omega)) (.ret ⟨⟨by dsimp only; omega, by dsimp only; omega, by dsimp only; rw [lenL_app, hs]; rfl, by dsimp only; omega, by dsimp only; omega, fun k k0 k1 => ?_⟩, by dsimp only; omega⟩))))
      dsimp only at k1
      rcases Int.lt_or_eq_of_le (show k ≤ i by omega) with h' | rfl
      · exact hg k k0 h'
      · exact h3
    · have h2 : ¬ i < lenL widths := by simpa using h2
      exact absurd ⟨h1, fun k k0 k1 => hg k k0 (by omega)⟩ h
  · rintro o rfl
    exact .out rfl

theorem cells_same {levels widths : List Int} (hl : lenL levels ≤ 200) (hw : lenL widths ≤ 200) : ∃ c ok, order_Cells levels widths = some (c, ok) ∧ lapwingref19_Cells levels widths = some (c, ok) ∧ lenL c ≤ 1000 := by
  by_cases h : lenL levels = lenL widths ∧ ∀ i, 0 ≤ i → i < lenL widths → getL 0 widths i = 1 ∨ getL 0 widths i = 2
  · obtain ⟨h1, h12⟩ := h
    obtain ⟨v, hv, hv', hvl, hvb⟩ := visual_same (levels := levels) (by omega)
    refine ⟨_, _, cells_is h1 rfl (by omega) h12 hv (by omega) (fun p p0 p1 => ?_), refcells_is h1 rfl (by omega) h12 hv' (by omega) (fun p p0 p1 => ?_), ?_⟩
    · have := hvb p p0 (by omega); omega
    · have := hvb p p0 (by omega); omega
    · have := celL_len (w := getL 0 widths) (v := getL 0 v) (n := lenL widths) (fun j j0 j1 => by obtain ⟨a, b⟩ := hvb j j0 (by omega); have := h12 _ a (by omega); omega) (lenL widths).toNat (by have := lenL_nn widths; omega)
      omega
  · exact ⟨_, _, cells_no (by omega) h, refcells_no (by omega) h, by simp⟩
end Go.Vx
