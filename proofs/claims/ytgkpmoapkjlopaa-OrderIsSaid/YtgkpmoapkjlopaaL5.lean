/- Part of a proof; no conditions of its own. -/
import Derived.Test.YtgkpmoapkjlopaaL4
set_option linter.all false
namespace Go.Vx
/-! ### OrderOnce -/
def cinv (n : Int) (L : Int → Int) : Nat → Int → Int → Int
  | 0, _, p => p
  | k + 1, lev, p => cinv n L k (lev - 1) (sig n (fun q => decide (lev ≤ L q)) p)
theorem cinv_spec {n : Int} {L : Int → Int} : ∀ (k : Nat) (lev p : Int), 0 ≤ p → p < n →
    0 ≤ cinv n L k lev p ∧ cinv n L k lev p < n ∧ comp n L k lev (cinv n L k lev p) = p ∧ cinv n L k lev (comp n L k lev p) = p
  | 0, lev, p, h0, h1 => ⟨h0, h1, rfl, rfl⟩
  | k + 1, lev, p, h0, h1 => by
    obtain ⟨a1, a2, a3, a4⟩ := sig_spec (R := fun q => decide (lev ≤ L q)) h0 h1
    obtain ⟨b1, b2, b3, b4⟩ := cinv_spec (n := n) (L := L) k (lev - 1) _ a1 a2
    obtain ⟨c1, c2⟩ := comp_bd (n := n) (L := L) k (lev - 1) p h0 h1
    obtain ⟨d1, d2, d3, d4⟩ := sig_spec (R := fun q => decide (lev ≤ L q)) c1 c2
    obtain ⟨e1, e2, e3, e4⟩ := cinv_spec (n := n) (L := L) k (lev - 1) p h0 h1
    refine ⟨b1, b2, ?_, ?_⟩
    · simp only [comp, cinv]
      rw [b3, a4]
    · simp only [comp, cinv]
      rw [d4, e4]

theorem visual_perm {levels : List Int} {n : Int} (hn : lenL levels = n) (hb : n ≤ 100000) : ∃ (v : List Int) (f g : Int → Int), order_Visual levels = some v ∧ lenL v = n ∧
    (∀ p, 0 ≤ p → p < n → getL 0 v p = f p ∧ 0 ≤ f p ∧ f p < n ∧ g (f p) = p) ∧ (∀ q, 0 ≤ q → q < n → 0 ≤ g q ∧ g q < n ∧ f (g q) = q) := by
  obtain ⟨v, e, l, most, least, _, hg⟩ := visual_yields (levels := levels) (by omega)
  rw [hn] at l hg
  refine ⟨v, comp n (fun i => clI (getL 0 levels i)) (most - least + 1).toNat most, cinv n (fun i => clI (getL 0 levels i)) (most - least + 1).toNat most, e, l, fun p p0 p1 => ?_, fun q q0 q1 => ?_⟩
  · obtain ⟨a, b⟩ := comp_bd (n := n) (L := fun i => clI (getL 0 levels i)) (most - least + 1).toNat most p p0 p1
    exact ⟨hg p p0 p1, a, b, (cinv_spec _ _ p p0 p1).2.2.2⟩
  · obtain ⟨a, b, c, d⟩ := cinv_spec (n := n) (L := fun i => clI (getL 0 levels i)) (most - least + 1).toNat most q q0 q1
    exact ⟨a, b, c⟩

theorem mkL_eq {xs : List Int} {n : Int} {f : Int → Int} (hn : lenL xs = n) (h0 : 0 ≤ n) (hf : ∀ p, 0 ≤ p → p < n → getL 0 xs p = f p) : mkL n f = xs :=
  extL 0 (by rw [lenL_mk _ h0, hn]) fun i i0 i1 => by
    rw [lenL_mk _ h0] at i1
    rw [getL_mk i0 i1, hf i i0 i1]

/-- The one-to-one places: as many on either side. -/
theorem inj_le : ∀ (a b : Nat) (f : Nat → Nat), (∀ i, i < a → f i < b) → (∀ i j, i < a → j < a → f i = f j → i = j) → a ≤ b
  | 0, b, f, _, _ => Nat.zero_le b
  | a + 1, 0, f, h, _ => absurd (h 0 (by omega)) (by omega)
  | a + 1, b + 1, f, h, hi => by
    have := inj_le a b (fun i => if f i = b then f a else f i) (fun i hi' => by
      have h1 := h i (by omega)
      have h2 := h a (by omega)
      have hne : f i ≠ f a := fun e => by have := hi i a (by omega) (by omega) e; omega
      try simp only
      split <;> omega) (fun i j hi' hj' e => by
      have hia : f i ≠ f a := fun e => by have := hi i a (by omega) (by omega) e; omega
      have hja : f j ≠ f a := fun e => by have := hi j a (by omega) (by omega) e; omega
      try simp only at e
      refine hi i j (by omega) (by omega) ?_
      split at e <;> split at e <;> omega)
    omega
theorem inj_leI {a b : Int} {f g : Int → Int} (h0 : 0 ≤ b) (h : ∀ i, 0 ≤ i → i < a → 0 ≤ f i ∧ f i < b ∧ g (f i) = i) : a ≤ b := by
  rcases Int.lt_or_le a 0 with ha | ha
  · omega
  have := inj_le a.toNat b.toNat (fun i => (f i).toNat) (fun i hi => by have := h i (by omega) (by omega); omega) (fun i j hi hj e => by
    have h1 := h i (by omega) (by omega)
    have h2 := h j (by omega) (by omega)
    have e : (f i).toNat = (f j).toNat := e
    have e2 : f i = f j := by omega
    have := h1.2.2
    rw [e2, h2.2.2] at this
    omega)
  omega

/-! Sums ahead of a place. -/
def pre (w : Int → Int) : Nat → Int
  | 0 => 0
  | k + 1 => pre w k + w k
def preI (w : Int → Int) (i : Int) : Int := pre w i.toNat
theorem preI_zero (w : Int → Int) : preI w 0 = 0 := rfl
theorem preI_succ {w : Int → Int} {i : Int} (h : 0 ≤ i) : preI w (i + 1) = preI w i + w i := by
  unfold preI
  rw [show (i + 1).toNat = i.toNat + 1 by omega]
  show pre w i.toNat + w (i.toNat : Int) = _
  rw [Int.toNat_of_nonneg h]
theorem pre_mono {w : Int → Int} {n : Nat} (hw : ∀ i : Nat, i < n → 1 ≤ w i) : ∀ {j i : Nat}, i ≤ j → j ≤ n → pre w i + ((j : Int) - i) ≤ pre w j
  | 0, i, h, _ => by obtain rfl : i = 0 := by omega
                     simp
  | j + 1, i, h, hj => by
    rcases Nat.lt_or_ge j i with h' | h'
    · obtain rfl : i = j + 1 := by omega
      simp
    · have := pre_mono hw h' (by omega)
      have := hw j (by omega)
      simp only [pre]
      omega
theorem preI_mono {w : Int → Int} {n : Int} (hw : ∀ i, 0 ≤ i → i < n → 1 ≤ w i) {i j : Int} (h0 : 0 ≤ i) (h1 : i ≤ j) (h2 : j ≤ n) : preI w i + (j - i) ≤ preI w j := by
  have := pre_mono (w := w) (n := n.toNat) (fun k hk => hw k (by omega) (by omega)) (show i.toNat ≤ j.toNat by omega) (by omega)
  unfold preI; omega
/-- The block that holds x. -/
def blk (w : Int → Int) : Nat → Int → Int
  | 0, _ => 0
  | k + 1, x => if pre w k ≤ x then k else blk w k x
theorem blk_spec {w : Int → Int} : ∀ {n : Nat} {x : Int}, 0 ≤ x → x < pre w n → 0 ≤ blk w n x ∧ blk w n x < n ∧ preI w (blk w n x) ≤ x ∧ x < preI w (blk w n x + 1)
  | 0, x, h0, h1 => by simp [pre] at h1; omega
  | n + 1, x, h0, h1 => by
    simp only [blk]
    split
    · rename_i h
      refine ⟨by omega, by omega, ?_, ?_⟩
      · show pre w (n : Int).toNat ≤ x
        simpa using h
      · show x < pre w ((n : Int) + 1).toNat
        rw [show ((n : Int) + 1).toNat = n + 1 by omega]; exact h1
    · rename_i h
      obtain ⟨a, b, c, d⟩ := blk_spec (w := w) (n := n) (x := x) h0 (by omega)
      exact ⟨a, by omega, c, d⟩
theorem blk_uniq {w : Int → Int} {n : Int} (hw : ∀ i, 0 ≤ i → i < n → 1 ≤ w i) {x i : Int} (h0 : 0 ≤ i) (h1 : i < n) (h2 : preI w i ≤ x) (h3 : x < preI w (i + 1)) : blk w n.toNat x = i := by
  have hx0 : 0 ≤ x := by
    have := preI_mono hw (i := 0) (j := i) (by omega) h0 (by omega)
    rw [preI_zero] at this; omega
  have hxn : x < pre w n.toNat := by
    have := preI_mono hw (i := i + 1) (j := n) (by omega) (by omega) (by omega)
    have e : preI w n = pre w n.toNat := rfl
    omega
  obtain ⟨a, b, c, d⟩ := blk_spec hx0 hxn
  generalize blk w n.toNat x = y at *
  rcases Int.lt_trichotomy y i with h | h | h
  · have := preI_mono hw (i := y + 1) (j := i) (by omega) (by omega) (by omega)
    omega
  · exact h
  · have := preI_mono hw (i := i + 1) (j := y) (by omega) (by omega) (by omega)
    omega

/-- Where cells lie: for widths w of letters that stand as f tells (g its inverse). -/
structure Lie (n N : Int) (w f g : Int → Int) (c : List Int) : Prop where
  len : lenL c = N
  sum : preI w n = N
  fwd : ∀ i, 0 ≤ i → i < n → ∀ j, 0 ≤ j → j < w i → 0 ≤ preI (fun p => w (f p)) (g i) + j ∧ preI (fun p => w (f p)) (g i) + j < N ∧ getL 0 c (preI (fun p => w (f p)) (g i) + j) = preI w i + j

theorem cells_yields {levels widths : List Int} {n : Int} (hl : lenL levels = n) (hw : lenL widths = n) (hn : n ≤ 1000) (h12 : ∀ i, 0 ≤ i → i < n → getL 0 widths i = 1 ∨ getL 0 widths i = 2)
    {v : List Int} {f g : Int → Int} (hv : order_Visual levels = some v) (hvl : lenL v = n) (hf : ∀ p, 0 ≤ p → p < n → getL 0 v p = f p ∧ 0 ≤ f p ∧ f p < n ∧ g (f p) = p)
    (hg : ∀ q, 0 ≤ q → q < n → 0 ≤ g q ∧ g q < n ∧ f (g q) = q) :
    Yields (order_Cells levels widths) fun r => r.2 = true ∧ lenL r.1 = preI (fun p => getL 0 widths (f p)) n ∧
      ∀ p, 0 ≤ p → p < n → ∀ j, 0 ≤ j → j < getL 0 widths (f p) → getL 0 r.1 (preI (fun p => getL 0 widths (f p)) p + j) = preI (getL 0 widths) (f p) + j := by
  have hn0 : 0 ≤ n := by rw [← hl]; exact lenL_nn levels
  have hpw : ∀ i, 0 ≤ i → i ≤ n → i ≤ preI (getL 0 widths) i ∧ preI (getL 0 widths) i ≤ 2 * i := by
    intro i i0 i1
    obtain ⟨k, rfl⟩ := Int.eq_ofNat_of_zero_le i0
    clear i0
    induction k with
    | zero => simp [preI_zero]
    | succ k ih =>
      have := ih (by omega)
      rw [show (((k + 1 : Nat)) : Int) = (k : Int) + 1 by omega, preI_succ (by omega)]
      have := h12 k (by omega) (by omega)
      omega
  have hpt : ∀ i, 0 ≤ i → i ≤ n → i ≤ preI (fun p => getL 0 widths (f p)) i ∧ preI (fun p => getL 0 widths (f p)) i ≤ 2 * i := by
    intro i i0 i1
    obtain ⟨k, rfl⟩ := Int.eq_ofNat_of_zero_le i0
    clear i0
    induction k with
    | zero => simp [preI_zero]
    | succ k ih =>
      have := ih (by omega)
      rw [show (((k + 1 : Nat)) : Int) = (k : Int) + 1 by omega, preI_succ (by omega)]
      have h1 := hf k (by omega) (by omega)
      have := h12 (f k) h1.2.1 h1.2.2.1
      omega
  unfold order_Cells
  rw [hl, hw]
  refine .ite (fun h => by simp at h) fun _ => ?_
  refine .chk (mkOk hn0 (by omega) (by omega)) (.cut (fun o => ∃ N st, o = .go (N, st) ∧ N = preI (getL 0 widths) n ∧ lenL st = n ∧ ∀ i, 0 ≤ i → i < n → getL 0 st i = preI (getL 0 widths) i) ?_ ?_)
  · refine .loop (fun x => 0 ≤ x.2.1 ∧ x.2.1 ≤ n ∧ x.1 = preI (getL 0 widths) x.2.1 ∧ lenL x.2.2 = n ∧ ∀ i, 0 ≤ i → i < x.2.1 → getL 0 x.2.2 i = preI (getL 0 widths) i) (fun x => (n - x.2.1).toNat)
      ⟨by simp only; omega, by simp only; omega, rfl, lenL_rep _ hn0, fun i _ _ => by simp only at *; omega⟩ ?_
    rintro ⟨N, i, st⟩ ⟨i0, i1, hN, hs, hgs⟩
    simp only at i0 i1 hN hs hgs ⊢
    refine .ite (fun h => ?_) (fun h => ?_)
    · have h : i < n := by simpa using h
      have hwi := h12 i i0 h
      have hb := hpw i i0 i1
      refine .chk ⟨i0, h⟩ (.ite (fun h2 => ?_) fun _ => ?_)
      · exfalso; rcases hwi with e | e <;> simp [e] at h2
      · refine .chk ⟨i0, h⟩ (.chk (inR64 (by omega) (by omega)) (.chk (inR64 (by omega) (by omega)) (.ret ⟨⟨by simp only; omega, by simp only; omega, ?_, by simpa using hs, fun k k0 k1 => ?_⟩, by simp only; omega⟩)))
        · simp only; rw [preI_succ i0, hN]
        · simp only at k1 ⊢
          rw [getL_put i0 k0 (by omega)]
          split
          · subst_vars; rfl
          · exact hgs k k0 (by omega)
    · have h : ¬ i < n := by simpa using h
      obtain rfl : i = n := by omega
      exact .ret ⟨N, st, rfl, hN, hs, hgs⟩
  rintro _ ⟨N, st, rfl, hN, hsl, hsg⟩
  have hNb := hpw n hn0 (Int.le_refl n)
  refine .chk ⟨by omega, by omega, by omega, by omega⟩ (.cut (fun o => ∃ out, o = .go out ∧ lenL out = preI (fun p => getL 0 widths (f p)) n ∧
      ∀ p, 0 ≤ p → p < n → ∀ j, 0 ≤ j → j < getL 0 widths (f p) → getL 0 out (preI (fun p => getL 0 widths (f p)) p + j) = preI (getL 0 widths) (f p) + j) ?_ ?_)
  · refine .call hv ?_
    refine .loop (fun x => 0 ≤ x.1 ∧ x.1 ≤ n ∧ lenL x.2 = preI (fun p => getL 0 widths (f p)) x.1 ∧ ∀ p, 0 ≤ p → p < x.1 → ∀ j, 0 ≤ j → j < getL 0 widths (f p) → getL 0 x.2 (preI (fun p => getL 0 widths (f p)) p + j) = preI (getL 0 widths) (f p) + j) (fun x => (n - x.1).toNat)
      ⟨by simp only; omega, by simp only; omega, by simp [preI_zero, repL], fun p _ _ => by simp only at *; omega⟩ ?_
    rintro ⟨p, out⟩ ⟨p0, p1, ho, hgo⟩
    simp only at p0 p1 ho hgo ⊢
    rw [hvl]
    refine .ite (fun h => ?_) (fun h => ?_)
    · have h : p < n := by simpa using h
      obtain ⟨e1, e2, e3, e4⟩ := hf p p0 h
      have hw12 := h12 (f p) e2 e3
      have hT := hpt p p0 p1
      have hS := hpw (f p) e2 (by omega)
      refine .cut (fun o => ∃ out', o = .go out' ∧ lenL out' = preI (fun p => getL 0 widths (f p)) (p + 1) ∧
        ∀ q, 0 ≤ q → q < p + 1 → ∀ j, 0 ≤ j → j < getL 0 widths (f q) → getL 0 out' (preI (fun p => getL 0 widths (f p)) q + j) = preI (getL 0 widths) (f q) + j) ?_ ?_
      · refine .chk ⟨p0, h⟩ ?_
        rw [Int.zero_add, e1]
        refine .chk ⟨e2, e3⟩ ?_
        refine .loop (fun x => 0 ≤ x.1 ∧ x.1 ≤ getL 0 widths (f p) ∧ lenL x.2 = preI (fun p => getL 0 widths (f p)) p + x.1 ∧
          (∀ q, 0 ≤ q → q < p → ∀ j, 0 ≤ j → j < getL 0 widths (f q) → getL 0 x.2 (preI (fun p => getL 0 widths (f p)) q + j) = preI (getL 0 widths) (f q) + j) ∧
          ∀ j, 0 ≤ j → j < x.1 → getL 0 x.2 (preI (fun p => getL 0 widths (f p)) p + j) = preI (getL 0 widths) (f p) + j) (fun x => (getL 0 widths (f p) - x.1).toNat)
          ⟨by simp only; omega, by simp only; omega, by simp only; omega, hgo, fun j _ _ => by simp only at *; omega⟩ ?_
        rintro ⟨j, o3⟩ ⟨j0, j1, ho3, hg3, hg4⟩
        simp only at j0 j1 ho3 hg3 hg4 ⊢
        refine .ite (fun h2 => ?_) (fun h2 => ?_)
        · have h2 : j < getL 0 widths (f p) := by simpa using h2
          rw [Int.zero_add, hsg (f p) e2 e3]
          have hlow : ∀ q, 0 ≤ q → q < p → ∀ i, 0 ≤ i → i < getL 0 widths (f q) → 0 ≤ preI (fun p => getL 0 widths (f p)) q + i ∧ preI (fun p => getL 0 widths (f p)) q + i < lenL o3 := by
            intro q q0 q1 i i0 i1
            have a := preI_mono (w := fun p => getL 0 widths (f p)) (n := n) (fun k k0 k1 => by have := hf k k0 k1; have := h12 (f k) this.2.1 this.2.2.1; omega) (i := q + 1) (j := p) (by omega) (by omega) (by omega)
            rw [preI_succ q0] at a
            have := hpt q q0 (by omega)
            omega
          refine .chk ⟨e2, e3⟩ (.chk (inR64 (by omega) (by omega)) (.chk (grOk (by omega) (by omega) (by omega)) (.chk (inR64 (by omega) (by omega)) (.ret ⟨⟨by simp only; omega, by simp only; omega, by simp [ho3]; omega, fun q q0 q1 i i0 i1 => ?_, fun i i0 i1 => ?_⟩, by simp only; omega⟩))))
          · have := hlow q q0 q1 i i0 i1
            simp only
            rw [getL_app this.1, if_pos this.2]; exact hg3 q q0 q1 i i0 i1
          · simp only at i1 ⊢
            rw [getL_app (by omega)]
            by_cases c : i < j
            · rw [if_pos (by omega)]; exact hg4 i i0 c
            · rw [if_neg (by omega), getL_one (by omega)]; omega
        · have h2 : ¬ j < getL 0 widths (f p) := by simpa using h2
          obtain rfl : j = getL 0 widths (f p) := by omega
          refine .ret ⟨o3, rfl, ?_, fun q q0 q1 i i0 i1 => ?_⟩
          · rw [preI_succ p0]; exact ho3
          · rcases Int.lt_or_eq_of_le (show q ≤ p by omega) with h' | rfl
            · exact hg3 q q0 h' i i0 i1
            · exact hg4 i i0 i1
      · rintro _ ⟨o', rfl, h1, h2⟩
        exact .chk (inR64 (by omega) (by omega)) (.ret ⟨⟨by simp only; omega, by simp only; omega, h1, h2⟩, by simp only; omega⟩)
    · have h : ¬ p < n := by simpa using h
      obtain rfl : p = n := by omega
      exact .ret ⟨out, rfl, ho, hgo⟩
  · rintro _ ⟨out, rfl, h1, h2⟩
    exact .ret ⟨rfl, h1, h2⟩

theorem cells_no {levels widths : List Int} (hl : lenL widths ≤ 1000) (h : ¬ (lenL levels = lenL widths ∧ ∀ i, 0 ≤ i → i < lenL widths → getL 0 widths i = 1 ∨ getL 0 widths i = 2)) : order_Cells levels widths = some ([], false) := by
  refine Yields.eq ?_
  have hn0 := lenL_nn widths
  unfold order_Cells
  refine .ite (fun _ => .ret rfl) fun h1 => ?_
  have h1 : lenL levels = lenL widths := by simpa using h1
  refine .chk (mkOk hn0 (by omega) (by omega)) (.cut (fun o => o = .out ([], false)) ?_ ?_)
  · refine .loop (fun x => 0 ≤ x.2.1 ∧ x.2.1 ≤ lenL widths ∧ lenL x.2.2 = lenL widths ∧ 0 ≤ x.1 ∧ x.1 ≤ 2 * x.2.1 ∧ ∀ i, 0 ≤ i → i < x.2.1 → getL 0 widths i = 1 ∨ getL 0 widths i = 2) (fun x => (lenL widths - x.2.1).toNat)
      ⟨by simp only; omega, by simp only; omega, lenL_rep _ hn0, by simp only; omega, by simp only; omega, fun i _ _ => by simp only at *; omega⟩ ?_
    rintro ⟨N, i, st⟩ ⟨i0, i1, hs, N0, N1, hg⟩
    simp only at i0 i1 hs N0 N1 hg ⊢
    refine .ite (fun h2 => ?_) (fun h2 => ?_)
    · have h2 : i < lenL widths := by simpa using h2
      refine .chk ⟨i0, h2⟩ (.ite (fun _ => .ret rfl) fun h3 => ?_)
      have h3 : getL 0 widths i = 1 ∨ getL 0 widths i = 2 := by
        by_cases c : getL 0 widths i = 1
        · exact .inl c
        · right; simpa [c] using h3
      refine .chk ⟨i0, by omega⟩ (.chk (inR64 (by omega) (by omega)) (.chk (inR64 (by omega) (by omega)) (.ret ⟨⟨by simp only; omega, by simp only; omega, by simpa using hs, by simp only; omega, by simp only; omega, fun k k0 k1 => ?_⟩, by simp only; omega⟩)))
      simp only at k1
      rcases Int.lt_or_eq_of_le (show k ≤ i by omega) with h' | rfl
      · exact hg k k0 h'
      · exact h3
    · have h2 : ¬ i < lenL widths := by simpa using h2
      exact absurd ⟨h1, fun k k0 k1 => hg k k0 (by omega)⟩ h
  · rintro _ rfl
    exact .ret rfl

end Go.Vx
