/- The document's places turned around, and its runs, are the program's. No conditions. -/
import Derived.Test.YtgkpmoapkjlopaaM3
import Derived.Test.YtgkpmoapkjlopaaL6
set_option linter.all false
namespace Go.Vx
set_option maxRecDepth 100000
def GoodTo (l : List Int) (v : Int) : Prop := ∀ k, 0 ≤ k → k < v → (0 ≤ getL 0 l k ∧ getL 0 l k < lenL l) ∧ ∀ k', 0 ≤ k' → k' < k → getL 0 l k' ≠ getL 0 l k
def InvR (l : List Int) (r : List Int × Bool) : Prop := (r = ([], false) ∧ ¬ GoodTo l (lenL l)) ∨ (r.2 = true ∧ lenL r.1 = lenL l ∧ GoodTo l (lenL l) ∧ ∀ k, 0 ≤ k → k < lenL l → getL 0 r.1 (getL 0 l k) = k)
theorem onto {l : List Int} (h : GoodTo l (lenL l)) {j : Int} (j0 : 0 ≤ j) (j1 : j < lenL l) : ∃ k, 0 ≤ k ∧ k < lenL l ∧ getL 0 l k = j := by
  by_cases hc : ∃ k, 0 ≤ k ∧ k < lenL l ∧ getL 0 l k = j
  · exact hc
  · exfalso
    have hn : ∀ k, 0 ≤ k → k < lenL l → getL 0 l k ≠ j := fun k k0 k1 e => hc ⟨k, k0, k1, e⟩
    have hinj : ∀ a b : Int, 0 ≤ a → a < lenL l → 0 ≤ b → b < lenL l → getL 0 l a = getL 0 l b → a = b := by
      intro a b a0 a1 b0 b1 e
      rcases Int.lt_trichotomy a b with c | c | c
      · exact absurd e ((h b b0 b1).2 a a0 c)
      · exact c
      · exact absurd e.symm ((h a a0 a1).2 b b0 c)
    have := inj_le (lenL l).toNat (lenL l - 1).toNat (fun k => if getL 0 l k = lenL l - 1 then j.toNat else (getL 0 l k).toNat) (fun i hi => by
      have hg := (h i (by omega) (by omega)).1
      have hne := hn i (by omega) (by omega)
      try dsimp only
      split
      · rename_i e; rw [e] at hne; omega
      · omega) (fun a b ha hb e => by
      have ga := (h a (by omega) (by omega)).1
      have gb := (h b (by omega) (by omega)).1
      have na := hn a (by omega) (by omega)
      have nb := hn b (by omega) (by omega)
      have key : getL 0 l a = getL 0 l b := by
        try dsimp only at e
        split at e <;> split at e <;> omega
      have := hinj a b (by omega) (by omega) (by omega) (by omega) key
      omega)
    omega
theorem invert_yields {l : List Int} (hb : lenL l ≤ 100000) : Yields (order_Invert l) (InvR l) := by
  have hn := lenL_nn l
  unfold order_Invert
  simp only [show ∀ x : Int, 0 + x = x from fun x => by omega]
  refine .chk (mkOk hn (by omega) (by omega)) (.cut (fun o => ∃ q, o = .go q ∧ lenL q = lenL l ∧ ∀ j, 0 ≤ j → j < lenL l → getL 0 q j = -1) ?_ ?_)
  · refine .loop (fun x => 0 ≤ x.1 ∧ x.1 ≤ lenL l ∧ lenL x.2 = lenL l ∧ ∀ j, 0 ≤ j → j < x.1 → getL 0 x.2 j = -1) (fun x => (lenL l - x.1).toNat) ⟨by dsimp only; omega, hn, lenL_rep _ hn, fun j _ _ => by dsimp only at *; omega⟩ ?_
    rintro ⟨i, x⟩ ⟨i0, i1, hx, hg⟩
    dsimp only at i0 i1 hx hg ⊢
    refine .ite (fun h => ?_) (fun h => ?_)
    · have h : i < lenL l := by simpa using h
      refine .chk ⟨i0, by omega⟩ (.chk (inR64 (by omega) (by omega)) (.ret ⟨⟨by dsimp only; omega, by dsimp only; omega, by simpa using hx, fun j j0 j1 => ?_⟩, by dsimp only; omega⟩))
      dsimp only at j1 ⊢
      rw [getL_put i0 j0 (by omega)]
      split
      · rfl
      · exact hg j j0 (by omega)
    · have h : ¬ i < lenL l := by simpa using h
      exact .ret ⟨x, rfl, hx, fun j j0 j1 => hg j j0 (by omega)⟩
  · rintro o ⟨q0, rfl, hq0, hg0⟩
    refine .go (.cut (fun o => (o = .out ([], false) ∧ ¬ GoodTo l (lenL l)) ∨ ∃ q, o = .go q ∧ lenL q = lenL l ∧ GoodTo l (lenL l) ∧ ∀ k, 0 ≤ k → k < lenL l → getL 0 q (getL 0 l k) = k) ?_ ?_)
    · refine .loop (fun x => 0 ≤ x.1 ∧ x.1 ≤ lenL l ∧ lenL x.2 = lenL l ∧ GoodTo l x.1 ∧ (∀ k, 0 ≤ k → k < x.1 → getL 0 x.2 (getL 0 l k) = k) ∧ ∀ j, 0 ≤ j → j < lenL l → 0 ≤ getL 0 x.2 j → ∃ k, 0 ≤ k ∧ k < x.1 ∧ getL 0 l k = j) (fun x => (lenL l - x.1).toNat)
        ⟨by dsimp only; omega, hn, hq0, fun k _ _ => by dsimp only at *; omega, fun k _ _ => by dsimp only at *; omega, fun j j0 j1 h => by dsimp only at h; rw [hg0 j j0 j1] at h; omega⟩ ?_
      rintro ⟨i, q⟩ ⟨i0, i1, hq, hgd, hk, hj⟩
      dsimp only at i0 i1 hq hgd hk hj ⊢
      refine .ite (fun h => ?_) (fun h => ?_)
      · have h : i < lenL l := by simpa using h
        refine .chk ⟨i0, h⟩ ?_
        by_cases hr : 0 ≤ getL 0 l i ∧ getL 0 l i < lenL l
        · refine .chk (fun _ => hr) (.ite (fun hc => ?_) (fun hc => ?_))
          · have hc : 0 ≤ getL 0 q (getL 0 l i) := by
              simp [show ¬ getL 0 l i < 0 by omega, show ¬ lenL l ≤ getL 0 l i by omega] at hc; exact hc
            obtain ⟨k, k0, k1, k2⟩ := hj _ hr.1 hr.2 hc
            exact .ret (.inl ⟨rfl, fun hG => (hG i i0 h).2 k k0 k1 k2⟩)
          · have hc : ¬ 0 ≤ getL 0 q (getL 0 l i) := by
              simp [show ¬ getL 0 l i < 0 by omega, show ¬ lenL l ≤ getL 0 l i by omega] at hc; omega
            have hne : ∀ k, 0 ≤ k → k < i → getL 0 l k ≠ getL 0 l i := fun k k0 k1 e => by have := hk k k0 k1; rw [e] at this; omega
            refine .chk hr (.chk (inR64 (by omega) (by omega)) (.ret ⟨⟨by dsimp only; omega, by dsimp only; omega, by simp [hq], fun k k0 k1 => ?_, fun k k0 k1 => ?_, fun j j0 j1 hjj => ?_⟩, by dsimp only; omega⟩))
            · dsimp only at k1
              rcases Int.lt_or_eq_of_le (show k ≤ i by omega) with c | rfl
              · exact hgd k k0 c
              · exact ⟨hr, hne⟩
            · dsimp only at k1 ⊢
              rcases Int.lt_or_eq_of_le (show k ≤ i by omega) with c | rfl
              · have := (hgd k k0 c).1
                rw [getL_put hr.1 this.1 (by omega), if_neg (hne k k0 c)]; exact hk k k0 c
              · rw [getL_put hr.1 hr.1 (by omega), if_pos rfl]
            · dsimp only at hjj ⊢
              rw [getL_put hr.1 j0 (by omega)] at hjj
              by_cases c : j = getL 0 l i
              · exact ⟨i, i0, by omega, c.symm⟩
              · rw [if_neg c] at hjj
                obtain ⟨k, k0, k1, k2⟩ := hj j j0 j1 hjj
                exact ⟨k, k0, by omega, k2⟩
        · have hcc : (if (decide (getL 0 l i < 0)) = true then true else (decide (lenL l ≤ getL 0 l i))) = true := by
            by_cases c : getL 0 l i < 0
            · simp [c]
            · simp [c]; omega
          refine .chk (fun hx => by rw [hcc] at hx; cases hx) ?_
          rw [hcc, if_pos rfl, iteO_true]
          exact .ret (.inl ⟨rfl, fun hG => hr (hG i i0 h).1⟩)
      · have h : ¬ i < lenL l := by simpa using h
        obtain rfl : i = lenL l := by omega
        exact .ret (.inr ⟨q, rfl, hq, hgd, hk⟩)
    · rintro o (⟨rfl, h⟩ | ⟨q, rfl, h1, h2, h3⟩)
      · exact .out (.inl ⟨rfl, h⟩)
      · exact .go (.ret (.inr ⟨rfl, h1, h2, h3⟩))
theorem refinvert_yields {l : List Int} (hb : lenL l ≤ 100000) : Yields (lapwingref19_Invert l) (InvR l) := by
  have hn := lenL_nn l
  unfold lapwingref19_Invert
  simp only [show ∀ x : Int, 0 + x = x from fun x => by omega]
  refine .chk (mkOk hn (by omega) (by omega)) (.chk (mkOk hn (by omega) (by omega)) (.cut (fun o => (o = .out ([], false) ∧ ¬ GoodTo l (lenL l)) ∨ ∃ q, o = .go q ∧ lenL q = lenL l ∧ GoodTo l (lenL l) ∧ ∀ k, 0 ≤ k → k < lenL l → getL 0 q (getL 0 l k) = k) ?_ ?_))
  · refine .loop (fun x => 0 ≤ x.1 ∧ x.1 ≤ lenL l ∧ lenL x.2.1 = lenL l ∧ lenL x.2.2 = lenL l ∧ GoodTo l x.1 ∧ (∀ k, 0 ≤ k → k < x.1 → getL 0 x.2.1 (getL 0 l k) = k) ∧ (∀ k, 0 ≤ k → k < x.1 → getL false x.2.2 (getL 0 l k) = true) ∧ ∀ j, 0 ≤ j → j < lenL l → getL false x.2.2 j = true → ∃ k, 0 ≤ k ∧ k < x.1 ∧ getL 0 l k = j) (fun x => (lenL l - x.1).toNat)
      ⟨by dsimp only; omega, hn, lenL_rep _ hn, lenL_rep _ hn, fun k _ _ => by dsimp only at *; omega, fun k _ _ => by dsimp only at *; omega, fun k _ _ => by dsimp only at *; omega, fun j j0 j1 h => by dsimp only at h; rw [getL_rep j0 j1] at h; cases h⟩ ?_
    rintro ⟨i, q, m⟩ ⟨i0, i1, hq, hm, hgd, hk, hmk, hj⟩
    dsimp only at i0 i1 hq hm hgd hk hmk hj ⊢
    refine .ite (fun h => ?_) (fun h => ?_)
    · have h : i < lenL l := by simpa using h
      refine .chk ⟨i0, h⟩ (.chk (fun _ => ⟨i0, h⟩) (.chk (fun _ => ⟨i0, h⟩) ?_))
      by_cases hr : 0 ≤ getL 0 l i ∧ getL 0 l i < lenL l
      · refine .chk (fun _ => hr) (.ite (fun hc => ?_) (fun hc => ?_))
        · have hc : getL false m (getL 0 l i) = true := by
            simp [show ¬ getL 0 l i < 0 by omega, show ¬ lenL l ≤ getL 0 l i by omega] at hc; exact hc
          obtain ⟨k, k0, k1, k2⟩ := hj _ hr.1 hr.2 hc
          exact .ret (.inl ⟨rfl, fun hG => (hG i i0 h).2 k k0 k1 k2⟩)
        · have hc : getL false m (getL 0 l i) = false := by
            simp [show ¬ getL 0 l i < 0 by omega, show ¬ lenL l ≤ getL 0 l i by omega] at hc; exact hc
          have hne : ∀ k, 0 ≤ k → k < i → getL 0 l k ≠ getL 0 l i := fun k k0 k1 e => by have := hmk k k0 k1; rw [e, hc] at this; cases this
          refine .chk ⟨i0, h⟩ (.chk hr (.chk ⟨i0, h⟩ (.chk hr (.chk (inR64 (by omega) (by omega)) (.ret ⟨⟨by dsimp only; omega, by dsimp only; omega, by simp [hq], by simp [hm], fun k k0 k1 => ?_, fun k k0 k1 => ?_, fun k k0 k1 => ?_, fun j j0 j1 hjj => ?_⟩, by dsimp only; omega⟩)))))
          · dsimp only at k1
            rcases Int.lt_or_eq_of_le (show k ≤ i by omega) with c | rfl
            · exact hgd k k0 c
            · exact ⟨hr, hne⟩
          · dsimp only at k1 ⊢
            rcases Int.lt_or_eq_of_le (show k ≤ i by omega) with c | rfl
            · have := (hgd k k0 c).1
              rw [getL_put hr.1 this.1 (by omega), if_neg (hne k k0 c)]; exact hk k k0 c
            · rw [getL_put hr.1 hr.1 (by omega), if_pos rfl]
          · dsimp only at k1 ⊢
            rcases Int.lt_or_eq_of_le (show k ≤ i by omega) with c | rfl
            · have := (hgd k k0 c).1
              rw [getL_put hr.1 this.1 (by omega), if_neg (hne k k0 c)]; exact hmk k k0 c
            · rw [getL_put hr.1 hr.1 (by omega), if_pos rfl]
          · dsimp only at hjj ⊢
            rw [getL_put hr.1 j0 (by omega)] at hjj
            by_cases c : j = getL 0 l i
            · exact ⟨i, i0, by omega, c.symm⟩
            · rw [if_neg c] at hjj
              obtain ⟨k, k0, k1, k2⟩ := hj j j0 j1 hjj
              exact ⟨k, k0, by omega, k2⟩
      · have hcc : (if (decide (getL 0 l i < 0)) = true then true else (decide (lenL l ≤ getL 0 l i))) = true := by
          by_cases c : getL 0 l i < 0
          · simp [c]
          · simp [c]; omega
        refine .chk (fun hx => by rw [hcc] at hx; cases hx) ?_
        rw [hcc, if_pos rfl, iteO_true]
        exact .ret (.inl ⟨rfl, fun hG => hr (hG i i0 h).1⟩)
    · have h : ¬ i < lenL l := by simpa using h
      obtain rfl : i = lenL l := by omega
      exact .ret (.inr ⟨q, rfl, hq, hgd, hk⟩)
  · rintro o (⟨rfl, h⟩ | ⟨q, rfl, h1, h2, h3⟩)
    · exact .out (.inl ⟨rfl, h⟩)
    · exact .go (.ret (.inr ⟨rfl, h1, h2, h3⟩))
theorem invert_same {l : List Int} (hb : lenL l ≤ 1000) : ∃ c ok, order_Invert l = some (c, ok) ∧ lapwingref19_Invert l = some (c, ok) ∧ lenL c ≤ 1000 := by
  obtain ⟨⟨c, ok⟩, h1, h2⟩ := invert_yields (l := l) (by omega)
  obtain ⟨⟨c', ok'⟩, k1, k2⟩ := refinvert_yields (l := l) (by omega)
  rcases h2 with ⟨e, hg⟩ | ⟨e, hl, hg, hv⟩ <;> rcases k2 with ⟨e', hg'⟩ | ⟨e', hl', hg', hv'⟩
  · rw [e] at h1; rw [e'] at k1
    exact ⟨_, _, h1, k1, by simp⟩
  · exact absurd hg' hg
  · exact absurd hg hg'
  · dsimp only at e hl hv e' hl' hv'
    have : c = c' := extL 0 (by omega) fun j j0 j1 => by
      obtain ⟨k, k0, k1, rfl⟩ := onto hg j0 (by omega)
      rw [hv k k0 k1, hv' k k0 k1]
    subst this; subst e; subst e'
    exact ⟨_, _, h1, k1, by omega⟩

theorem Runs.uniq {n : Int} {L : Int → Int} {a b : List T_Arr2_i64} (h : Runs n L n a) (k : Runs n L n b) : a = b := by
  obtain ⟨a1, a2, a3⟩ := h
  obtain ⟨b1, b2, b3⟩ := k
  have key : ∀ m : Nat, (m : Int) < lenL a → (m : Int) < lenL b → (getL d_Arr2_i64 a m).x0 = (getL d_Arr2_i64 b m).x0 ∧ (getL d_Arr2_i64 a m).x1 = (getL d_Arr2_i64 b m).x1 := by
    intro m
    induction m with
    | zero =>
      intro ha hb
      have A := a3 0 (by omega) (by simpa using ha)
      have B := b3 0 (by omega) (by simpa using hb)
      have hx : (getL d_Arr2_i64 a 0).x0 = (getL d_Arr2_i64 b 0).x0 := by rw [A.1, B.1]; rfl
      refine ⟨hx, ?_⟩
      show (getL d_Arr2_i64 a 0).x1 = (getL d_Arr2_i64 b 0).x1
      rcases Int.lt_trichotomy (getL d_Arr2_i64 a 0).x1 (getL d_Arr2_i64 b 0).x1 with c | c | c
      · exfalso
        by_cases hl : (0 : Int) = lenL a - 1
        · have := A.2.2.2.2.2.2 hl; omega
        · have N := a3 1 (by omega) (by omega)
          have e1 := N.1
          rw [if_neg (by omega), show (1 : Int) - 1 = 0 by omega] at e1
          have d := N.2.2.2.2.2.1 (by omega)
          rw [e1] at d
          have t1 := B.2.2.2.2.1 _ (by omega) c
          have t2 := A.2.2.2.2.1 ((getL d_Arr2_i64 a 0).x1 - 1) (by omega) (by omega)
          rw [hx] at t2
          exact d (t1.trans t2.symm)
      · exact c
      · exfalso
        by_cases hl : (0 : Int) = lenL b - 1
        · have := B.2.2.2.2.2.2 hl; omega
        · have N := b3 1 (by omega) (by omega)
          have e1 := N.1
          rw [if_neg (by omega), show (1 : Int) - 1 = 0 by omega] at e1
          have d := N.2.2.2.2.2.1 (by omega)
          rw [e1] at d
          have t1 := A.2.2.2.2.1 _ (by omega) c
          have t2 := B.2.2.2.2.1 ((getL d_Arr2_i64 b 0).x1 - 1) (by omega) (by omega)
          rw [← hx] at t2
          exact d (t1.trans t2.symm)
    | succ m ih =>
      intro ha hb
      obtain ⟨_, p1⟩ := ih (by omega) (by omega)
      have A := a3 ((m + 1 : Nat) : Int) (by omega) ha
      have B := b3 ((m + 1 : Nat) : Int) (by omega) hb
      have hx : (getL d_Arr2_i64 a ((m + 1 : Nat) : Int)).x0 = (getL d_Arr2_i64 b ((m + 1 : Nat) : Int)).x0 := by
        rw [A.1, B.1, if_neg (by omega), if_neg (by omega), show ((m + 1 : Nat) : Int) - 1 = (m : Int) by omega]; exact p1
      refine ⟨hx, ?_⟩
      rcases Int.lt_trichotomy (getL d_Arr2_i64 a ((m + 1 : Nat) : Int)).x1 (getL d_Arr2_i64 b ((m + 1 : Nat) : Int)).x1 with c | c | c
      · exfalso
        by_cases hl : ((m + 1 : Nat) : Int) = lenL a - 1
        · have := A.2.2.2.2.2.2 hl; omega
        · have N := a3 (((m + 1 : Nat) : Int) + 1) (by omega) (by omega)
          have e1 := N.1
          rw [if_neg (by omega), show ((m + 1 : Nat) : Int) + 1 - 1 = ((m + 1 : Nat) : Int) by omega] at e1
          have d := N.2.2.2.2.2.1 (by omega)
          rw [e1] at d
          have t1 := B.2.2.2.2.1 _ (by omega) c
          have t2 := A.2.2.2.2.1 ((getL d_Arr2_i64 a ((m + 1 : Nat) : Int)).x1 - 1) (by omega) (by omega)
          rw [hx] at t2
          exact d (t1.trans t2.symm)
      · exact c
      · exfalso
        by_cases hl : ((m + 1 : Nat) : Int) = lenL b - 1
        · have := B.2.2.2.2.2.2 hl; omega
        · have N := b3 (((m + 1 : Nat) : Int) + 1) (by omega) (by omega)
          have e1 := N.1
          rw [if_neg (by omega), show ((m + 1 : Nat) : Int) + 1 - 1 = ((m + 1 : Nat) : Int) by omega] at e1
          have d := N.2.2.2.2.2.1 (by omega)
          rw [e1] at d
          have t1 := A.2.2.2.2.1 _ (by omega) c
          have t2 := B.2.2.2.2.1 ((getL d_Arr2_i64 b ((m + 1 : Nat) : Int)).x1 - 1) (by omega) (by omega)
          rw [← hx] at t2
          exact d (t1.trans t2.symm)
  have la := lenL_nn a
  have lb := lenL_nn b
  have hlen : lenL a = lenL b := by
    rcases Int.lt_trichotomy (lenL a) (lenL b) with c | c | c
    · exfalso
      have B := b3 (lenL a) la c
      by_cases hz : lenL a = 0
      · have := a2 hz; omega
      · obtain ⟨_, p⟩ := key (lenL a - 1).toNat (by omega) (by omega)
        rw [show (((lenL a - 1).toNat : Nat) : Int) = lenL a - 1 by omega] at p
        have A := (a3 (lenL a - 1) (by omega) (by omega)).2.2.2.2.2.2 rfl
        have e := B.1
        rw [if_neg hz] at e
        omega
    · exact c
    · exfalso
      have B := a3 (lenL b) lb c
      by_cases hz : lenL b = 0
      · have := b2 hz; omega
      · obtain ⟨_, p⟩ := key (lenL b - 1).toNat (by omega) (by omega)
        rw [show (((lenL b - 1).toNat : Nat) : Int) = lenL b - 1 by omega] at p
        have A := (b3 (lenL b - 1) (by omega) (by omega)).2.2.2.2.2.2 rfl
        have e := B.1
        rw [if_neg hz] at e
        omega
  refine extL d_Arr2_i64 hlen fun i i0 i1 => ?_
  obtain ⟨m, rfl⟩ := Int.eq_ofNat_of_zero_le i0
  obtain ⟨e1, e2⟩ := key m i1 (by omega)
  generalize getL d_Arr2_i64 a m = x at e1 e2
  generalize getL d_Arr2_i64 b m = y at e1 e2
  cases x; cases y
  simp only at e1 e2
  subst e1; subst e2; rfl
end Go.Vx
