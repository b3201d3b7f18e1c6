/- What the document's own order of places yields. No conditions. -/
import Derived.Test.YtgkpmoapkjlopaaL3
set_option linter.all false
namespace Go.Vx
set_option maxRecDepth 100000

theorem sig_keeps {n : Int} {L : Int → Int} {l m p : Int} (h0 : 0 ≤ p) (h1 : p < n) (hm : m ≤ l) : decide (m ≤ L (sig n (fun q => decide (l ≤ L q)) p)) = decide (m ≤ L p) := by
  obtain ⟨_, _, h, _⟩ := sig_spec (R := fun q => decide (l ≤ L q)) h0 h1
  by_cases hp : l ≤ L p
  · have h2 : l ≤ L (sig n (fun q => decide (l ≤ L q)) p) := by
      have h : decide (l ≤ L (sig n (fun q => decide (l ≤ L q)) p)) = decide (l ≤ L p) := h
      rw [decide_eq_true hp] at h
      exact of_decide_eq_true h
    rw [decide_eq_true (by omega), decide_eq_true (by omega)]
  · rw [sig_not (decide_eq_false hp)]
theorem comp_keeps {n : Int} {L : Int → Int} : ∀ (k : Nat) (lev m p : Int), 0 ≤ p → p < n → m ≤ lev - k → decide (m ≤ L (comp n L k lev p)) = decide (m ≤ L p)
  | 0, _, _, _, _, _, _ => rfl
  | k + 1, lev, m, p, h0, h1, hm => by
    obtain ⟨a, b⟩ := comp_bd (n := n) (L := L) k (lev - 1) p h0 h1
    show decide (m ≤ L (sig n (fun q => decide (lev ≤ L q)) (comp n L k (lev - 1) p))) = _
    rw [sig_keeps a b (by omega)]
    exact comp_keeps k (lev - 1) m p h0 h1 (by omega)
theorem comp_last {n : Int} {L : Int → Int} : ∀ (k : Nat) (lev p : Int), comp n L (k + 1) lev p = comp n L k lev (sig n (fun q => decide (lev - k ≤ L q)) p)
  | 0, lev, p => by simp [comp]
  | k + 1, lev, p => by
    show sig n (fun q => decide (lev ≤ L q)) (comp n L (k + 1) (lev - 1) p) = _
    rw [comp_last k (lev - 1) p, show lev - 1 - (k : Int) = lev - ((k + 1 : Nat) : Int) by omega]
    rfl

theorem refvisual_yields {levels : List Int} (hb : lenL levels ≤ 1000) :
    Yields (lapwingref19_Visual levels) fun out => lenL out = lenL levels ∧ ∀ p, 0 ≤ p → p < lenL levels → getL 0 out p = comp (lenL levels) (fun i => clI (getL 0 levels i)) 127 127 p := by
  have hn := lenL_nn levels
  generalize hN : lenL levels = n at *
  generalize hL : (fun i => clI (getL 0 levels i)) = L at *
  have hL' : ∀ i, imaxI 0 (iminI (getL 0 levels i) 127) = L i := fun i => by rw [← hL]; rfl
  unfold lapwingref19_Visual
  rw [hN]
  simp only [show ∀ x : Int, 0 + x = x from fun x => by omega]
  refine .cut (fun o => ∃ out, o = .go out ∧ lenL out = n ∧ ∀ p, 0 ≤ p → p < n → getL 0 out p = p) ?_ ?_
  · refine .loop (fun x => 0 ≤ x.1 ∧ x.1 ≤ n ∧ lenL x.2 = x.1 ∧ ∀ p, 0 ≤ p → p < x.1 → getL 0 x.2 p = p) (fun x => (n - x.1).toNat) ⟨by dsimp only; omega, hn, rfl, fun p _ _ => by dsimp only at *; omega⟩ ?_
    rintro ⟨i, out⟩ ⟨i0, i1, ho, hg⟩
    dsimp only at i0 i1 ho hg ⊢
    refine .ite (fun h => ?_) (fun h => ?_)
    · have h : i < n := by simpa using h
      refine .chk (grOk (by omega) (by omega) (by omega)) (.chk (inR64 (by omega) (by omega)) (.ret ⟨⟨by dsimp only; omega, by dsimp only; omega, ?_, fun p p0 p1 => ?_⟩, by dsimp only; omega⟩))
      · rw [lenL_app, ho]; rfl
      · dsimp only at p1 ⊢
        rw [getL_app p0]
        split
        · exact hg p p0 (by omega)
        · rw [show p - lenL out = 0 by omega]
          show i = p
          omega
    · have h : ¬ i < n := by simpa using h
      exact .ret ⟨out, rfl, by omega, fun p p0 p1 => hg p p0 (by omega)⟩
  · rintro o ⟨out0, rfl, ho0, hg0⟩
    refine .go ?_
    refine .cut (fun o => ∃ out, o = .go out ∧ lenL out = n ∧ ∀ p, 0 ≤ p → p < n → getL 0 out p = comp n L 127 127 p) ?_ ?_
    · refine .loop (fun x => 0 ≤ x.1 ∧ x.1 ≤ 127 ∧ lenL x.2 = n ∧ ∀ p, 0 ≤ p → p < n → getL 0 x.2 p = comp n L (127 - x.1).toNat 127 p) (fun x => x.1.toNat) ⟨by dsimp only; omega, by dsimp only; omega, ho0, fun p p0 p1 => hg0 p p0 p1⟩ ?_
      rintro ⟨at', q2⟩ ⟨a0, a1, hq2, hg2⟩
      dsimp only at a0 a1 hq2 hg2 ⊢
      refine .ite (fun h => ?_) (fun h => ?_)
      · have h : 1 ≤ at' := by simpa using h
        have bd2 : ∀ p, 0 ≤ p → p < n → 0 ≤ getL 0 q2 p ∧ getL 0 q2 p < n := fun p p0 p1 => by rw [hg2 p p0 p1]; exact comp_bd _ _ _ p0 p1
        have hR2 : ∀ p, 0 ≤ p → p < n → decide (at' ≤ L (getL 0 q2 p)) = decide (at' ≤ L p) := fun p p0 p1 => by rw [hg2 p p0 p1]; exact comp_keeps _ _ _ _ p0 p1 (by omega)
        generalize hRd : (fun q => decide (at' ≤ L q)) = R
        have hR : ∀ p, decide (at' ≤ L p) = R p := fun p => by rw [← hRd]
        refine .cut (fun o => ∃ out, o = .go out ∧ lenL out = n ∧ ∀ p, 0 ≤ p → p < n → getL 0 out p = getL 0 q2 (sig n R p)) ?_ ?_
        · refine .loop (fun x => 0 ≤ x.1 ∧ x.1 ≤ n ∧ (x.1 = 0 ∨ R (x.1 - 1) = false ∨ x.1 = n ∨ R x.1 = false) ∧ lenL x.2 = n ∧ (∀ p, 0 ≤ p → p < x.1 → getL 0 x.2 p = getL 0 q2 (sig n R p)) ∧ ∀ p, x.1 ≤ p → p < n → getL 0 x.2 p = getL 0 q2 p) (fun x => (n - x.1).toNat)
            ⟨by dsimp only; omega, hn, .inl rfl, hq2, fun p _ _ => by dsimp only at *; omega, fun p _ _ => rfl⟩ ?_
          rintro ⟨i, q4⟩ ⟨i0, i1, hbd, hq4, hgl, hgr⟩
          dsimp only at i0 i1 hbd hq4 hgl hgr ⊢
          refine .ite (fun hin => ?_) (fun hin => ?_)
          · have hin : i < n := by simpa using hin
            refine .cut (fun o => ∃ e, o = .go e ∧ i ≤ e ∧ e ≤ n ∧ (∀ j, i ≤ j → j < e → R j = true) ∧ (e = n ∨ R e = false)) ?_ ?_
            · refine .loop (fun e => i ≤ e ∧ e ≤ n ∧ ∀ j, i ≤ j → j < e → R j = true) (fun e => (n - e).toNat) ⟨by omega, by omega, fun j _ _ => by omega⟩ ?_
              rintro e ⟨e0, e1, he⟩
              by_cases hen : e < n
              · have hv := hgr e e0 hen
                obtain ⟨v0, v1⟩ := bd2 e (by omega) hen
                refine .chk (fun _ => ⟨by omega, by omega⟩) (.chk (fun _ => by rw [hv]; exact ⟨v0, v1⟩) ?_)
                rw [decide_eq_true hen, if_pos rfl]
                unfold lapwingref19_level
                rw [hL', hv]
                refine .bind (fun v => v = L (getL 0 q2 e)) (.ret rfl) ?_
                rintro v rfl
                rw [if_pos rfl, hR2 e (by omega) hen, hR]
                refine .ite (fun hc => ?_) (fun hc => ?_)
                · refine .chk (inR64 (by omega) (by omega)) (.ret ⟨⟨by omega, by omega, fun j j0 j1 => ?_⟩, by dsimp only; omega⟩)
                  rcases Int.lt_or_eq_of_le (show j ≤ e by omega) with h' | rfl
                  · exact he j j0 h'
                  · exact hc
                · exact .ret ⟨e, rfl, e0, e1, he, .inr hc⟩
              · refine .chk (fun h' => absurd (of_decide_eq_true h') hen) (.chk (fun h' => absurd (of_decide_eq_true h') hen) ?_)
                rw [decide_eq_false hen]
                simp only [Bool.false_eq_true, if_false]
                refine .bind (fun _ => True) (.ret trivial) fun v _ => ?_
                rw [iteO_false]
                exact .ret ⟨e, rfl, e0, e1, he, .inl (by omega)⟩
            · rintro o ⟨e, rfl, e0, e1, he, hee⟩
              refine .go ?_
              have hdiv : Int.tdiv (e - i) 2 = (e - i) / 2 := Int.tdiv_eq_ediv_of_nonneg (by omega)
              rw [hdiv]
              refine .cut (fun o => ∃ q, o = .go q ∧ lenL q = n ∧ ∀ p, 0 ≤ p → p < n → getL 0 q p = if i ≤ p ∧ p < e then getL 0 q4 (i + e - 1 - p) else getL 0 q4 p) ?_ ?_
              · refine .loop (fun x => 0 ≤ x.1 ∧ x.1 ≤ (e - i) / 2 ∧ lenL x.2 = n ∧ ∀ p, 0 ≤ p → p < n → getL 0 x.2 p = if i ≤ p ∧ p < i + x.1 ∨ e - x.1 ≤ p ∧ p < e then getL 0 q4 (i + e - 1 - p) else getL 0 q4 p) (fun x => ((e - i) / 2 - x.1).toNat)
                  ⟨by dsimp only; omega, by dsimp only; omega, hq4, fun p _ _ => by dsimp only; rw [if_neg (by omega)]⟩ ?_
                rintro ⟨k, q⟩ ⟨k0, k1, hq, hg⟩
                dsimp only at k0 k1 hq hg ⊢
                refine .chk (inR64 (by omega) (by omega)) (.chk (by decide) (.chk (inR64 (by omega) (by omega)) ?_))
                refine .ite (fun hk => ?_) (fun hk => ?_)
                · have hk : k < (e - i) / 2 := by simpa using hk
                  refine .chk (inR64 (by omega) (by omega)) (.chk ⟨by omega, by omega⟩ (.chk (inR64 (by omega) (by omega)) (.chk (inR64 (by omega) (by omega)) (.chk (inR64 (by omega) (by omega)) (.chk ⟨by omega, by omega⟩ (.chk ⟨by omega, by omega⟩ (.chk (inR64 (by omega) (by omega)) (.chk (inR64 (by omega) (by omega)) (.chk ⟨by omega, by omega⟩ (.chk (inR64 (by omega) (by omega)) (.ret ⟨⟨by dsimp only; omega, by dsimp only; omega, by simp [hq], fun p p0 p1 => ?_⟩, by dsimp only; omega⟩)))))))))))
                  dsimp only
                  rw [getL_put (by omega) p0 (by simp [hq]; omega), getL_put (by omega) p0 (by omega)]
                  by_cases c1 : p = e - 1 - k
                  · rw [if_pos c1, hg _ (by omega) (by omega), if_neg (by omega), if_pos (by omega)]
                    congr 1; omega
                  · rw [if_neg c1]
                    by_cases c2 : p = i + k
                    · rw [if_pos c2, hg _ (by omega) (by omega), if_neg (by omega), if_pos (by omega)]
                      congr 1; omega
                    · rw [if_neg c2, hg p p0 p1]
                      by_cases c3 : i ≤ p ∧ p < i + k ∨ e - k ≤ p ∧ p < e
                      · rw [if_pos c3, if_pos (by omega)]
                      · rw [if_neg c3, if_neg (by omega)]
                · have hk : ¬ k < (e - i) / 2 := by simpa using hk
                  refine .ret ⟨q, rfl, hq, fun p p0 p1 => ?_⟩
                  rw [hg p p0 p1]
                  by_cases c3 : i ≤ p ∧ p < e
                  · rw [if_pos c3]
                    by_cases c4 : i ≤ p ∧ p < i + k ∨ e - k ≤ p ∧ p < e
                    · rw [if_pos c4]
                    · rw [if_neg c4]; congr 1; omega
                  · rw [if_neg c3, if_neg (by omega)]
              · rintro o ⟨q, rfl, hq, hg⟩
                refine .go (.chk (inR64 (by omega) (by omega)) ?_)
                try dsimp only
                by_cases hRi : R i = true
                · have hie : i < e := by
                    rcases Int.lt_or_eq_of_le e0 with h' | rfl
                    · exact h'
                    · rcases hee with h' | h'
                      · omega
                      · rw [hRi] at h'; cases h'
                  have hmx : imaxI e (i + 1) = e := by unfold imaxI; split <;> omega
                  have hst : i = 0 ∨ R (i - 1) = false := by
                    rcases hbd with h' | h' | h' | h'
                    · exact .inl h'
                    · exact .inr h'
                    · omega
                    · rw [hRi] at h'; cases h'
                  rw [hmx]
                  refine .ret ⟨⟨by dsimp only; omega, e1, ?_, hq, fun p p0 p1 => ?_, fun p p0 p1 => ?_⟩, by dsimp only; omega⟩
                  · rcases hee with h' | h'
                    · exact .inr (.inr (.inl h'))
                    · exact .inr (.inr (.inr h'))
                  · dsimp only at p1 ⊢
                    rw [hg p p0 (by omega)]
                    by_cases c : i ≤ p
                    · have hrun : IsRun n R p i e := ⟨i0, c, p1, e1, he, hst, hee⟩
                      rw [if_pos ⟨c, p1⟩, sig_run hrun, hgr _ (by omega) (by omega)]
                    · rw [if_neg (by omega)]
                      exact hgl p p0 (by omega)
                  · dsimp only at p0 ⊢
                    rw [hg p (by omega) p1, if_neg (by omega)]
                    exact hgr p (by omega) p1
                · have hRi : R i = false := by simpa using hRi
                  have hie : e = i := by
                    rcases Int.lt_or_eq_of_le e0 with h' | h'
                    · have := he i (by omega) h'
                      rw [hRi] at this; cases this
                    · exact h'.symm
                  have hmx : imaxI e (i + 1) = i + 1 := by unfold imaxI; split <;> omega
                  rw [hmx]
                  refine .ret ⟨⟨by dsimp only; omega, by dsimp only; omega, .inr (.inl (by dsimp only; rw [show i + 1 - 1 = i by omega]; exact hRi)), hq, fun p p0 p1 => ?_, fun p p0 p1 => ?_⟩, by dsimp only; omega⟩
                  · dsimp only at p1 ⊢
                    rw [hg p p0 (by omega), if_neg (by omega)]
                    rcases Int.lt_or_eq_of_le (show p ≤ i by omega) with h' | rfl
                    · exact hgl p p0 h'
                    · rw [sig_not hRi]; exact hgr p (by omega) (by omega)
                  · dsimp only at p0 ⊢
                    rw [hg p (by omega) p1, if_neg (by omega)]
                    exact hgr p (by omega) p1
          · have hin : ¬ i < n := by simpa using hin
            exact .ret ⟨q4, rfl, hq4, fun p p0 p1 => hgl p p0 (by omega)⟩
        · rintro o ⟨q3, rfl, hq3, hg3⟩
          refine .go (.chk (inR64 (by omega) (by omega)) (.ret ⟨⟨by dsimp only; omega, by dsimp only; omega, hq3, fun p p0 p1 => ?_⟩, by dsimp only; omega⟩))
          dsimp only
          obtain ⟨s0, s1, _⟩ := sig_spec (R := R) p0 p1
          rw [hg3 p p0 p1, hg2 _ s0 s1, show (127 - (at' - 1)).toNat = (127 - at').toNat + 1 by omega, comp_last, show (127 : Int) - ((127 - at').toNat : Nat) = at' by omega, hRd]
      · have h : ¬ 1 ≤ at' := by simpa using h
        obtain rfl : at' = 0 := by omega
        exact .ret ⟨q2, rfl, hq2, hg2⟩
    · rintro o ⟨q, rfl, hq, hg⟩
      exact .go (.ret ⟨hq, hg⟩)
end Go.Vx
