/- Part of a proof; no conditions of its own. -/
import Derived.Test.YtgkpmoapkjlopaaL1
set_option linter.all false
namespace Go.Vx
def clI (x : Int) : Int := imaxI 0 (iminI x 127)
theorem clI_bd (x : Int) : 0 ≤ clI x ∧ clI x ≤ 127 := by
  unfold clI imaxI iminI
  repeat' split
  all_goals omega
def comp (n : Int) (L : Int → Int) : Nat → Int → Int → Int
  | 0, _, p => p
  | k + 1, lev, p => sig n (fun q => decide (lev ≤ L q)) (comp n L k (lev - 1) p)

theorem tmod2 {x : Int} (h : 0 ≤ x) : Int.tmod x 2 = x % 2 := by
  rw [Int.tmod_eq_emod_of_nonneg h]

theorem comp_bd {n : Int} {L : Int → Int} : ∀ (k : Nat) (lev p : Int), 0 ≤ p → p < n → 0 ≤ comp n L k lev p ∧ comp n L k lev p < n
  | 0, _, p, h0, h1 => ⟨h0, h1⟩
  | k + 1, lev, p, h0, h1 => by
    obtain ⟨a, b⟩ := comp_bd k (lev - 1) p h0 h1
    have := sig_spec (R := fun q => decide (lev ≤ L q)) a b
    exact ⟨this.1, this.2.1⟩

/-- The highest level, and the least odd one. -/
def Tops (n : Int) (L : Int → Int) (most least : Int) : Prop :=
  (0 ≤ most ∧ (∀ i, 0 ≤ i → i < n → L i ≤ most) ∧ (most = 0 ∨ ∃ i, 0 ≤ i ∧ i < n ∧ L i = most)) ∧
  ((least = 128 ∨ ∃ i, 0 ≤ i ∧ i < n ∧ L i = least ∧ L i % 2 = 1) ∧ ∀ i, 0 ≤ i → i < n → L i % 2 = 1 → least ≤ L i)

theorem visual_yields {levels : List Int} (hb : lenL levels ≤ 100000) :
    Yields (order_Visual levels) fun out => lenL out = lenL levels ∧ ∃ most least, Tops (lenL levels) (fun i => clI (getL 0 levels i)) most least ∧
      ∀ p, 0 ≤ p → p < lenL levels → getL 0 out p = comp (lenL levels) (fun i => clI (getL 0 levels i)) (most - least + 1).toNat most p := by
  have hn := lenL_nn levels
  generalize hN : lenL levels = n at *
  generalize hL : (fun i => clI (getL 0 levels i)) = L at *
  have hL' : ∀ i, clI (getL 0 levels i) = L i := fun i => by rw [← hL]
  have hLb : ∀ i, 0 ≤ L i ∧ L i ≤ 127 := fun i => by rw [← hL']; exact clI_bd _
  unfold order_Visual
  rw [hN]
  refine .chk (mkOk hn (by omega) (by omega)) (.chk (mkOk hn (by omega) (by omega)) ?_)
  refine .cut (fun o => ∃ most least l out, o = .go (most, least, l, out) ∧ lenL l = n ∧ lenL out = n ∧ Tops n L most least ∧ (∀ i, 0 ≤ i → i < n → getL 0 l i = L i) ∧ ∀ i, 0 ≤ i → i < n → getL 0 out i = i) ?_ ?_
  · refine .loop (fun x => 0 ≤ x.2.2.1 ∧ x.2.2.1 ≤ n ∧ lenL x.2.2.2.1 = n ∧ lenL x.2.2.2.2 = n ∧ Tops x.2.2.1 L x.1 x.2.1 ∧ (∀ i, 0 ≤ i → i < x.2.2.1 → getL 0 x.2.2.2.1 i = L i) ∧ ∀ i, 0 ≤ i → i < x.2.2.1 → getL 0 x.2.2.2.2 i = i) (fun x => (n - x.2.2.1).toNat)
      ⟨by simp only; omega, by simp only; omega, lenL_rep _ hn, lenL_rep _ hn, ⟨⟨by simp only; omega, fun i _ _ => by simp only at *; omega, .inl rfl⟩, .inl rfl, fun i _ _ => by simp only at *; omega⟩, fun i _ _ => by simp only at *; omega, fun i _ _ => by simp only at *; omega⟩ ?_
    rintro ⟨most, least, i, l, out⟩ ⟨i0, i1, hl, ho, ⟨⟨m0, m1, m2⟩, l1, l2⟩, hgl, hgo⟩
    simp only at i0 i1 hl ho m0 m1 m2 l1 l2 hgl hgo ⊢
    refine .ite (fun h => ?_) (fun h => ?_)
    · have h : i < n := by simpa using h
      refine .chk ⟨i0, h⟩ (.chk ⟨i0, h⟩ (.chk ⟨i0, h⟩ (.chk (by decide) ?_)))
      rw [show imaxI 0 (iminI (getL 0 levels i) 127) = L i from hL' i]
      have hset : ∀ (x : List Int) (v : Int), lenL x = n → ∀ k, 0 ≤ k → k < i + 1 → getL 0 (setL x i v) k = if k = i then v else getL 0 x k := fun x v hx k k0 k1 => getL_put i0 k0 (by omega)
      have hmost : (0 ≤ imaxI most (L i) ∧ (∀ k, 0 ≤ k → k < i + 1 → L k ≤ imaxI most (L i)) ∧ (imaxI most (L i) = 0 ∨ ∃ k, 0 ≤ k ∧ k < i + 1 ∧ L k = imaxI most (L i))) := by
        unfold imaxI
        split
        · refine ⟨(hLb i).1, fun k k0 k1 => ?_, .inr ⟨i, i0, by omega, rfl⟩⟩
          rcases Int.lt_or_eq_of_le (show k ≤ i by omega) with h' | rfl
          · have := m1 k k0 h'; omega
          · omega
        · refine ⟨m0, fun k k0 k1 => ?_, ?_⟩
          · rcases Int.lt_or_eq_of_le (show k ≤ i by omega) with h' | rfl
            · exact m1 k k0 h'
            · omega
          · rcases m2 with h' | ⟨k, k0, k1, k2⟩
            · exact .inl h'
            · exact .inr ⟨k, k0, by omega, k2⟩
      refine .ite (fun h2 => ?_) (fun h2 => ?_)
      · have h2 : L i % 2 = 1 := by simpa [tmod2 (hLb i).1] using h2
        refine .chk (inR64 (by omega) (by omega)) (.ret ⟨⟨by simp only; omega, by simp only; omega, by simpa using hl, by simpa using ho, ⟨hmost, ?_, fun k k0 k1 k2 => ?_⟩, fun k k0 k1 => ?_, fun k k0 k1 => ?_⟩, by simp only; omega⟩)
        · show iminI least (L i) = 128 ∨ _
          unfold iminI
          split
          · exact .inr ⟨i, i0, by simp only; omega, rfl, h2⟩
          · rcases l1 with h' | ⟨k, k0, k1, k2⟩
            · exact .inl h'
            · exact .inr ⟨k, k0, by simp only; omega, k2⟩
        · show iminI least (L i) ≤ L k
          unfold iminI
          rcases Int.lt_or_eq_of_le (show k ≤ i by simp only at k1; omega) with h' | rfl
          · have := l2 k k0 h' k2; split <;> omega
          · split <;> omega
        · simp only at k1 ⊢
          rw [hset _ _ hl k k0 k1]
          split
          · subst_vars; rfl
          · exact hgl k k0 (by omega)
        · simp only at k1 ⊢
          rw [hset _ _ ho k k0 k1]
          split
          · subst_vars; rfl
          · exact hgo k k0 (by omega)
      · have h2 : ¬ L i % 2 = 1 := by simpa [tmod2 (hLb i).1] using h2
        refine .chk (inR64 (by omega) (by omega)) (.ret ⟨⟨by simp only; omega, by simp only; omega, by simpa using hl, by simpa using ho, ⟨hmost, ?_, fun k k0 k1 k2 => ?_⟩, fun k k0 k1 => ?_, fun k k0 k1 => ?_⟩, by simp only; omega⟩)
        · rcases l1 with h' | ⟨k, k0, k1, k2⟩
          · exact .inl h'
          · exact .inr ⟨k, k0, by simp only; omega, k2⟩
        · rcases Int.lt_or_eq_of_le (show k ≤ i by simp only at k1; omega) with h' | rfl
          · exact l2 k k0 h' k2
          · exact absurd k2 h2
        · simp only at k1 ⊢
          rw [hset _ _ hl k k0 k1]
          split
          · subst_vars; rfl
          · exact hgl k k0 (by omega)
        · simp only at k1 ⊢
          rw [hset _ _ ho k k0 k1]
          split
          · subst_vars; rfl
          · exact hgo k k0 (by omega)
    · have h : ¬ i < n := by simpa using h
      obtain rfl : i = n := by omega
      exact .ret ⟨most, least, l, out, rfl, hl, ho, ⟨⟨m0, m1, m2⟩, l1, l2⟩, hgl, hgo⟩
  · rintro _ ⟨most, least, l, out, rfl, hl, ho, htops, hgl, hgo⟩
    show Yields (cutO _ _) _
    have hmost : 0 ≤ most ∧ most ≤ 127 := by
      obtain ⟨⟨m0, _, m2⟩, _⟩ := htops
      rcases m2 with h | ⟨k, _, _, h⟩
      · omega
      · have := hLb k; omega
    have hleast : 1 ≤ least ∧ least ≤ 128 := by
      obtain ⟨_, l1, _⟩ := htops
      rcases l1 with h | ⟨k, _, _, h, h'⟩
      · omega
      · have := hLb k; omega
    refine .cut (fun o => ∃ o', o = .go o' ∧ lenL o' = n ∧ ∀ p, 0 ≤ p → p < n → getL 0 o' p = comp n L (most - least + 1).toNat most p) ?_ ?_
    · refine .loop (fun x => x.1 ≤ most ∧ 0 ≤ x.1 ∧ lenL x.2 = n ∧ ∀ p, 0 ≤ p → p < n → getL 0 x.2 (comp n L (x.1 - least + 1).toNat x.1 p) = comp n L (most - least + 1).toNat most p) (fun x => x.1.toNat)
        ⟨Int.le_refl _, hmost.1, ho, fun p p0 p1 => ?_⟩ ?_
      · obtain ⟨a, b⟩ := comp_bd (n := n) (L := L) (most - least + 1).toNat most p p0 p1
        exact hgo _ a b
      rintro ⟨lev, out2⟩ ⟨v1, v0, ho2, hcomp⟩
      simp only at v1 v0 ho2 hcomp ⊢
      refine .ite (fun h => ?_) (fun h => ?_)
      · have h : least ≤ lev := by simpa using h
        refine .cut (fun o => ∃ o', o = .go o' ∧ lenL o' = n ∧ ∀ q, 0 ≤ q → q < n → getL 0 o' q = getL 0 out2 (sig n (fun q => decide (lev ≤ L q)) q)) ?_ ?_
        · generalize hR : (fun q => decide (lev ≤ L q)) = R
          have hR' : ∀ q, decide (lev ≤ L q) = R q := fun q => by rw [← hR]
          refine .loop (fun x => 0 ≤ x.1 ∧ x.1 ≤ n + 1 ∧ lenL x.2 = n ∧ (x.1 = 0 ∨ x.1 = n + 1 ∨ R (x.1 - 1) = false) ∧ ∀ q, 0 ≤ q → q < n → getL 0 x.2 q = if q < x.1 then getL 0 out2 (sig n R q) else getL 0 out2 q) (fun x => (n + 1 - x.1).toNat)
            ⟨by simp only; omega, by simp only; omega, ho2, .inl rfl, fun q q0 q1 => by simp only; rw [if_neg (by omega)]⟩ ?_
          rintro ⟨fr, o4⟩ ⟨f0, f1, ho4, hfr, hg4⟩
          simp only at f0 f1 ho4 hfr hg4 ⊢
          refine .ite (fun h2 => ?_) (fun h2 => ?_)
          · have h2 : fr < n := by simpa using h2
            refine .cut (fun o => ∃ e, o = .go e ∧ fr ≤ e ∧ e ≤ n ∧ (∀ j, fr ≤ j → j < e → R j = true) ∧ (e = n ∨ R e = false)) ?_ ?_
            · refine .loop (fun t => fr ≤ t ∧ t ≤ n ∧ ∀ j, fr ≤ j → j < t → R j = true) (fun t => (n - t).toNat) ⟨by omega, by omega, fun j _ _ => by omega⟩ ?_
              rintro t ⟨t0, t1, ht⟩
              refine .chk (fun h3 => ⟨by omega, of_decide_eq_true h3⟩) (.ite (fun h3 => ?_) (fun h3 => ?_))
              · have h3 : t < n ∧ lev ≤ getL 0 l t := by simpa using h3
                have h3' := h3.1
                rw [hgl t (by omega) h3.1] at h3
                refine .chk (inR64 (by omega) (by omega)) (.ret ⟨⟨by omega, by omega, fun j j0 j1 => ?_⟩, by simp only; omega⟩)
                rcases Int.lt_or_eq_of_le (show j ≤ t by omega) with h' | rfl
                · exact ht j j0 h'
                · rw [← hR']; simpa using h3.2
              · refine .ret ⟨t, rfl, t0, t1, ht, ?_⟩
                by_cases h4 : t = n
                · exact .inl h4
                · refine .inr ?_
                  have h3 : t < n → getL 0 l t < lev := by simpa using h3
                  have := h3 (by omega)
                  rw [hgl t (by omega) (by omega)] at this
                  rw [← hR']; simp; omega
            · rintro _ ⟨e, rfl, e0, e1, hrun, hend⟩
              refine .chk ⟨f0, e0, e1⟩ ?_
              obtain ⟨o5, h5, hl5, hg5⟩ := reverse_spec (s := o4) (off := 0 + fr) (n := e - fr) (by omega) (by omega) (by omega) (by omega)
              refine .call h5 (.chk (by omega) (.chk (inR64 (by omega) (by omega)) (.ret ⟨⟨by simp only; omega, by simp only; omega, by simp only; omega, ?_, fun q q0 q1 => ?_⟩, by simp only; omega⟩)))
              · simp only
                rcases hend with h' | h'
                · omega
                · refine .inr (.inr ?_)
                  rw [show e + 1 - 1 = e by omega]; exact h'
              · simp only
                rw [hg5 q q0 (by omega)]
                by_cases c1 : fr ≤ q ∧ q < e
                · have hir : IsRun n R q fr e := by
                    refine ⟨f0, c1.1, c1.2, e1, hrun, ?_, hend⟩
                    rcases hfr with h' | h' | h'
                    · exact .inl h'
                    · omega
                    · exact .inr h'
                  rw [if_pos (by omega), if_pos (by omega), sig_run hir, hg4 _ (by omega) (by omega), if_neg (by omega)]
                  congr 1; omega
                · rw [if_neg (by omega), hg4 q q0 q1]
                  by_cases c2 : q < fr
                  · rw [if_pos c2, if_pos (by omega)]
                  · rw [if_neg c2]
                    by_cases c3 : q = e
                    · subst c3
                      rcases hend with h' | h'
                      · omega
                      · rw [if_pos (by omega), sig_not h']
                    · rw [if_neg (by omega)]
          · have h2 : ¬ fr < n := by simpa using h2
            refine .ret ⟨o4, rfl, ho4, fun q q0 q1 => ?_⟩
            rw [hg4 q q0 q1, if_pos (by omega)]
        · rintro _ ⟨o', rfl, hl', hg'⟩
          refine .chk (inR64 (by omega) (by omega)) (.ret ⟨⟨by simp only; omega, by simp only; omega, hl', fun p p0 p1 => ?_⟩, by simp only; omega⟩)
          simp only
          obtain ⟨a, b⟩ := comp_bd (n := n) (L := L) (lev - 1 - least + 1).toNat (lev - 1) p p0 p1
          rw [hg' _ a b, ← hcomp p p0 p1]
          rw [show (lev - least + 1).toNat = (lev - 1 - least + 1).toNat + 1 by omega]
          rfl
      · have h : ¬ least ≤ lev := by simpa using h
        refine .ret ⟨out2, rfl, ho2, fun p p0 p1 => ?_⟩
        have := hcomp p p0 p1
        rwa [show (lev - least + 1).toNat = 0 by omega] at this
    · rintro _ ⟨o', rfl, h1, h2⟩
      exact .ret ⟨h1, most, least, htops, h2⟩
end Go.Vx
