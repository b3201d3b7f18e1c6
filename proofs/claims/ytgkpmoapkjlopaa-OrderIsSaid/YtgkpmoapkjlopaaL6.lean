/- Part of a proof; no conditions of its own. -/
import Derived.Test.YtgkpmoapkjlopaaL5
set_option linter.all false
namespace Go.Vx
set_option maxRecDepth 20000
/-! ### OrderRuns -/
theorem cinv_adj {n : Int} {L : Int → Int} : ∀ (K : Nat) (lev q q' : Int), 0 ≤ q → q < n → 0 ≤ q' → q' < n → (q - q' = 1 ∨ q - q' = -1) → (∀ j, j ≤ lev → (j ≤ L q ↔ j ≤ L q')) →
    (cinv n L K lev q - cinv n L K lev q' = 1 ∨ cinv n L K lev q - cinv n L K lev q' = -1)
  | 0, lev, q, q', _, _, _, _, h, _ => h
  | K + 1, lev, q, q', q0, q1, r0, r1, h, hc => by
    simp only [cinv]
    obtain ⟨a1, a2, a3, _⟩ := sig_spec (R := fun q => decide (lev ≤ L q)) q0 q1
    obtain ⟨b1, b2, b3, _⟩ := sig_spec (R := fun q => decide (lev ≤ L q)) r0 r1
    have hR : decide (lev ≤ L q) = decide (lev ≤ L q') := decide_eq_decide.2 (hc lev (Int.le_refl _))
    cases hq : decide (lev ≤ L q) with
    | false =>
      rw [sig_not (R := fun q => decide (lev ≤ L q)) hq, sig_not (R := fun q => decide (lev ≤ L q)) (hR.symm.trans hq)]
      exact cinv_adj K (lev - 1) q q' q0 q1 r0 r1 h fun j hj => hc j (by omega)
    | true =>
      have hq' : decide (lev ≤ L q') = true := hR.symm.trans hq
      have hr := run_of (n := n) (R := fun q => decide (lev ≤ L q)) q0 q1 hq
      generalize rBeg (fun q => decide (lev ≤ L q)) q.toNat q = s at hr
      generalize rEnd n (fun q => decide (lev ≤ L q)) (n - q).toNat q = e at hr
      have hr' : IsRun n (fun q => decide (lev ≤ L q)) q' s e := by
        obtain ⟨c1, c2, c3, c4, c5, c6, c7⟩ := hr
        refine ⟨c1, ?_, ?_, c4, c5, c6, c7⟩
        · rcases c6 with h6 | h6
          · omega
          · rcases Int.lt_or_le q' s with h' | h'
            · obtain rfl : q' = s - 1 := by omega
              rw [show (fun q => decide (lev ≤ L q)) (s - 1) = decide (lev ≤ L (s - 1)) from rfl, hq'] at h6; cases h6
            · exact h'
        · rcases c7 with h7 | h7
          · omega
          · rcases Int.lt_or_le q' e with h' | h'
            · exact h'
            · obtain rfl : q' = e := by omega
              rw [show (fun q => decide (lev ≤ L q)) q' = decide (lev ≤ L q') from rfl, hq'] at h7; cases h7
      have e1 := sig_run hr
      have e2 := sig_run hr'
      have f1 : lev ≤ L (sig n (fun q => decide (lev ≤ L q)) q) := of_decide_eq_true (a3.trans hq)
      have f2 : lev ≤ L (sig n (fun q => decide (lev ≤ L q)) q') := of_decide_eq_true (b3.trans hq')
      refine cinv_adj K (lev - 1) _ _ a1 a2 b1 b2 (by rw [e1, e2]; omega) fun j hj => ⟨fun _ => by omega, fun _ => by omega⟩

theorem visual_adj {levels : List Int} {n : Int} (hn : lenL levels = n) (hb : n ≤ 100000) : ∃ (v : List Int) (f g : Int → Int), order_Visual levels = some v ∧ lenL v = n ∧
    (∀ p, 0 ≤ p → p < n → getL 0 v p = f p ∧ 0 ≤ f p ∧ f p < n ∧ g (f p) = p) ∧ (∀ q, 0 ≤ q → q < n → 0 ≤ g q ∧ g q < n ∧ f (g q) = q) ∧
    ∀ k, 0 < k → k < n → getL 0 levels k = getL 0 levels (k - 1) → (g k - g (k - 1) = 1 ∨ g k - g (k - 1) = -1) := by
  obtain ⟨v, e, l, most, least, _, hg⟩ := visual_yields (levels := levels) (by omega)
  rw [hn] at l hg
  refine ⟨v, comp n (fun i => clI (getL 0 levels i)) (most - least + 1).toNat most, cinv n (fun i => clI (getL 0 levels i)) (most - least + 1).toNat most, e, l, fun p p0 p1 => ?_, fun q q0 q1 => ?_, fun k k0 k1 hk => ?_⟩
  · obtain ⟨a, b⟩ := comp_bd (n := n) (L := fun i => clI (getL 0 levels i)) (most - least + 1).toNat most p p0 p1
    exact ⟨hg p p0 p1, a, b, (cinv_spec _ _ p p0 p1).2.2.2⟩
  · obtain ⟨a, b, c, d⟩ := cinv_spec (n := n) (L := fun i => clI (getL 0 levels i)) (most - least + 1).toNat most q q0 q1
    exact ⟨a, b, c⟩
  · exact cinv_adj _ _ k (k - 1) (by omega) k1 (by omega) (by omega) (by omega) fun j _ => by simp only [hk]

/-- Runs that lie one behind the other up to a place. -/
def Runs (n : Int) (L : Int → Int) (fr : Int) (out : List T_Arr2_i64) : Prop :=
  lenL out ≤ fr ∧ (lenL out = 0 → fr = 0) ∧ ∀ i, 0 ≤ i → i < lenL out →
    (getL d_Arr2_i64 out i).x0 = (if i = 0 then 0 else (getL d_Arr2_i64 out (i - 1)).x1) ∧ 0 ≤ (getL d_Arr2_i64 out i).x0 ∧ (getL d_Arr2_i64 out i).x0 < (getL d_Arr2_i64 out i).x1 ∧ (getL d_Arr2_i64 out i).x1 ≤ n ∧
    (∀ j, (getL d_Arr2_i64 out i).x0 ≤ j → j < (getL d_Arr2_i64 out i).x1 → L j = L (getL d_Arr2_i64 out i).x0) ∧ (0 < i → L (getL d_Arr2_i64 out i).x0 ≠ L ((getL d_Arr2_i64 out i).x0 - 1)) ∧
    (i = lenL out - 1 → (getL d_Arr2_i64 out i).x1 = fr)

theorem Runs.add {n : Int} {L : Int → Int} {fr to : Int} {out : List T_Arr2_i64} (h : Runs n L fr out) (h0 : 0 ≤ fr) (h1 : fr < to) (h2 : to ≤ n) (h3 : ∀ j, fr ≤ j → j < to → L j = L fr) (h4 : 0 < fr → L fr ≠ L (fr - 1)) :
    Runs n L to (out ++ [⟨fr, to⟩]) := by
  obtain ⟨a, b, c⟩ := h
  have hl := lenL_nn out
  refine ⟨by simp; omega, fun h => by simp at h; omega, fun i i0 i1 => ?_⟩
  simp only [lenL_app, lenL_cons, lenL_nil] at i1 ⊢
  have hg : ∀ k, 0 ≤ k → k < lenL out → getL d_Arr2_i64 (out ++ [⟨fr, to⟩]) k = getL d_Arr2_i64 out k := fun k k0 k1 => by rw [getL_app k0, if_pos k1]
  by_cases hi : i < lenL out
  · obtain ⟨c1, c2, c3, c4, c5, c6, c7⟩ := c i i0 hi
    rw [hg i i0 hi]
    refine ⟨?_, c2, c3, c4, c5, c6, fun h => by omega⟩
    by_cases hz : i = 0
    · rw [if_pos hz]; rw [if_pos hz] at c1; exact c1
    · rw [if_neg hz, hg (i - 1) (by omega) (by omega)]; rw [if_neg hz] at c1; exact c1
  · obtain rfl : i = lenL out := by omega
    have e : getL d_Arr2_i64 (out ++ [⟨fr, to⟩]) (lenL out) = ⟨fr, to⟩ := by
      rw [getL_app hl, if_neg (by omega), show lenL out - lenL out = 0 by omega]; rfl
    rw [e]
    refine ⟨?_, h0, h1, h2, h3, fun hp => ?_, fun _ => rfl⟩
    · by_cases hz : lenL out = 0
      · rw [if_pos hz]; exact b hz
      · rw [if_neg hz, hg (lenL out - 1) (by omega) (by omega)]
        exact ((c (lenL out - 1) (by omega) (by omega)).2.2.2.2.2.2 rfl).symm
    · refine h4 ?_
      have := (c (lenL out - 1) (by omega) (by omega))
      have e2 := this.2.2.2.2.2.2 rfl
      omega

theorem Yields.go' {β γ : Type} {k : β → Option γ} {b : β} {Q : γ → Prop} (h : Yields (k b) Q) : Yields (contO k (.go b)) Q := h
theorem Yields.chk' {α : Type} {c : Prop} [Decidable c] {k : Option α} {Q : α → Prop} (hk : Yields k Q) (h : c) : Yields (Go.Vx.chk c k) Q := hk.elim fun r ⟨h1, h2⟩ => ⟨r, by rw [chk_ok h]; exact h1, h2⟩
theorem runs_yields {levels : List Int} {n : Int} (hn : lenL levels = n) (hb : n ≤ 1000) : Yields (order_Runs levels) fun out => Runs n (getL 0 levels) n out := by
  have hn0 : 0 ≤ n := by rw [← hn]; exact lenL_nn levels
  unfold order_Runs
  rw [hn]
  refine .cut (fun o => ∃ out, o = .go out ∧ Runs n (getL 0 levels) n out) ?_ ?_
  · refine .loop (fun x => 0 ≤ x.1 ∧ x.1 ≤ n ∧ Runs n (getL 0 levels) x.1 x.2 ∧ (0 < x.1 → x.1 < n → getL 0 levels x.1 ≠ getL 0 levels (x.1 - 1)) ∧ (x.1 = n → n = 0)) (fun x => (n - x.1).toNat)
      ⟨by simp only; omega, by simp only; omega, ⟨by simp, fun _ => rfl, fun i _ h => by simp at h; omega⟩, fun h => by simp at h, fun h => by simp only at h; omega⟩ ?_
    rintro ⟨fr, out⟩ ⟨f0, f1, hr, hne, hend⟩
    simp only at f0 f1 hr hne hend ⊢
    refine .ite (fun h => ?_) (fun h => ?_)
    · have h : fr < n := by simpa using h
      have hl : 0 ≤ lenL out ∧ lenL out ≤ fr := ⟨lenL_nn out, hr.1⟩
      refine .cut (fun o => (o = .go () ∧ ∀ j, fr ≤ j → j < n → getL 0 levels j = getL 0 levels fr) ∨ ∃ to, o = .out (.go (to, out ++ [⟨fr, to⟩])) ∧ fr < to ∧ to < n ∧ (∀ j, fr ≤ j → j < to → getL 0 levels j = getL 0 levels fr) ∧ getL 0 levels to ≠ getL 0 levels fr) ?_ ?_
      · refine .chk (inR64 (by omega) (by omega)) ?_
        refine .loop (fun t => fr < t ∧ t ≤ n ∧ ∀ j, fr ≤ j → j < t → getL 0 levels j = getL 0 levels fr) (fun t => (n - t).toNat) ⟨by omega, by omega, fun j j0 j1 => by rw [show j = fr by omega]⟩ ?_
        rintro t ⟨t0, t1, ht⟩
        refine .ite (fun h2 => ?_) (fun h2 => ?_)
        · have h2 : t < n := by simpa using h2
          refine .chk ⟨by omega, h2⟩ (.chk ⟨f0, h⟩ (.ite (fun h3 => ?_) (fun h3 => ?_)))
          · have h3 : getL 0 levels t ≠ getL 0 levels fr := by simpa using h3
            exact .chk (grOk (by omega) (by omega) (by omega)) (.ret (.inr ⟨t, rfl, t0, h2, ht, h3⟩))
          · have h3 : getL 0 levels t = getL 0 levels fr := by simpa using h3
            refine .chk (inR64 (by omega) (by omega)) (.ret ⟨⟨by omega, by omega, fun j j0 j1 => ?_⟩, by simp only; omega⟩)
            rcases Int.lt_or_eq_of_le (show j ≤ t by omega) with h' | rfl
            · exact ht j j0 h'
            · exact h3
        · have h2 : ¬ t < n := by simpa using h2
          obtain rfl : t = n := by omega
          exact .ret (.inl ⟨rfl, ht⟩)
      · rintro _ (⟨rfl, hall⟩ | ⟨to, rfl, t0, t1, hall, hn'⟩)
        · have hadd := hr.add f0 h (Int.le_refl n) hall fun hp => hne hp h
          have hgr : growOk 16 (lenL out + 1) := grOk (by omega) (by omega) (by omega)
          have hy : Yields (some (Fl.out (Fl.go (out ++ [⟨fr, n⟩]))) : Option (Fl (Int × List T_Arr2_i64) (Fl (List T_Arr2_i64) (List T_Arr2_i64)))) (StepP (fun x => 0 ≤ x.1 ∧ x.1 ≤ n ∧ Runs n (getL 0 levels) x.1 x.2 ∧ (0 < x.1 → x.1 < n → getL 0 levels x.1 ≠ getL 0 levels (x.1 - 1)) ∧ (x.1 = n → n = 0)) (fun x => (n - x.1).toNat) (fun o => ∃ out, o = Fl.go out ∧ Runs n (getL 0 levels) n out) (fr, out)) := .ret ⟨_, rfl, hadd⟩
          exact Yields.go' (Yields.chk' hy hgr)
        · refine .ret ⟨⟨by simp only; omega, by simp only; omega, hr.add f0 t0 (by omega) hall fun hp => hne hp h, fun _ _ => ?_, fun h => by simp only at h; omega⟩, by simp only; omega⟩
          simp only
          rw [hall (to - 1) (by omega) (by omega)]; exact hn'
    · have h : ¬ fr < n := by simpa using h
      obtain rfl : fr = n := by omega
      exact .ret ⟨out, rfl, hr⟩
  · rintro _ ⟨out, rfl, h⟩
    exact .ret h

end Go.Vx
