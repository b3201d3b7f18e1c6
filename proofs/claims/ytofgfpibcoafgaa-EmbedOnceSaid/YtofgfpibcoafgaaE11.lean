/- Part of a proof; no conditions of its own. -/
import Derived.Test.YtofgfpibcoafgaaE10
import Derived.Test.YtofgfpibcoafgaaE2
set_option linter.all false
namespace Go.Vx
set_option maxRecDepth 100000

theorem side_yields (x : Int) : Yields (embed_side x) fun s => 1 ≤ s ∧ s ≤ 2 := by
  unfold embed_side
  exact .ite (fun _ => .ret ⟨by omega, by omega⟩) (fun _ => .ret ⟨by omega, by omega⟩)

theorem edges_yields {l : List Int} {r : T_embed_Run} (base : Int) (hn2 : lenL l ≤ 100000) (F : RunP l r) {S : List Int} (h0 : 0 < lenL S) (hl : lenL S ≤ lenL l) (hr : ∀ j, 0 ≤ j → j < lenL S → 0 ≤ getL 0 S j ∧ getL 0 S j < lenL l) :
    Yields (embed_Edges l r base S) fun p => (1 ≤ p.1 ∧ p.1 ≤ 2) ∧ 1 ≤ p.2 ∧ p.2 ≤ 2 := by
  have hn := lenL_nn l
  have n1 := F.n1
  have n3 := F.n3
  unfold embed_Edges
  refine .call (b := true) (by unfold embed_fits; simp [F.n1, F.n2, F.n3]) ?_
  refine .ite (fun hh => by simp at hh; omega) (fun _ => ?_)
  refine .cut (fun q => q = .go ()) ?_ ?_
  · refine .loop (fun i => 0 ≤ i) (fun i => (lenL S - i).toNat) (by omega) ?_
    intro i i0
    refine .ite (fun h => ?_) (fun h => .ret rfl)
    have h : i < lenL S := by simpa using h
    have := hr i i0 h
    refine .chk ⟨i0, h⟩ (.ite (fun hh => ?_) (fun _ => .chk (inR64 (by omega) (by omega)) (.ret ⟨by omega, by simp only; omega⟩)))
    have e1 : decide (getL 0 S i < 0) = false := decide_eq_false (by omega)
    have e2 : decide (lenL l ≤ getL 0 S i) = false := decide_eq_false (by omega)
    rw [e1, e2] at hh; cases hh
  rintro q rfl
  have hf := hr 0 (by omega) h0
  have hla := hr (lenL S - 1) (by omega) (by omega)
  refine .go (.chk ⟨by omega, h0⟩ (.chk (inR64 (by omega) (by omega)) (.chk ⟨by omega, by omega⟩ ?_)))
  refine .bind _ (parity_spec base) fun p1 hp1 => .bind _ (parity_spec base) fun p2 hp2 => ?_
  refine .cut (fun q => ∃ x, q = .go x) ?_ ?_
  · refine .chk (inR64 (by omega) (by omega)) ?_
    refine .loop (fun i => i < lenL l ∧ -1 ≤ i) (fun i => (i + 1).toNat) ⟨by omega, by omega⟩ ?_
    rintro i ⟨i0, i1⟩
    refine .ite (fun h => ?_) (fun h => .ret ⟨_, rfl⟩)
    have h : 0 ≤ i := by simpa using h
    refine .chk ⟨h, by omega⟩ (.ite (fun _ => .chk ⟨h, by omega⟩ (.ret ⟨_, rfl⟩)) (fun _ => .chk (inR64 (by omega) (by omega)) (.ret ⟨⟨by omega, by omega⟩, by simp only; omega⟩)))
  rintro q ⟨x, rfl⟩
  refine .go ?_
  refine .cut (fun q => ∃ x, q = .go x) ?_ ?_
  · refine .chk ⟨by omega, by omega⟩ (.call (isolate_eq2 _) ?_)
    generalize decide (20 ≤ getL 0 l (getL 0 S (lenL S - 1)) ∧ getL 0 l (getL 0 S (lenL S - 1)) ≤ 22) = iso
    refine .bind (fun m => (!(!iso)) = true → lenL m = lenL l) ?_ fun mt hmt => ?_
    · cases iso with
      | true =>
        exact (match_yields hn2).mono fun m hm _ => hm.1
      | false => exact .ret (fun h => by cases h)
    refine .chk (fun h => by have := hmt h; omega) (.ite (fun _ => ?_) (fun _ => .ret ⟨_, rfl⟩))
    refine .chk (inR64 (by omega) (by omega)) ?_
    refine .loop (fun i => 0 ≤ i) (fun i => (lenL l - i).toNat) (by omega) ?_
    intro i i0
    refine .ite (fun h => ?_) (fun h => .ret ⟨_, rfl⟩)
    have h : i < lenL l := by simpa using h
    exact .chk ⟨i0, by omega⟩ (.ite (fun _ => .chk ⟨i0, by omega⟩ (.ret ⟨_, rfl⟩)) (fun _ => .chk (inR64 (by omega) (by omega)) (.ret ⟨by omega, by simp only; omega⟩)))
  rintro q ⟨y, rfl⟩
  refine .go (.chk ⟨by omega, by omega⟩ (.bind _ (side_yields _) fun a ha => .bind _ (side_yields _) fun b hb => .ret ⟨ha, hb⟩))

/-- Who has been met before place j of sequence i. -/
def MetI (S : List (List Int)) (n i2 k' : Int) (met : List Int) : Prop :=
  lenL met = n ∧ ∀ x, 0 ≤ x → x < n → (getL 0 met x = 0 ∨ getL 0 met x = 1) ∧ (getL 0 met x = 1 ↔ ∃ i j, 0 ≤ i ∧ i < lenL S ∧ 0 ≤ j ∧ j < lenL (getL [] S i) ∧ (i < i2 ∨ i = i2 ∧ j < k') ∧ getL 0 (getL [] S i) j = x)

theorem MetI.step {L : List Int} {R : List Bool} {S : List (List Int)} {n i2 k' : Int} {met : List Int} (Q : SeqsP L R n S) (H : MetI S n i2 k' met) (i0 : 0 ≤ i2) (i1 : i2 < lenL S) (k0 : 0 ≤ k') (k1 : k' < lenL (getL [] S i2)) :
    getL 0 met (getL 0 (getL [] S i2) k') = 0 ∧ MetI S n i2 (k' + 1) (setL met (getL 0 (getL [] S i2) k') (getL 0 met (getL 0 (getL [] S i2) k') + 1)) := by
  obtain ⟨hl, hx⟩ := H
  obtain ⟨a0, a1, _⟩ := Q.s3 i2 k' i0 i1 k0 k1
  have hz : getL 0 met (getL 0 (getL [] S i2) k') = 0 := by
    obtain ⟨h1, h2⟩ := hx _ a0 a1
    rcases h1 with h1 | h1
    · exact h1
    · obtain ⟨i, j, x0, x1, x2, x3, x4, x5⟩ := h2.1 h1
      have := Q.s5 i j i2 k' x0 x1 x2 x3 i0 i1 k0 k1 x5
      omega
  refine ⟨hz, by simp [hl], fun x x0 x1 => ?_⟩
  rw [hz, getL_put a0 x0 (by omega)]
  by_cases e : x = getL 0 (getL [] S i2) k'
  · rw [if_pos e]
    exact ⟨.inr rfl, fun _ => ⟨i2, k', i0, i1, k0, k1, .inr ⟨rfl, by omega⟩, e.symm⟩, fun _ => rfl⟩
  · rw [if_neg e]
    obtain ⟨h1, h2⟩ := hx x x0 x1
    refine ⟨h1, fun h => ?_, fun h => h2.2 ?_⟩
    · obtain ⟨i, j, y0, y1, y2, y3, y4, y5⟩ := h2.1 h
      exact ⟨i, j, y0, y1, y2, y3, by omega, y5⟩
    · obtain ⟨i, j, y0, y1, y2, y3, y4, y5⟩ := h
      refine ⟨i, j, y0, y1, y2, y3, ?_, y5⟩
      rcases y4 with y4 | ⟨y4, y6⟩
      · exact .inl y4
      · by_cases ej : j = k'
        · subst y4; subst ej; exact absurd y5.symm e
        · exact .inr ⟨y4, by omega⟩

theorem embedOnce_true (l : List Int) (base : Int) : lapwinglaw17_EmbedOnce l base = some true := by
  refine Yields.eq ?_
  have hn := lenL_nn l
  unfold lapwinglaw17_EmbedOnce
  refine .call awake_true ?_
  refine .ite (fun _ => .ret rfl) (fun h => ?_)
  have hn2 : lenL l ≤ 300 := by simpa using h
  refine .bind _ (explicit_run base (by omega)) fun r F => ?_
  refine .bind _ (seqs_yields base (by omega) F) fun S Q => ?_
  have n1 := F.n1
  have n3 := F.n3
  have sn := lenL_nn S
  have s7 := Q.s7
  refine .ite (fun hh => by simp [n1] at hh) (fun _ => ?_)
  refine .chk (mkOk hn (by omega) (by omega)) ?_
  simp only [Int.zero_add]
  refine .cut (fun q => ∃ met, q = .go met ∧ MetI S (lenL l) (lenL S) 0 met) ?_ ?_
  · refine .loop (fun x => 0 ≤ x.1 ∧ x.1 ≤ lenL S ∧ MetI S (lenL l) x.1 0 x.2) (fun x => (lenL S - x.1).toNat) ⟨by simp only; omega, by simp only; omega, lenL_rep _ hn, fun x x0 x1 => ?_⟩ ?_
    · simp only
      rw [getL_rep x0 x1]
      exact ⟨.inl rfl, fun h => by omega, fun ⟨i, j, y0, y1, y2, y3, y4, y5⟩ => by omega⟩
    rintro ⟨i, met⟩ ⟨i0, i1, H⟩
    simp only at i0 i1 H ⊢
    refine .ite (fun h => ?_) (fun h => ?_)
    · have h : i < lenL S := by simpa using h
      have q1 := Q.s1 i i0 h
      have hz : (lenL (getL [] S i) == 0) = false := by simp; omega
      refine .cut (fun q => ∃ met, q = .go met ∧ MetI S (lenL l) (i + 1) 0 met) ?_ ?_
      · have hpos : ∀ {b : Bool}, (b && (b && decide (0 < i))) = true → 0 < i := fun {b} hh => by simp at hh; exact hh.2
        refine .chk ⟨i0, h⟩ (.chk (fun hh => ⟨i0, h⟩) (.chk (fun hh => ⟨by omega, q1.1⟩) (.chk (fun hh => inR64 (by omega) (by omega)) (.chk (fun hh => by have := hpos hh; omega) (.chk (fun hh => ⟨by omega, (Q.s1 (i - 1) (by have := hpos hh; omega) (by omega)).1⟩) ?_)))))
        refine .ite (fun hh => ?_) (fun _ => ?_)
        · rw [hz] at hh
          by_cases hi : 0 < i
          · have := Q.s2 (i - 1) i (by omega) (by omega) h
            simp [hi] at hh; omega
          · simp [hi] at hh
        refine .cut (fun q => ∃ met, q = .go met ∧ MetI S (lenL l) (i + 1) 0 met) ?_ ?_
        · refine .loop (fun x => 0 ≤ x.1 ∧ x.1 ≤ lenL (getL [] S i) ∧ MetI S (lenL l) i x.1 x.2) (fun x => (lenL (getL [] S i) - x.1).toNat) ⟨by simp only; omega, by simp only; omega, H⟩ ?_
          rintro ⟨k, met⟩ ⟨k0, k1, H⟩
          simp only at k0 k1 H ⊢
          refine .chk ⟨i0, h⟩ (.ite (fun hk => ?_) (fun hk => ?_))
          · have hk : k < lenL (getL [] S i) := by simpa using hk
            obtain ⟨a0, a1, a2, a3⟩ := Q.s3 i k i0 h k0 hk
            obtain ⟨mz, H'⟩ := H.step Q i0 h k0 hk
            refine .cut (fun q => q = .go ()) ?_ ?_
            · refine .chk ⟨i0, h⟩ (.chk ⟨k0, hk⟩ ?_)
              refine .cut (fun q => q = .go ()) ?_ ?_
              · have hpos : ∀ {b : Bool}, (b && (b && decide (0 < k))) = true → 0 < k := fun {b} hh => by simp at hh; exact hh.2
                refine .chk (fun _ => ⟨i0, h⟩) (.chk (fun _ => inR64 (by omega) (by omega)) (.chk (fun hh => by have := hpos hh; omega) (.chk (fun _ => ⟨a0, by omega⟩) (.chk (fun _ => ⟨i0, h⟩) (.chk (fun _ => ⟨by omega, q1.1⟩) (.chk (fun _ => ?_) ?_))))))
                · have := Q.s3 i 0 i0 h (by omega) q1.1
                  omega
                · have e1 : decide (getL 0 (getL [] S i) k < 0) = false := decide_eq_false (by omega)
                  have e2 : decide (lenL l ≤ getL 0 (getL [] S i) k) = false := decide_eq_false (by omega)
                  have e3 : (if (decide (0 < k)) = true then (decide (getL 0 (getL [] S i) k ≤ (getL 0 (getL [] S i) (k - 1)))) else false) = false := by
                    by_cases hk0 : 0 < k
                    · have := Q.s4 i (k - 1) k i0 h (by omega) (by omega) hk
                      rw [if_pos (by simpa using hk0)]
                      exact decide_eq_false (by omega)
                    · rw [if_neg (by simpa using hk0)]
                  have e4 : (!((getL 0 r.fLevels (getL 0 (getL [] S i) k)) == (getL 0 r.fLevels (getL 0 (getL [] S i) 0)))) = false := by
                    rw [a3]; simp
                  refine .ite (fun hh => ?_) (fun _ => .ret rfl)
                  rw [e1, e2, e3, e4] at hh; cases hh
              · rintro q rfl
                exact .go (.chk ⟨a0, a1⟩ (.chk (inR64 (by omega) (by omega)) (.chk ⟨a0, a1⟩ (.ret rfl))))
            · rintro q rfl
              exact .go (.chk (inR64 (by omega) (by omega)) (.ret ⟨⟨by simp only; omega, by simp only; omega, H'⟩, by simp only; omega⟩))
          · have hk : lenL (getL [] S i) ≤ k := by simpa using hk
            refine .ret ⟨met, rfl, H.1, fun x x0 x1 => ?_⟩
            obtain ⟨h1, h2⟩ := H.2 x x0 x1
            refine ⟨h1, fun hh => ?_, fun hh => h2.2 ?_⟩
            · obtain ⟨i', j, y0, y1, y2, y3, y4, y5⟩ := h2.1 hh
              exact ⟨i', j, y0, y1, y2, y3, by omega, y5⟩
            · obtain ⟨i', j, y0, y1, y2, y3, y4, y5⟩ := hh
              refine ⟨i', j, y0, y1, y2, y3, ?_, y5⟩
              by_cases e : i' = i
              · subst e; exact .inr ⟨rfl, by omega⟩
              · exact .inl (by omega)
        · rintro q ⟨met', rfl, H'⟩
          refine .go (.chk ⟨i0, h⟩ (.bind _ (edges_yields base (by omega) F q1.1 q1.2 (fun j j0 j1 => by obtain ⟨x, y, _⟩ := Q.s3 i j i0 h j0 j1; exact ⟨x, y⟩)) fun p hp => ?_))
          obtain ⟨⟨p1, p2⟩, p3, p4⟩ := hp
          refine .ite (fun hh => ?_) (fun _ => .ret ⟨met', rfl, H'⟩)
          have e1 : decide (p.1 < 1) = false := decide_eq_false (by omega)
          have e2 : decide (2 < p.1) = false := decide_eq_false (by omega)
          have e3 : decide (p.2 < 1) = false := decide_eq_false (by omega)
          have e4 : decide (2 < p.2) = false := decide_eq_false (by omega)
          rw [e1, e2, e3, e4] at hh; cases hh
      · rintro q ⟨met', rfl, H'⟩
        exact .go (.chk (inR64 (by omega) (by omega)) (.ret ⟨⟨by simp only; omega, by simp only; omega, H'⟩, by simp only; omega⟩))
    · have h : lenL S ≤ i := by simpa using h
      have e : i = lenL S := by omega
      subst e
      exact .ret ⟨met, rfl, H⟩
  rintro q ⟨met, rfl, hml, H⟩
  refine .go ?_
  refine .cut (fun q => q = .go ()) ?_ (fun q hq => by subst hq; exact .go (.ret rfl))
  refine .loop (fun i => 0 ≤ i) (fun i => (lenL l - i).toNat) (by omega) ?_
  intro i i0
  refine .ite (fun h => ?_) (fun h => .ret rfl)
  have h : i < lenL l := by simpa using h
  obtain ⟨h1, h2⟩ := H i i0 h
  refine .chk ⟨i0, by omega⟩ (.chk (fun _ => ⟨i0, h⟩) (.chk (fun _ => ⟨i0, by omega⟩) (.chk (fun _ => ⟨i0, h⟩) (.ite (fun hh => ?_) (fun _ => .chk (inR64 (by omega) (by omega)) (.ret ⟨by omega, by simp only; omega⟩))))))
  exfalso
  cases hR : getL false r.fRemoved i with
  | true =>
    have hm : getL 0 met i = 0 := by
      rcases h1 with h1 | h1
      · exact h1
      · obtain ⟨i', j, y0, y1, y2, y3, _, y5⟩ := h2.1 h1
        have := (Q.s3 i' j y0 y1 y2 y3).2.2.1
        rw [y5, hR] at this; cases this
    rw [hR, hm] at hh; cases hh
  | false =>
    obtain ⟨i', j, y0, y1, y2, y3, y5⟩ := Q.s6 i i0 h hR
    have hm : getL 0 met i = 1 := h2.2 ⟨i', j, y0, y1, y2, y3, .inl y1, y5⟩
    rw [hR, hm] at hh; cases hh
end Go.Vx
