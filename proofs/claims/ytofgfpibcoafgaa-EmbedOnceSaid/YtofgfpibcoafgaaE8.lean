/- Part of a proof; no conditions of its own. -/
import Derived.Test.YtofgfpibcoafgaaE7
set_option linter.all false
namespace Go.Vx
set_option maxRecDepth 100000

/-- The runs of letters that are not removed, up to v. -/
structure RunsS (L : List Int) (R : List Bool) (v : Int) (out : List (List Int)) : Prop where
  ln : lenL out ≤ v
  lk : ∀ k, 0 ≤ k → k < lenL out → 0 < lenL (getL [] out k) ∧ lenL (getL [] out k) ≤ v
  rng : ∀ k j, 0 ≤ k → k < lenL out → 0 ≤ j → j < lenL (getL [] out k) → 0 ≤ getL 0 (getL [] out k) j ∧ getL 0 (getL [] out k) j < v ∧ getL false R (getL 0 (getL [] out k) j) = false
  inc : ∀ k j j', 0 ≤ k → k < lenL out → 0 ≤ j → j < j' → j' < lenL (getL [] out k) → getL 0 (getL [] out k) j < getL 0 (getL [] out k) j'
  ord : ∀ k k' j j', 0 ≤ k → k < k' → k' < lenL out → 0 ≤ j → j < lenL (getL [] out k) → 0 ≤ j' → j' < lenL (getL [] out k') → getL 0 (getL [] out k) j < getL 0 (getL [] out k') j'
  lev : ∀ k j, 0 ≤ k → k < lenL out → 0 ≤ j → j < lenL (getL [] out k) → getL 0 L (getL 0 (getL [] out k) j) = getL 0 L (getL 0 (getL [] out k) 0)
  cov : ∀ i, 0 ≤ i → i < v → getL false R i = false → ∃ k j, 0 ≤ k ∧ k < lenL out ∧ 0 ≤ j ∧ j < lenL (getL [] out k) ∧ getL 0 (getL [] out k) j = i

section
variable {L : List Int} {R : List Bool} {v : Int} {out : List (List Int)}
theorem RunsS.skip (H : RunsS L R v out) (h : getL false R v = true) : RunsS L R (v + 1) out := by
  refine ⟨by have := H.ln; omega, fun k k0 k1 => ?_, fun k j k0 k1 j0 j1 => ?_, H.inc, H.ord, H.lev, fun i i0 i1 hi => ?_⟩
  · have := H.lk k k0 k1; omega
  · obtain ⟨a, b, c⟩ := H.rng k j k0 k1 j0 j1
    exact ⟨a, by omega, c⟩
  · by_cases e : i = v
    · subst e; rw [h] at hi; cases hi
    · exact H.cov i i0 (by omega) hi
theorem RunsS.new (H : RunsS L R v out) (v0 : 0 ≤ v) (h : getL false R v = false) : RunsS L R (v + 1) (out ++ [[v]]) := by
  have hl : lenL (out ++ [[v]]) = lenL out + 1 := by simp
  have hn := lenL_nn out
  have hold : ∀ k, 0 ≤ k → k < lenL out → getL [] (out ++ [[v]]) k = getL [] out k := fun k k0 k1 => by rw [getL_app k0, if_pos k1]
  have hnew : getL [] (out ++ [[v]]) (lenL out) = [v] := getL_snoc _ _ _
  have hcase : ∀ k, 0 ≤ k → k < lenL out + 1 → (k < lenL out ∧ getL [] (out ++ [[v]]) k = getL [] out k) ∨ (k = lenL out ∧ getL [] (out ++ [[v]]) k = [v]) := fun k k0 k1 => by
    by_cases e : k < lenL out
    · exact .inl ⟨e, hold k k0 e⟩
    · have : k = lenL out := by omega
      subst this
      exact .inr ⟨rfl, hnew⟩
  have h1 : lenL [v] = 1 := by simp
  have hz : ∀ j, 0 ≤ j → j < 1 → getL 0 [v] j = v := fun j j0 j1 => getL_one (by omega)
  rw [← hl] at hcase
  refine ⟨by have := H.ln; omega, fun k k0 k1 => ?_, fun k j k0 k1 j0 j1 => ?_, fun k j j' k0 k1 j0 j1 j2 => ?_, fun k k' j j' k0 k1 k2 j0 j1 j0' j1' => ?_, fun k j k0 k1 j0 j1 => ?_, fun i i0 i1 hi => ?_⟩
  · rcases hcase k k0 k1 with ⟨a, e⟩ | ⟨a, e⟩ <;> rw [e]
    · have := H.lk k k0 a; omega
    · omega
  · rcases hcase k k0 k1 with ⟨a, e⟩ | ⟨a, e⟩ <;> rw [e] at j1 ⊢
    · obtain ⟨x, y, z⟩ := H.rng k j k0 a j0 j1
      exact ⟨x, by omega, z⟩
    · rw [hz j j0 (by omega)]; exact ⟨v0, by omega, h⟩
  · rcases hcase k k0 k1 with ⟨a, e⟩ | ⟨a, e⟩ <;> rw [e] at j2 ⊢
    · exact H.inc k j j' k0 a j0 j1 j2
    · omega
  · rcases hcase k k0 (by omega) with ⟨a, e⟩ | ⟨a, e⟩
    · rw [e] at j1 ⊢
      rcases hcase k' (by omega) k2 with ⟨a', e'⟩ | ⟨a', e'⟩ <;> rw [e'] at j1' ⊢
      · exact H.ord k k' j j' k0 k1 a' j0 j1 j0' j1'
      · rw [hz j' j0' (by omega)]; exact (H.rng k j k0 a j0 j1).2.1
    · omega
  · rcases hcase k k0 k1 with ⟨a, e⟩ | ⟨a, e⟩ <;> rw [e] at j1 ⊢
    · exact H.lev k j k0 a j0 j1
    · rw [hz j j0 (by omega)]; rfl
  · by_cases e : i = v
    · subst e
      exact ⟨lenL out, 0, hn, by omega, by omega, by rw [hnew]; omega, by rw [hnew]; rfl⟩
    · obtain ⟨k, j, a, b, c, d, f⟩ := H.cov i i0 (by omega) hi
      exact ⟨k, j, a, by omega, c, by rw [hold k a b]; exact d, by rw [hold k a b]; exact f⟩
theorem RunsS.ext (H : RunsS L R v out) (v0 : 0 ≤ v) (h : getL false R v = false) (hp : 0 < lenL out) (he : getL 0 L (getL 0 (getL [] out (lenL out - 1)) 0) = getL 0 L v) :
    RunsS L R (v + 1) (setL out (lenL out - 1) (getL [] out (lenL out - 1) ++ [v])) := by
  generalize hw : getL [] out (lenL out - 1) = W at *
  have hk := H.lk (lenL out - 1) (by omega) (by omega)
  have hr := fun j => H.rng (lenL out - 1) j (by omega) (by omega)
  have hi' := fun j j' => H.inc (lenL out - 1) j j' (by omega) (by omega)
  have ho := fun k j j' k0 k1 => H.ord k (lenL out - 1) j j' k0 k1 (by omega)
  have hv := fun j => H.lev (lenL out - 1) j (by omega) (by omega)
  rw [hw] at hk
  simp only [hw] at hr hi' ho hv
  generalize ho' : setL out (lenL out - 1) (W ++ [v]) = out'
  have hl : lenL out' = lenL out := by rw [← ho']; simp
  have hlW : lenL (W ++ [v]) = lenL W + 1 := by simp
  have hcase : ∀ k, 0 ≤ k → k < lenL out' → (k < lenL out - 1 ∧ getL [] out' k = getL [] out k) ∨ (k = lenL out - 1 ∧ getL [] out' k = W ++ [v]) := fun k k0 k1 => by
    rw [← ho', getL_put (by omega) k0 (by omega)]
    by_cases e : k = lenL out - 1
    · rw [if_pos e]; exact .inr ⟨e, rfl⟩
    · rw [if_neg e]; exact .inl ⟨by omega, rfl⟩
  have hg : ∀ j, 0 ≤ j → j < lenL W + 1 → (j < lenL W ∧ getL 0 (W ++ [v]) j = getL 0 W j) ∨ (j = lenL W ∧ getL 0 (W ++ [v]) j = v) := fun j j0 j1 => by
    by_cases e : j < lenL W
    · exact .inl ⟨e, by rw [getL_app j0, if_pos e]⟩
    · have : j = lenL W := by omega
      subst this
      exact .inr ⟨rfl, getL_snoc _ _ _⟩
  rw [← hlW] at hg
  refine ⟨by have := H.ln; omega, fun k k0 k1 => ?_, fun k j k0 k1 j0 j1 => ?_, fun k j j' k0 k1 j0 j1 j2 => ?_, fun k k' j j' k0 k1 k2 j0 j1 j0' j1' => ?_, fun k j k0 k1 j0 j1 => ?_, fun i i0 i1 hi => ?_⟩
  · rcases hcase k k0 k1 with ⟨a, e⟩ | ⟨a, e⟩ <;> rw [e]
    · have := H.lk k k0 (by omega); omega
    · omega
  · rcases hcase k k0 k1 with ⟨a, e⟩ | ⟨a, e⟩ <;> rw [e] at j1 ⊢
    · obtain ⟨x, y, z⟩ := H.rng k j k0 (by omega) j0 j1
      exact ⟨x, by omega, z⟩
    · rcases hg j j0 j1 with ⟨a2, e2⟩ | ⟨a2, e2⟩ <;> rw [e2]
      · obtain ⟨x, y, z⟩ := hr j j0 a2
        exact ⟨x, by omega, z⟩
      · exact ⟨v0, by omega, h⟩
  · rcases hcase k k0 k1 with ⟨a, e⟩ | ⟨a, e⟩ <;> rw [e] at j2 ⊢
    · exact H.inc k j j' k0 (by omega) j0 j1 j2
    · rcases hg j j0 (by omega) with ⟨a2, e2⟩ | ⟨a2, e2⟩
      · rw [e2]
        rcases hg j' (by omega) j2 with ⟨a3, e3⟩ | ⟨a3, e3⟩ <;> rw [e3]
        · exact hi' j j' j0 j1 a3
        · exact (hr j j0 a2).2.1
      · omega
  · rcases hcase k k0 (by omega) with ⟨a, e⟩ | ⟨a, e⟩
    · rw [e] at j1 ⊢
      rcases hcase k' (by omega) k2 with ⟨a', e'⟩ | ⟨a', e'⟩ <;> rw [e'] at j1' ⊢
      · exact H.ord k k' j j' k0 k1 (by omega) j0 j1 j0' j1'
      · rcases hg j' j0' j1' with ⟨a3, e3⟩ | ⟨a3, e3⟩ <;> rw [e3]
        · exact ho k j j' k0 a j0 j1 j0' a3
        · exact (H.rng k j k0 (by omega) j0 j1).2.1
    · omega
  · rcases hcase k k0 k1 with ⟨a, e⟩ | ⟨a, e⟩ <;> rw [e] at j1 ⊢
    · exact H.lev k j k0 (by omega) j0 j1
    · have e0 : getL 0 (W ++ [v]) 0 = getL 0 W 0 := by rw [getL_app (by omega), if_pos hk.1]
      rw [e0]
      rcases hg j j0 j1 with ⟨a2, e2⟩ | ⟨a2, e2⟩ <;> rw [e2]
      · exact hv j j0 a2
      · exact he.symm
  · by_cases e : i = v
    · subst e
      rcases hcase (lenL out - 1) (by omega) (by omega) with ⟨a, e⟩ | ⟨a, e⟩
      · omega
      · exact ⟨lenL out - 1, lenL W, by omega, by omega, by omega, by rw [e]; omega, by rw [e]; exact getL_snoc _ _ _⟩
    · obtain ⟨k, j, a, b, c, d, f⟩ := H.cov i i0 (by omega) hi
      rcases hcase k a (by omega) with ⟨a2, e2⟩ | ⟨a2, e2⟩
      · exact ⟨k, j, a, by omega, c, by rw [e2]; exact d, by rw [e2]; exact f⟩
      · rw [a2, hw] at d f
        exact ⟨k, j, a, by omega, c, by rw [e2]; omega, by rw [e2, getL_app c, if_pos d]; exact f⟩
end

theorem runs_yields {l : List Int} {r : T_embed_Run} (hn2 : lenL l ≤ 100000) (F : RunP l r) : Yields (embed_runs r) (RunsS r.fLevels r.fRemoved (lenL l)) := by
  have hn := lenL_nn l
  have n1 := F.n1
  have n3 := F.n3
  unfold embed_runs
  refine .cut (fun q => ∃ out, q = .go out ∧ RunsS r.fLevels r.fRemoved (lenL l) out) ?_ (fun q hq => by obtain ⟨out, rfl, h⟩ := hq; exact .go (.ret h))
  refine .loop (fun x => 0 ≤ x.1 ∧ x.1 ≤ lenL l ∧ RunsS r.fLevels r.fRemoved x.1 x.2) (fun x => (lenL l - x.1).toNat) ⟨by simp only; omega, hn, ?_⟩ ?_
  · exact ⟨by simp, fun k k0 k1 => by simp at k1; omega, fun k j k0 k1 => by simp at k1; omega, fun k j j' k0 k1 => by simp at k1; omega, fun k k' j j' k0 k1 k2 => by simp at k2; omega, fun k j k0 k1 => by simp at k1; omega, fun i i0 i1 => by simp only at i1; omega⟩
  rintro ⟨v, out⟩ ⟨v0, vn, H⟩
  simp only at v0 vn H ⊢
  refine .ite (fun h => ?_) (fun h => ?_)
  · have h : v < lenL r.fRemoved := by simpa using h
    have h' : v < lenL l := by omega
    have ln := H.ln
    have on := lenL_nn out
    refine .chk ⟨v0, h⟩ (.ite (fun hg => ?_) (fun hg => ?_))
    · exact .chk (inR64 (by omega) (by omega)) (.ret ⟨⟨by simp only; omega, by simp only; omega, H.skip hg⟩, by simp only; omega⟩)
    · have hpos : (!(lenL out == 0)) = true → 0 < lenL out := fun hh => by simp at hh; omega
      have hk := fun h0 : 0 < lenL out => H.lk (lenL out - 1) (by omega) (by omega)
      have hr := fun h0 : 0 < lenL out => H.rng (lenL out - 1) 0 (by omega) (by omega) (by omega) (hk h0).1
      simp only [Int.zero_add]
      refine .chk (fun hh => inR64 (by omega) (by omega)) (.chk (fun hh => ⟨by have := hpos hh; omega, by omega⟩) (.chk (fun hh => ⟨by omega, (hk (hpos hh)).1⟩) (.chk (fun hh => by have := hr (hpos hh); omega) (.chk (fun hh => by omega) ?_))))
      refine .ite (fun hh => ?_) (fun hh => ?_)
      · exact .chk (grOk (by omega) (by omega) (by omega)) (.chk (inR64 (by omega) (by omega)) (.ret ⟨⟨by simp only; omega, by simp only; omega, H.new v0 hg⟩, by simp only; omega⟩))
      · have h0 : 0 < lenL out := by
          by_cases e : lenL out = 0
          · simp [e] at hh
          · omega
        have hq := hk h0
        refine .chk (inR64 (by omega) (by omega)) (.chk (inR64 (by omega) (by omega)) (.chk (by omega) (.chk (grOk (by omega) (by omega) (by omega)) (.chk (by omega) (.chk (inR64 (by omega) (by omega)) (.ret ⟨⟨by simp only; omega, by simp only; omega, H.ext v0 hg h0 ?_⟩, by simp only; omega⟩))))))
        have e : ¬ lenL out = 0 := by omega
        simp [e] at hh
        exact hh
  · have h : lenL r.fRemoved ≤ v := by simpa using h
    have e : v = lenL l := by omega
    subst e
    exact .ret ⟨out, rfl, H⟩
end Go.Vx
