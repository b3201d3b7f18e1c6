/- Part of a proof; no conditions of its own. -/
import Derived.Test.YtofgfpibcoafgaaE9
set_option linter.all false
namespace Go.Vx
set_option maxRecDepth 100000

theorem isolate_eq2 (c : Int) : embed_isolate c = some (decide (20 ≤ c ∧ c ≤ 22)) := by
  unfold embed_isolate
  congr 1
  by_cases h1 : c = 20
  · subst h1; rfl
  · by_cases h2 : c = 21
    · subst h2; rfl
    · by_cases h3 : c = 22
      · subst h3; rfl
      · have e1 : (c == 20) = false := by simpa using h1
        have e2 : (c == 21) = false := by simpa using h2
        have e3 : (c == 22) = false := by simpa using h3
        rw [e1, e2, e3]
        simp only [Bool.false_eq_true, if_false]
        rw [decide_eq_false (by omega)]

theorem seqs_yields {l : List Int} {r : T_embed_Run} (base : Int) (hn2 : lenL l ≤ 100000) (F : RunP l r) : Yields (embed_Sequences l r base) (SeqsP r.fLevels r.fRemoved (lenL l)) := by
  have hn := lenL_nn l
  unfold embed_Sequences
  refine .call (b := true) (by unfold embed_fits; simp [F.n1, F.n2, F.n3]) ?_
  refine .ite (fun hh => by cases hh) (fun _ => ?_)
  refine .bind _ (match_exact hn2) fun mt hm => ?_
  obtain ⟨hml, hmg⟩ := hm
  obtain ⟨I, _⟩ := mst_inv (l := l) (lenL l).toNat (by omega)
  have ev : ((lenL l).toNat : Int) = lenL l := by omega
  rw [ev] at I
  have hlv := F.lv
  generalize (mst l (lenL l).toNat).1 = mo at I
  generalize (mst l (lenL l).toNat).2 = M at *
  refine .bind _ (runs_yields hn2 F) fun rs H => ?_
  have rn := lenL_nn rs
  have rl := H.ln
  simp only [Int.zero_add]
  refine .chk (inR64 (by omega) (by omega)) (.chk (mkOk (by omega) (by omega) (by omega)) ?_)
  refine .cut (fun q => ∃ hd, q = .go hd ∧ lenL hd = lenL l + 1 ∧ ∀ x, 0 ≤ x → x < lenL l + 1 → getL 0 hd x = -1) ?_ ?_
  · refine .loop (fun x => 0 ≤ x.1 ∧ x.1 ≤ lenL l + 1 ∧ lenL x.2 = lenL l + 1 ∧ ∀ i, 0 ≤ i → i < x.1 → getL 0 x.2 i = -1) (fun x => (lenL l + 1 - x.1).toNat) ⟨by simp only; omega, by simp only; omega, lenL_rep _ (by omega), fun i i0 i1 => by simp only at i1; omega⟩ ?_
    rintro ⟨v, hd⟩ ⟨v0, v1, hl, hg⟩
    simp only at v0 v1 hl hg ⊢
    refine .ite (fun h => ?_) (fun h => ?_)
    · have h : v < lenL l + 1 := by simpa using h
      refine .chk ⟨v0, h⟩ (.chk (inR64 (by omega) (by omega)) (.ret ⟨⟨by simp only; omega, by simp only; omega, by simp [hl], fun i i0 i1 => ?_⟩, by simp only; omega⟩))
      simp only at i1 ⊢
      rw [getL_put v0 i0 (by omega)]
      split
      · rfl
      · exact hg i i0 (by omega)
    · have h : lenL l + 1 ≤ v := by simpa using h
      exact .ret ⟨hd, rfl, hl, fun x x0 x1 => hg x x0 (by omega)⟩
  rintro q ⟨hd, rfl, hdl, hdg⟩
  refine .go ?_
  refine .cut (fun q => ∃ hd, q = .go hd ∧ lenL hd = lenL l + 1 ∧ ∀ x, 0 ≤ x → x < lenL l + 1 → getL 0 hd x = -1 ∨ (0 ≤ getL 0 hd x ∧ getL 0 hd x < lenL rs ∧ getL 0 (getL [] rs (getL 0 hd x)) 0 = x)) ?_ ?_
  · refine .loop (fun x => 0 ≤ x.1 ∧ x.1 ≤ lenL rs ∧ lenL x.2 = lenL l + 1 ∧ ∀ i, 0 ≤ i → i < lenL l + 1 → getL 0 x.2 i = -1 ∨ (0 ≤ getL 0 x.2 i ∧ getL 0 x.2 i < lenL rs ∧ getL 0 (getL [] rs (getL 0 x.2 i)) 0 = i)) (fun x => (lenL rs - x.1).toNat) ⟨by simp only; omega, by simp only; omega, hdl, fun i i0 i1 => .inl (hdg i i0 i1)⟩ ?_
    rintro ⟨v, hd⟩ ⟨v0, v1, hl, hg⟩
    simp only at v0 v1 hl hg ⊢
    refine .ite (fun h => ?_) (fun h => .ret ⟨hd, rfl, hl, hg⟩)
    have h : v < lenL rs := by simpa using h
    have hk := H.lk v v0 h
    have hr := H.rng v 0 v0 h (by omega) hk.1
    refine .chk ⟨v0, h⟩ (.chk ⟨by omega, hk.1⟩ (.chk ⟨by omega, by omega⟩ (.chk (inR64 (by omega) (by omega)) (.ret ⟨⟨by simp only; omega, by simp only; omega, by simp [hl], fun i i0 i1 => ?_⟩, by simp only; omega⟩))))
    simp only
    rw [getL_put (by omega) i0 (by omega)]
    split
    · rename_i e
      exact .inr ⟨v0, h, e.symm⟩
    · exact hg i i0 i1
  clear hd hdl hdg
  rintro q ⟨hd, rfl, hdl, hdg⟩
  refine .go ?_
  refine .chk (mkOk (by omega) (by omega) (by omega)) (.chk (mkOk (by omega) (by omega) (by omega)) ?_)
  -- the last letter of a run
  have hE : ∀ k, 0 ≤ k → k < lenL rs → 0 ≤ getL 0 (getL [] rs k) (lenL (getL [] rs k) - 1) ∧ getL 0 (getL [] rs k) (lenL (getL [] rs k) - 1) < lenL l := fun k k0 k1 => by
    have hk := H.lk k k0 k1
    obtain ⟨x, y, _⟩ := H.rng k (lenL (getL [] rs k) - 1) k0 k1 (by omega) (by omega)
    exact ⟨x, y⟩
  generalize hEd : (fun k => getL 0 (getL [] rs k) (lenL (getL [] rs k) - 1)) = E
  have hEe : ∀ k, getL 0 (getL [] rs k) (lenL (getL [] rs k) - 1) = E k := fun k => by rw [← hEd]
  simp only [hEe] at hE ⊢
  refine .cut (fun q => ∃ bh jo, q = .go (bh, jo) ∧ BP r.fLevels rs bh jo) ?_ ?_
  · refine .loop (fun x => 0 ≤ x.1 ∧ x.1 ≤ lenL rs ∧ lenL x.2.1 = lenL rs ∧ lenL x.2.2 = lenL rs ∧ (∀ k, 0 ≤ k → k < x.1 → getL 0 x.2.1 k = -1 ∨ (0 ≤ getL 0 x.2.1 k ∧ getL 0 x.2.1 k < lenL rs ∧ Op l (E k) ∧ M (E k) = getL 0 (getL [] rs (getL 0 x.2.1 k)) 0 ∧ getL false x.2.2 (getL 0 x.2.1 k) = true))
        ∧ (∀ t, 0 ≤ t → t < lenL rs → getL false x.2.2 t = true → ∃ k, 0 ≤ k ∧ k < x.1 ∧ getL 0 x.2.1 k = t)) (fun x => (lenL rs - x.1).toNat)
      ⟨by simp only; omega, by simp only; omega, lenL_rep _ rn, lenL_rep _ rn, fun k k0 k1 => by simp only at k1; omega, fun t t0 t1 ht => by simp only at ht; rw [getL_rep t0 t1] at ht; cases ht⟩ ?_
    rintro ⟨v, bh, jo⟩ ⟨v0, v1, hl, hl2, hk, ht⟩
    simp only at v0 v1 hl hl2 hk ht ⊢
    refine .ite (fun h => ?_) (fun h => ?_)
    · have h : v < lenL rs := by simpa using h
      have hkv := H.lk v v0 h
      obtain ⟨e0, e1⟩ := hE v v0 h
      refine .chk ⟨v0, h⟩ (.chk ⟨v0, h⟩ (.chk (inR64 (by omega) (by omega)) (.chk ⟨by omega, by omega⟩ (.chk ⟨e0, e1⟩ ?_))))
      have none : Yields (chk (inR .i64 (v + 1)) <| some (Fl.go (γ := Fl (List Int × List Bool) (List (List Int))) ((v + 1), (setL bh v (-1)), jo))) (StepP (fun x => 0 ≤ x.1 ∧ x.1 ≤ lenL rs ∧ lenL x.2.1 = lenL rs ∧ lenL x.2.2 = lenL rs ∧ (∀ k, 0 ≤ k → k < x.1 → getL 0 x.2.1 k = -1 ∨ (0 ≤ getL 0 x.2.1 k ∧ getL 0 x.2.1 k < lenL rs ∧ Op l (E k) ∧ M (E k) = getL 0 (getL [] rs (getL 0 x.2.1 k)) 0 ∧ getL false x.2.2 (getL 0 x.2.1 k) = true))
        ∧ (∀ t, 0 ≤ t → t < lenL rs → getL false x.2.2 t = true → ∃ k, 0 ≤ k ∧ k < x.1 ∧ getL 0 x.2.1 k = t)) (fun x => (lenL rs - x.1).toNat) (fun q => ∃ bh jo, q = .go (bh, jo) ∧ BP r.fLevels rs bh jo) (v, bh, jo)) := by
        refine .chk (inR64 (by omega) (by omega)) (.ret ⟨⟨by simp only; omega, by simp only; omega, by simp [hl], hl2, fun k k0 k1 => ?_, fun t t0 t1 hj => ?_⟩, by simp only; omega⟩)
        · simp only at k1 ⊢
          rw [getL_put v0 k0 (by omega)]
          by_cases e : k = v
          · rw [if_pos e]; exact .inl rfl
          · rw [if_neg e]; exact hk k k0 (by omega)
        · obtain ⟨k, k0, k1, ek⟩ := ht t t0 t1 hj
          refine ⟨k, k0, by simp only; omega, ?_⟩
          simp only
          rw [getL_put v0 k0 (by omega), if_neg (by omega)]; exact ek
      refine .call (isolate_eq2 _) (.ite (fun _ => none) (fun hiso => ?_))
      have hO : Op l (E v) := by simpa [Op] using hiso
      have hM := hmg (E v) e0 e1
      have hMr : E v < M (E v) ∧ M (E v) ≤ lenL l := by
        rcases (I.loc (E v) e0 e1).1 hO with h | ⟨h1, h2, _, _⟩ <;> omega
      rw [hM]
      refine .chk ⟨e0, by omega⟩ (.chk ⟨by omega, by omega⟩ (.ite (fun hto => ?_) (fun _ => none)))
      have hto : 0 ≤ getL 0 hd (M (E v)) := by simpa using hto
      rcases hdg (M (E v)) (by omega) (by omega) with h1 | ⟨g0, g1, g2⟩
      · omega
      refine .chk ⟨v0, h⟩ (.chk ⟨g0, g1⟩ (.chk (inR64 (by omega) (by omega)) (.ret ⟨⟨by simp only; omega, by simp only; omega, by simp [hl], by simp [hl2], fun k k0 k1 => ?_, fun t t0 t1 hj => ?_⟩, by simp only; omega⟩)))
      · simp only at k1 ⊢
        rw [getL_put v0 k0 (by simp; omega), getL_put v0 k0 (by omega)]
        by_cases e : k = v
        · subst e
          rw [if_pos rfl]
          exact .inr ⟨g0, g1, hO, g2.symm, by rw [getL_put g0 g0 (by omega), if_pos rfl]⟩
        · rw [if_neg e, if_neg e]
          rcases hk k k0 (by omega) with h | ⟨a1, a2, a3, a4, a5⟩
          · exact .inl h
          · refine .inr ⟨a1, a2, a3, a4, ?_⟩
            rw [getL_put g0 a1 (by omega)]
            split
            · rfl
            · exact a5
      · simp only at hj ⊢
        rw [getL_put g0 t0 (by omega)] at hj
        by_cases e : t = getL 0 hd (M (E v))
        · refine ⟨v, v0, by omega, ?_⟩
          rw [getL_put v0 v0 (by simp; omega), if_pos rfl, e]
        · rw [if_neg e] at hj
          obtain ⟨k, k0, k1, ek⟩ := ht t t0 t1 hj
          refine ⟨k, k0, by omega, ?_⟩
          rw [getL_put v0 k0 (by simp; omega), getL_put v0 k0 (by omega), if_neg (by omega), if_neg (by omega)]; exact ek
    · have h : lenL rs ≤ v := by simpa using h
      have e : v = lenL rs := by omega
      subst e
      refine .ret ⟨bh, jo, rfl, fun k k0 k1 => ?_, fun t t0 t1 hj => ?_, fun k k' k0 k1 k0' k1' hb he => ?_⟩
      · rcases hk k k0 k1 with h | ⟨a1, a2, a3, a4, a5⟩
        · exact .inl h
        · obtain ⟨e0, e1⟩ := hE k k0 k1
          have hkk := H.lk k k0 k1
          have hkb := H.lk _ a1 a2
          have hrb := H.rng _ 0 a1 a2 (by omega) hkb.1
          have hMr : E k < M (E k) := by
            rcases (I.loc (E k) e0 e1).1 a3 with h | ⟨h1, h2, _, _⟩ <;> omega
          have hEk := hEe k
          refine .inr ⟨?_, a2, a5, ?_⟩
          · by_cases c1 : k < getL 0 bh k
            · exact c1
            · exfalso
              by_cases c2 : getL 0 bh k = k
              · rw [c2] at a4
                by_cases c3 : lenL (getL [] rs k) = 1
                · rw [c3] at hEk
                  have : getL 0 (getL [] rs k) 0 = E k := hEk
                  omega
                · have := H.inc k 0 (lenL (getL [] rs k) - 1) k0 k1 (by omega) (by omega) (by omega)
                  omega
              · have := H.ord (getL 0 bh k) k 0 (lenL (getL [] rs k) - 1) a1 (by omega) k1 (by omega) hkb.1 (by omega) (by omega)
                omega
          · rw [← a4, hlv (E k) e0 e1 a3 (by omega), ← hEk]
            exact H.lev k _ k0 k1 (by omega) (by omega)
      · exact ht t t0 t1 hj
      · rcases hk k k0 k1 with h | ⟨a1, a2, a3, a4, a5⟩
        · omega
        rcases hk k' k0' k1' with h | ⟨a1', a2', a3', a4', a5'⟩
        · omega
        obtain ⟨e0, e1⟩ := hE k k0 k1
        obtain ⟨e0', e1'⟩ := hE k' k0' k1'
        have hkb := H.lk _ a1 a2
        have hrb := H.rng _ 0 a1 a2 (by omega) hkb.1
        have hkk := H.lk k k0 k1
        have hkk' := H.lk k' k0' k1'
        have eM : M (E k) = M (E k') := by rw [a4, a4', he]
        have i1 : M (M (E k)) = E k := by
          rcases (I.loc (E k) e0 e1).1 a3 with h | ⟨_, _, _, h4⟩
          · omega
          · exact h4
        have i2 : M (M (E k')) = E k' := by
          rcases (I.loc (E k') e0' e1').1 a3' with h | ⟨_, _, _, h4⟩
          · omega
          · exact h4
        have eE : E k = E k' := by rw [← i1, ← i2, eM]
        have hEk := hEe k
        have hEk' := hEe k'
        by_cases c1 : k < k'
        · have := H.ord k k' (lenL (getL [] rs k) - 1) (lenL (getL [] rs k') - 1) k0 c1 k1' (by omega) (by omega) (by omega) (by omega)
          omega
        · by_cases c2 : k' < k
          · have := H.ord k' k (lenL (getL [] rs k') - 1) (lenL (getL [] rs k) - 1) k0' c2 k1 (by omega) (by omega) (by omega) (by omega)
            omega
          · omega
  rintro q ⟨bh, jo, rfl, B⟩
  refine .go ?_
  refine .cut (fun q => ∃ out, q = .go out ∧ SeqsP r.fLevels r.fRemoved (lenL l) out) ?_ (fun q hq => by obtain ⟨out, rfl, h⟩ := hq; exact .go (.ret h))
  refine .loop (fun x => 0 ≤ x.1 ∧ x.1 ≤ lenL rs ∧ ∃ A, OutI r.fLevels rs bh jo x.1 x.2 A) (fun x => (lenL rs - x.1).toNat) ⟨by simp only; omega, by simp only; omega, [], ?_⟩ ?_
  · exact ⟨rfl, by simp, fun i i0 i1 => by simp at i1; omega, fun i i' i0 i1 i2 => by simp at i2; omega, fun a a0 a1 => by simp only at a1; omega⟩
  rintro ⟨v, out⟩ ⟨v0, v1, A, O⟩
  simp only at v0 v1 O ⊢
  refine .ite (fun h => ?_) (fun h => ?_)
  · have h : v < lenL rs := by simpa using h
    have on := lenL_nn out
    have olv := O.lv
    have oln := O.ln
    refine .cut (fun q => ∃ out' A', q = .go out' ∧ OutI r.fLevels rs bh jo (v + 1) out' A') ?_ ?_
    · refine .chk ⟨v0, h⟩ (.ite (fun hj => ?_) (fun hj => ?_))
      · refine .ret ⟨out, A, rfl, O.ln, by omega, fun i i0 i1 => ?_, O.inc, fun a a0 a1 ha => ?_⟩
        · obtain ⟨x, y, z, w⟩ := O.rt i i0 i1
          exact ⟨x, by omega, z, w⟩
        · by_cases e : a = v
          · subst e; rw [hj] at ha; cases ha
          · exact O.cov a a0 (by omega) ha
      · have hc := chain_yields (γ := Fl (List (List Int)) (Fl (Int × List (List Int)) (Fl (List (List Int)) (List (List Int))))) hn hn2 H B v0 h
        simp only [Int.zero_add] at hc
        refine .cut _ hc ?_
        rintro q ⟨S, rfl, hS⟩
        refine .go (.chk (grOk (by omega) (by omega) (by omega)) (.ret ⟨out ++ [S], A ++ [v], rfl, by simp; omega, by simp; omega, fun i i0 i1 => ?_, fun i i' i0 i1 i2 => ?_, fun a a0 a1 ha => ?_⟩))
        · have i1 : i < lenL out + 1 := by simpa using i1
          rw [getL_app i0, getL_app i0, oln]
          by_cases e : i < lenL out
          · rw [if_pos e, if_pos e]
            obtain ⟨x, y, z, w⟩ := O.rt i i0 e
            exact ⟨x, by omega, z, w⟩
          · rw [if_neg e, if_neg e]
            have e2 : i - lenL out = 0 := by omega
            rw [e2]
            exact ⟨v0, by simp only [getL_zero]; omega, hj, hS⟩
        · have i2 : i' < lenL out + 1 := by simpa using i2
          rw [getL_app i0, getL_app (by omega), oln, if_pos (by omega)]
          by_cases e : i' < lenL out
          · rw [if_pos e]; exact O.inc i i' i0 i1 e
          · rw [if_neg e]
            have e2 : i' - lenL out = 0 := by omega
            rw [e2]
            exact (O.rt i i0 (by omega)).2.1
        · by_cases e : a = v
          · subst e
            exact ⟨lenL out, on, by simp; omega, by rw [← oln]; exact getL_snoc _ _ _⟩
          · obtain ⟨i, i0, i1, ei⟩ := O.cov a a0 (by omega) ha
            exact ⟨i, i0, by simp; omega, by rw [getL_app i0, if_pos (by omega)]; exact ei⟩
    · rintro q ⟨out', A', rfl, O'⟩
      exact .go (.chk (inR64 (by omega) (by omega)) (.ret ⟨⟨by simp only; omega, by simp only; omega, A', O'⟩, by simp only; omega⟩))
  · have h : lenL rs ≤ v := by simpa using h
    have e : v = lenL rs := by omega
    subst e
    exact .ret ⟨out, rfl, O.fin hn H B⟩
end Go.Vx
