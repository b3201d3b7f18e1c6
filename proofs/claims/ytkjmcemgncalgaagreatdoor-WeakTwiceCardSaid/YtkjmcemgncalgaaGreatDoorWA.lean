/- The rules W, one by one: what each leaves. -/
import Derived.Test.YtkjmcemgncalgaaGreatDoorWLift
import Derived.Test.YtkjmcemgncalgaaGreatDoorVxHoare
set_option linter.all false
namespace Go.Vx
set_option maxRecDepth 100000
theorem at_eq (l : List Int) (s i : Int) : weak_text__at ⟨l, s⟩ i = some (if i < 0 ∨ lenL l ≤ i then 0 else getL 0 l i) := by
 unfold weak_text__at
 refine Yields.eq (.ite (fun h => ?_) (fun h => ?_))
 · refine .ret ?_
   rw [if_pos]
   by_cases h1 : i < 0
   · exact .inl h1
   · right; simpa [h1] using h
 · by_cases h1 : i < 0
   · simp [h1] at h
   · have h2 : i < lenL l := by simpa [h1] using h
     refine .chk ⟨by omega, h2⟩ (.ret ?_)
     rw [if_neg (by omega)]
theorem clone_eq (l : List Int) (hb : lenL l ≤ 100000) : slices_Clone___int_int_ l = some l := by
 have hn := lenL_nn l
 have e : (chk (growOk 8 (lenL l)) <| some l) = some l := chk_ok (grOk hn (by omega) (by omega))
 unfold slices_Clone___int_int_
 rw [nilO_eq]
 · show chk (growOk 8 (lenL l)) (some l) = some l
   exact e
 · intro h0
   have hl : l = [] := by
    cases l with
    | nil => rfl
    | cons a r => exfalso; have := lenL_nn r; simp at h0; omega
   subst hl
   show some ([] : List Int) = chk (growOk 8 (lenL ([] : List Int))) (some [])
   exact e.symm
theorem w1_yields {l : List Int} {s : Int} (hb : lenL l ≤ 100000) (Q : Int → Prop) (hs : Q s) (h14 : Q 14) (hl : ∀ i, 0 ≤ i → i < lenL l → getL 0 l i ≠ 9 → Q (getL 0 l i)) :
  Yields (w1 ⟨l, s⟩) (fun o => lenL o = lenL l ∧ ∀ i, 0 ≤ i → i < lenL l → Q (getL 0 o i) ∧ (getL 0 l i ≠ 9 → getL 0 o i = getL 0 l i)) := by
 have hn := lenL_nn l
 unfold w1
 refine .loop (fun x => Q x.1 ∧ 0 ≤ x.2.1 ∧ x.2.1 ≤ lenL l ∧ lenL x.2.2 = lenL l ∧ (∀ i, 0 ≤ i → i < x.2.1 → Q (getL 0 x.2.2 i) ∧ (getL 0 l i ≠ 9 → getL 0 x.2.2 i = getL 0 l i)) ∧ (∀ i, x.2.1 ≤ i → i < lenL l → getL 0 x.2.2 i = getL 0 l i)) (fun x => (lenL l - x.2.1).toNat)
  ⟨hs, by simp only; omega, hn, rfl, fun i h0 h1 => by simp only at h1; omega, fun i h0 h1 => rfl⟩ ?_
 rintro ⟨a, v, o⟩ ⟨ha, v0, vn, hlen, hg, hr⟩
 simp only at ha v0 vn hlen hg hr ⊢
 refine .ite (fun h => ?_) (fun h => ?_)
 · have h : v < lenL l := by simpa using h
   have hv := hr v (Int.le_refl _) h
   refine .cut (fun r => ∃ a' o', r = .go (a', o') ∧ Q a' ∧ lenL o' = lenL l ∧ (∀ i, 0 ≤ i → i < v + 1 → Q (getL 0 o' i) ∧ (getL 0 l i ≠ 9 → getL 0 o' i = getL 0 l i)) ∧ (∀ i, v + 1 ≤ i → i < lenL l → getL 0 o' i = getL 0 l i)) ?_ ?_
   · refine .chk ⟨v0, h⟩ ?_
     simp only [Int.zero_add]
     refine .cut (fun r => ∃ o', r = .go o' ∧ Q (getL 0 o' v) ∧ lenL o' = lenL l ∧ (getL 0 l v ≠ 9 → getL 0 o' v = getL 0 l v) ∧ (∀ i, 0 ≤ i → i < lenL l → i ≠ v → getL 0 o' i = getL 0 o i)) ?_ ?_
     · refine .ite (fun h9 => ?_) (fun h9 => ?_)
       · have h9 : getL 0 o v = 9 := by simpa using h9
         refine .chk ⟨v0, h⟩ (.ret ⟨_, rfl, ?_, by simp [hlen], fun hne => absurd (hv ▸ h9) hne, fun i i0 i1 hne => ?_⟩)
         · rw [getL_put v0 v0 (by omega), if_pos rfl]; exact ha
         · rw [getL_put v0 i0 (by omega), if_neg hne]
       · have h9 : getL 0 o v ≠ 9 := by simpa using h9
         rw [hv] at h9
         exact .ret ⟨o, rfl, by rw [hv]; exact hl v v0 h h9, hlen, fun _ => hv, fun i _ _ _ => rfl⟩
     rintro r ⟨o', rfl, q1, q2, q3, q4⟩
     have fin : ∀ c : Int, Q c → Yields (some (Fl.go (γ := Fl (Int × Int × List Int) (List Int)) (c, o'))) (fun r => ∃ a' o', r = .go (a', o') ∧ Q a' ∧ lenL o' = lenL l ∧ (∀ i, 0 ≤ i → i < v + 1 → Q (getL 0 o' i) ∧ (getL 0 l i ≠ 9 → getL 0 o' i = getL 0 l i)) ∧ (∀ i, v + 1 ≤ i → i < lenL l → getL 0 o' i = getL 0 l i)) := by
      intro c hc
      refine .ret ⟨c, o', rfl, hc, q2, fun i i0 i1 => ?_, fun i i0 i1 => ?_⟩
      · by_cases e : i = v
        · subst e; exact ⟨q1, q3⟩
        · rw [q4 i i0 (by omega) e]; exact hg i i0 (by omega)
      · rw [q4 i (by omega) i1 (by omega)]; exact hr i (by omega) i1
     refine .go (.chk ⟨v0, h⟩ ?_)
     refine .ite (fun h1 => .ite (fun _ => fin _ h14) (fun _ => fin _ q1)) (fun h1 => .ite (fun h1 => .ite (fun _ => fin _ h14) (fun _ => fin _ q1)) (fun h1 => .ite (fun h1 => .ite (fun _ => fin _ h14) (fun _ => fin _ q1)) (fun h1 => .ite (fun _ => fin _ h14) (fun _ => fin _ q1))))
   rintro r ⟨a', o', rfl, q1, q2, q3, q4⟩
   exact .go (.chk (inR64 (by omega) (by omega)) (.ret ⟨⟨q1, by simp only; omega, by simp only; omega, q2, q3, q4⟩, by simp only; omega⟩))
 · have h : lenL l ≤ v := by simpa using h
   exact .ret ⟨hlen, fun i i0 i1 => hg i i0 (by omega)⟩
theorem w2_yields {l : List Int} {s : Int} (hb : lenL l ≤ 100000) :
  Yields (w2 ⟨l, s⟩) (fun o => lenL o = lenL l ∧ (∀ i, 0 ≤ i → i < lenL l → getL 0 o i = getL 0 l i ∨ getL 0 l i = 4 ∧ getL 0 o i = 7) ∧ (s ≠ 3 → (∀ i, 0 ≤ i → i < lenL l → getL 0 l i ≠ 3) → ∀ i, 0 ≤ i → i < lenL l → getL 0 o i = getL 0 l i)) := by
 have hn := lenL_nn l
 unfold w2
 refine .loop (fun x => 0 ≤ x.2.1 ∧ x.2.1 ≤ lenL l ∧ lenL x.2.2 = lenL l ∧ (∀ i, 0 ≤ i → i < x.2.1 → getL 0 x.2.2 i = getL 0 l i ∨ getL 0 l i = 4 ∧ getL 0 x.2.2 i = 7) ∧ (∀ i, x.2.1 ≤ i → i < lenL l → getL 0 x.2.2 i = getL 0 l i) ∧ (s ≠ 3 → (∀ i, 0 ≤ i → i < lenL l → getL 0 l i ≠ 3) → x.1 ≠ 3 ∧ ∀ i, 0 ≤ i → i < lenL l → getL 0 x.2.2 i = getL 0 l i)) (fun x => (lenL l - x.2.1).toNat)
  ⟨by simp only; omega, hn, rfl, fun i h0 h1 => by simp only at h1; omega, fun i h0 h1 => rfl, fun hs _ => ⟨hs, fun _ _ _ => rfl⟩⟩ ?_
 rintro ⟨a, v, o⟩ ⟨v0, vn, hlen, hg, hr, hx⟩
 simp only at v0 vn hlen hg hr hx ⊢
 refine .ite (fun h => ?_) (fun h => ?_)
 · have h : v < lenL l := by simpa using h
   have hv := hr v (Int.le_refl _) h
   refine .cut (fun r => ∃ a' o', r = .go (a', o') ∧ lenL o' = lenL l ∧ (getL 0 o' v = getL 0 l v ∨ getL 0 l v = 4 ∧ getL 0 o' v = 7) ∧ (∀ i, 0 ≤ i → i < lenL l → i ≠ v → getL 0 o' i = getL 0 o i) ∧ (s ≠ 3 → (∀ i, 0 ≤ i → i < lenL l → getL 0 l i ≠ 3) → a' ≠ 3 ∧ o' = o)) ?_ ?_
   · refine .chk ⟨v0, h⟩ ?_
     simp only [Int.zero_add, hv]
     refine .cut (fun r => ∃ b, r = .go b) (.ite (fun _ => .ret ⟨_, rfl⟩) (fun _ => .ite (fun _ => .ret ⟨_, rfl⟩) (fun _ => .ret ⟨_, rfl⟩))) ?_
     rintro r ⟨b, rfl⟩
     refine .go (.ite (fun _ => ?_) (fun _ => .ite (fun h4 => .ite (fun h3 => ?_) (fun _ => ?_)) (fun _ => ?_)))
     · exact .ret ⟨_, o, rfl, hlen, .inl hv, fun _ _ _ _ => rfl, fun h1 h2 => ⟨h2 v v0 h, rfl⟩⟩
     · have h3 : a = 3 := by simpa using h3
       have h4 : getL 0 l v = 4 := by simpa using h4
       refine .chk ⟨v0, h⟩ (.ret ⟨a, _, rfl, by simp [hlen], .inr ⟨h4, by rw [getL_put v0 v0 (by omega), if_pos rfl]⟩, fun i i0 i1 hne => by rw [getL_put v0 i0 (by omega), if_neg hne], fun h1 h2 => absurd h3 (hx h1 h2).1⟩)
     · exact .ret ⟨_, o, rfl, hlen, .inl hv, fun _ _ _ _ => rfl, fun h1 h2 => ⟨(hx h1 h2).1, rfl⟩⟩
     · exact .ret ⟨_, o, rfl, hlen, .inl hv, fun _ _ _ _ => rfl, fun h1 h2 => ⟨(hx h1 h2).1, rfl⟩⟩
   rintro r ⟨a', o', rfl, q1, q2, q3, q4⟩
   refine .go (.chk (inR64 (by omega) (by omega)) (.ret ⟨⟨by simp only; omega, by simp only; omega, q1, fun i i0 i1 => ?_, fun i i0 i1 => ?_, fun h1 h2 => ?_⟩, by simp only; omega⟩))
   · simp only at i1 ⊢
     by_cases e : i = v
     · subst e; exact q2
     · rw [q3 i i0 (by omega) e]; exact hg i i0 (by omega)
   · simp only at i0 ⊢
     rw [q3 i (by omega) i1 (by omega)]; exact hr i (by omega) i1
   · obtain ⟨r1, rfl⟩ := q4 h1 h2
     exact ⟨r1, (hx h1 h2).2⟩
 · have h : lenL l ≤ v := by simpa using h
   exact .ret ⟨hlen, fun i i0 i1 => hg i i0 (by omega), fun h1 h2 => (hx h1 h2).2⟩
theorem w3_yields {l : List Int} {s : Int} (hb : lenL l ≤ 100000) :
  Yields (w3 ⟨l, s⟩) (fun o => lenL o = lenL l ∧ ∀ i, 0 ≤ i → i < lenL l → getL 0 o i = if getL 0 l i = 3 then 2 else getL 0 l i) := by
 have hn := lenL_nn l
 unfold w3
 refine .loop (fun x => 0 ≤ x.1 ∧ x.1 ≤ lenL l ∧ lenL x.2 = lenL l ∧ (∀ i, 0 ≤ i → i < x.1 → getL 0 x.2 i = if getL 0 l i = 3 then 2 else getL 0 l i) ∧ (∀ i, x.1 ≤ i → i < lenL l → getL 0 x.2 i = getL 0 l i)) (fun x => (lenL l - x.1).toNat)
  ⟨by simp only; omega, hn, rfl, fun i h0 h1 => by simp only at h1; omega, fun i h0 h1 => rfl⟩ ?_
 rintro ⟨v, o⟩ ⟨v0, vn, hlen, hg, hr⟩
 simp only at v0 vn hlen hg hr ⊢
 refine .ite (fun h => ?_) (fun h => ?_)
 · have h : v < lenL l := by simpa using h
   have hv := hr v (Int.le_refl _) h
   refine .chk ⟨v0, h⟩ ?_
   simp only [Int.zero_add, hv]
   refine .ite (fun h3 => .chk ⟨v0, h⟩ (.chk (inR64 (by omega) (by omega)) (.ret ⟨⟨by simp only; omega, by simp only; omega, by simp [hlen], fun i i0 i1 => ?_, fun i i0 i1 => ?_⟩, by simp only; omega⟩)))
    (fun h3 => .chk (inR64 (by omega) (by omega)) (.ret ⟨⟨by simp only; omega, by simp only; omega, hlen, fun i i0 i1 => ?_, fun i i0 i1 => hr i (by simp only at i0; omega) i1⟩, by simp only; omega⟩))
   · have h3 : getL 0 l v = 3 := by simpa using h3
     simp only at i1 ⊢
     rw [getL_put v0 i0 (by omega)]
     by_cases e : i = v
     · subst e; rw [if_pos rfl, if_pos h3]
     · rw [if_neg e]; exact hg i i0 (by omega)
   · simp only at i0 ⊢
     rw [getL_put v0 (by omega) (by omega), if_neg (by omega)]; exact hr i (by omega) i1
   · have h3 : getL 0 l v ≠ 3 := by simpa using h3
     simp only at i1 ⊢
     by_cases e : i = v
     · subst e; rw [if_neg h3]; exact hv
     · exact hg i i0 (by omega)
 · have h : lenL l ≤ v := by simpa using h
   exact .ret ⟨hlen, fun i i0 i1 => hg i i0 (by omega)⟩
theorem w4_yields {l : List Int} {s : Int} (hb : lenL l ≤ 100000) (Q : Int → Prop) (hq : ∀ i, 0 ≤ i → i < lenL l → Q (getL 0 l i)) :
  Yields (w4 ⟨l, s⟩) (fun o => lenL o = lenL l ∧ ∀ i, 0 ≤ i → i < lenL l → Q (getL 0 o i) ∧ (getL 0 o i = getL 0 l i ∨ (getL 0 l i = 5 ∨ getL 0 l i = 8) ∧ (getL 0 o i = 4 ∨ getL 0 o i = 7))) := by
 have hn := lenL_nn l
 unfold w4
 refine .loop (fun x => 0 ≤ x.1 ∧ x.1 ≤ lenL l ∧ lenL x.2 = lenL l ∧ (∀ i, 0 ≤ i → i < lenL l → Q (getL 0 x.2 i) ∧ (getL 0 x.2 i = getL 0 l i ∨ (getL 0 l i = 5 ∨ getL 0 l i = 8) ∧ (getL 0 x.2 i = 4 ∨ getL 0 x.2 i = 7))) ∧ (∀ i, x.1 ≤ i → i < lenL l → getL 0 x.2 i = getL 0 l i)) (fun x => (lenL l - x.1).toNat)
  ⟨by simp only; omega, hn, rfl, fun i h0 h1 => ⟨hq i h0 h1, .inl rfl⟩, fun i h0 h1 => rfl⟩ ?_
 rintro ⟨v, o⟩ ⟨v0, vn, hlen, hg, hr⟩
 simp only at v0 vn hlen hg hr ⊢
 refine .ite (fun h => ?_) (fun h => ?_)
 · have h : v < lenL l := by simpa using h
   have hv := hr v (Int.le_refl _) h
   have same : Yields (chk (inR .i64 (v + 1)) <| some (Fl.go (γ := List Int) ((v + 1), o))) (StepP (fun x => 0 ≤ x.1 ∧ x.1 ≤ lenL l ∧ lenL x.2 = lenL l ∧ (∀ i, 0 ≤ i → i < lenL l → Q (getL 0 x.2 i) ∧ (getL 0 x.2 i = getL 0 l i ∨ (getL 0 l i = 5 ∨ getL 0 l i = 8) ∧ (getL 0 x.2 i = 4 ∨ getL 0 x.2 i = 7))) ∧ (∀ i, x.1 ≤ i → i < lenL l → getL 0 x.2 i = getL 0 l i)) (fun x => (lenL l - x.1).toNat) (fun o => lenL o = lenL l ∧ ∀ i, 0 ≤ i → i < lenL l → Q (getL 0 o i) ∧ (getL 0 o i = getL 0 l i ∨ (getL 0 l i = 5 ∨ getL 0 l i = 8) ∧ (getL 0 o i = 4 ∨ getL 0 o i = 7))) (v, o)) :=
    .chk (inR64 (by omega) (by omega)) (.ret ⟨⟨by simp only; omega, by simp only; omega, hlen, hg, fun i i0 i1 => hr i (by simp only at i0; omega) i1⟩, by simp only; omega⟩)
   refine .chk ⟨v0, h⟩ (.chk (inR64 (by omega) (by omega)) (.call (at_eq _ _ _) (.chk (inR64 (by omega) (by omega)) (.call (at_eq _ _ _) ?_))))
   simp only [Int.zero_add, hv]
   generalize hA : (if v - 1 < 0 ∨ lenL o ≤ v - 1 then 0 else getL 0 o (v - 1)) = A
   refine .ite (fun _ => same) (fun _ => .ite (fun hc => ?_) (fun _ => same))
   have hc : (A = 4 ∧ (getL 0 l v = 5 ∨ getL 0 l v = 8)) ∨ (A = 7 ∧ getL 0 l v = 8) := by
    revert hc
    by_cases h1 : A = 4
    · by_cases h2 : getL 0 l v = 5
      · intro _; exact .inl ⟨h1, .inl h2⟩
      · by_cases h3 : getL 0 l v = 8
        · intro _; exact .inl ⟨h1, .inr h3⟩
        · subst h1; simp [h2, h3]
    · by_cases h3 : getL 0 l v = 8
      · by_cases h4 : A = 7
        · intro _; exact .inr ⟨h4, h3⟩
        · simp [h1, h4]
      · by_cases h4 : A = 7 <;> simp [h1, h3, h4]
   have hQ : Q A ∧ (A = 4 ∨ A = 7) := by
    have h47 : A = 4 ∨ A = 7 := hc.elim (fun a => .inl a.1) (fun a => .inr a.1)
    refine ⟨?_, h47⟩
    rw [← hA] at h47 ⊢
    split at h47
    · omega
    · rename_i hh
      rw [if_neg hh]
      exact (hg (v - 1) (by omega) (by omega)).1
   have h58 : getL 0 l v = 5 ∨ getL 0 l v = 8 := hc.elim (fun a => a.2) (fun a => .inr a.2)
   refine .chk ⟨v0, h⟩ (.chk (inR64 (by omega) (by omega)) (.ret ⟨⟨by simp only; omega, by simp only; omega, by simp [hlen], fun i i0 i1 => ?_, fun i i0 i1 => ?_⟩, by simp only; omega⟩))
   · simp only
     rw [getL_put v0 i0 (by omega)]
     by_cases e : i = v
     · subst e; rw [if_pos rfl]; exact ⟨hQ.1, .inr ⟨h58, hQ.2⟩⟩
     · rw [if_neg e]; exact hg i i0 i1
   · simp only at i0 ⊢
     rw [getL_put v0 (by omega) (by omega), if_neg (by omega)]; exact hr i (by omega) i1
 · have h : lenL l ≤ v := by simpa using h
   exact .ret ⟨hlen, hg⟩
end Go.Vx
