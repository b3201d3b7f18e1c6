/- The rules W5 to W7, and all of them one behind the other. -/
import Derived.Test.YtkjmcemgncalgaaGreatDoorWA
set_option linter.all false
namespace Go.Vx
set_option maxRecDepth 100000
theorem w5_yields {l : List Int} {s : Int} (hb : lenL l ≤ 100000) :
  Yields (w5 ⟨l, s⟩) (fun o => lenL o = lenL l ∧ ∀ i, 0 ≤ i → i < lenL l → getL 0 o i = getL 0 l i ∨ getL 0 l i = 6 ∧ getL 0 o i = 4) := by
 have hn := lenL_nn l
 unfold w5
 refine .loop (fun x => 0 ≤ x.1 ∧ x.1 ≤ lenL l ∧ lenL x.2 = lenL l ∧ (∀ i, 0 ≤ i → i < lenL l → getL 0 x.2 i = getL 0 l i ∨ getL 0 l i = 6 ∧ getL 0 x.2 i = 4) ∧ (∀ i, x.1 ≤ i → i < lenL l → getL 0 x.2 i = getL 0 l i)) (fun x => (lenL l - x.1).toNat)
  ⟨by simp only; omega, hn, rfl, fun i h0 h1 => .inl rfl, fun i h0 h1 => rfl⟩ ?_
 rintro ⟨v, o⟩ ⟨v0, vn, hlen, hg, hr⟩
 simp only at v0 vn hlen hg hr ⊢
 refine .ite (fun h => ?_) (fun h => ?_)
 · have h : v < lenL l := by simpa using h
   have hv := hr v (Int.le_refl _) h
   refine .chk ⟨v0, h⟩ ?_
   simp only [Int.zero_add, hv]
   refine .ite (fun h6 => .chk (inR64 (by omega) (by omega)) (.ret ⟨⟨by simp only; omega, by simp only; omega, hlen, hg, fun i i0 i1 => hr i (by simp only at i0; omega) i1⟩, by simp only; omega⟩)) (fun h6 => ?_)
   have h6 : getL 0 l v = 6 := by simpa using h6
   refine .cut (fun r => ∃ e, r = .go e ∧ v < e ∧ e ≤ lenL l ∧ ∀ i, v ≤ i → i < e → getL 0 l i = 6) ?_ ?_
   · refine .loop (fun e => v ≤ e ∧ e ≤ lenL l ∧ ∀ i, v ≤ i → i < e → getL 0 l i = 6) (fun e => (lenL l - e).toNat) ⟨Int.le_refl _, vn, fun i i0 i1 => by omega⟩ ?_
     rintro e ⟨e0, e1, eg⟩
     refine .call (at_eq _ _ _) (.ite (fun h2 => ?_) (fun h2 => ?_))
     · have hh : ¬ (e < 0 ∨ lenL o ≤ e) := fun hh => by rw [if_pos hh] at h2; cases h2
       rw [if_neg hh, hr e e0 (by omega)] at h2
       have h2 : getL 0 l e = 6 := by simpa using h2
       refine .chk (inR64 (by omega) (by omega)) (.ret ⟨⟨by omega, by omega, fun i i0 i1 => ?_⟩, by show (_ - _ : Int).toNat < (_ - _ : Int).toNat; omega⟩)
       by_cases q : i = e
       · subst q; exact h2
       · exact eg i i0 (by omega)
     · refine .ret ⟨e, rfl, ?_, e1, eg⟩
       by_cases q : e = v
       · exfalso
         subst q
         rw [if_neg (by omega), hv, h6] at h2
         cases h2
       · omega
   rintro r ⟨e, rfl, ve, en, eg⟩
   refine .go ?_
   refine .cut (fun r => ∃ o', r = .go o' ∧ lenL o' = lenL l ∧ (∀ i, 0 ≤ i → i < lenL l → getL 0 o' i = getL 0 o i ∨ getL 0 l i = 6 ∧ getL 0 o' i = 4) ∧ (∀ i, e ≤ i → i < lenL l → getL 0 o' i = getL 0 l i)) ?_ ?_
   · refine .chk (inR64 (by omega) (by omega)) (.call (at_eq _ _ _) ?_)
     refine .bind (fun _ => True) ?_ (fun b _ => ?_)
     · generalize (!(if v - 1 < 0 ∨ lenL o ≤ v - 1 then 0 else getL 0 o (v - 1)) == 4) = bb
       cases bb
       · exact .of (v := 0) rfl trivial
       · exact .of (at_eq o s e) trivial
     refine .ite (fun _ => ?_) (fun _ => .ret ⟨o, rfl, hlen, fun i i0 i1 => .inl rfl, fun i i0 i1 => hr i (by omega) i1⟩)
     refine .loop (fun x => v ≤ x.1 ∧ x.1 ≤ e ∧ lenL x.2 = lenL l ∧ (∀ i, 0 ≤ i → i < lenL l → getL 0 x.2 i = getL 0 o i ∨ getL 0 l i = 6 ∧ getL 0 x.2 i = 4) ∧ (∀ i, e ≤ i → i < lenL l → getL 0 x.2 i = getL 0 l i)) (fun x => (e - x.1).toNat)
      ⟨Int.le_refl _, by simp only; omega, hlen, fun i h0 h1 => .inl rfl, fun i h0 h1 => hr i (by omega) h1⟩ ?_
     rintro ⟨j, q⟩ ⟨j0, j1, ql, qg, qr⟩
     simp only at j0 j1 ql qg qr ⊢
     refine .ite (fun hj => ?_) (fun _ => .ret ⟨q, rfl, ql, qg, qr⟩)
     have hj : j < e := by simpa using hj
     refine .chk ⟨by omega, by omega⟩ (.chk (inR64 (by omega) (by omega)) (.ret ⟨⟨by simp only; omega, by simp only; omega, by simp [ql], fun i i0 i1 => ?_, fun i i0 i1 => ?_⟩, by simp only; omega⟩))
     · simp only
       rw [getL_put (by omega) i0 (by omega)]
       by_cases w : i = j
       · subst w; rw [if_pos rfl]; exact .inr ⟨eg i j0 hj, rfl⟩
       · rw [if_neg w]; exact qg i i0 i1
     · simp only
       rw [getL_put (by omega) (by omega) (by omega), if_neg (by omega)]; exact qr i i0 i1
   rintro r ⟨o', rfl, ol, og, or'⟩
   refine .go (.ret ⟨⟨by simp only; omega, en, ol, fun i i0 i1 => ?_, or'⟩, by simp only; omega⟩)
   simp only
   rcases og i i0 i1 with q | q
   · rw [q]; exact hg i i0 i1
   · exact .inr q
 · have h : lenL l ≤ v := by simpa using h
   exact .ret ⟨hlen, fun i i0 i1 => hg i i0 (by omega)⟩
theorem w6_yields {l : List Int} {s : Int} (hb : lenL l ≤ 100000) :
  Yields (w6 ⟨l, s⟩) (fun o => lenL o = lenL l ∧ ∀ i, 0 ≤ i → i < lenL l → getL 0 o i = if getL 0 l i = 5 ∨ getL 0 l i = 6 ∨ getL 0 l i = 8 then 14 else getL 0 l i) := by
 have hn := lenL_nn l
 unfold w6
 refine .loop (fun x => 0 ≤ x.1 ∧ x.1 ≤ lenL l ∧ lenL x.2 = lenL l ∧ (∀ i, 0 ≤ i → i < x.1 → getL 0 x.2 i = if getL 0 l i = 5 ∨ getL 0 l i = 6 ∨ getL 0 l i = 8 then 14 else getL 0 l i) ∧ (∀ i, x.1 ≤ i → i < lenL l → getL 0 x.2 i = getL 0 l i)) (fun x => (lenL l - x.1).toNat)
  ⟨by simp only; omega, hn, rfl, fun i h0 h1 => by simp only at h1; omega, fun i h0 h1 => rfl⟩ ?_
 rintro ⟨v, o⟩ ⟨v0, vn, hlen, hg, hr⟩
 simp only at v0 vn hlen hg hr ⊢
 refine .ite (fun h => ?_) (fun h => ?_)
 · have h : v < lenL l := by simpa using h
   have hv := hr v (Int.le_refl _) h
   refine .chk ⟨v0, h⟩ ?_
   simp only [Int.zero_add, hv]
   have fin : ∀ o' : List Int, lenL o' = lenL l → (∀ i, 0 ≤ i → i < lenL l → i ≠ v → getL 0 o' i = getL 0 o i) → (getL 0 o' v = if getL 0 l v = 5 ∨ getL 0 l v = 6 ∨ getL 0 l v = 8 then 14 else getL 0 l v) →
     Yields (chk (inR .i64 (v + 1)) <| some (Fl.go (γ := List Int) ((v + 1), o'))) (StepP (fun x => 0 ≤ x.1 ∧ x.1 ≤ lenL l ∧ lenL x.2 = lenL l ∧ (∀ i, 0 ≤ i → i < x.1 → getL 0 x.2 i = if getL 0 l i = 5 ∨ getL 0 l i = 6 ∨ getL 0 l i = 8 then 14 else getL 0 l i) ∧ (∀ i, x.1 ≤ i → i < lenL l → getL 0 x.2 i = getL 0 l i)) (fun x => (lenL l - x.1).toNat) (fun o => lenL o = lenL l ∧ ∀ i, 0 ≤ i → i < lenL l → getL 0 o i = if getL 0 l i = 5 ∨ getL 0 l i = 6 ∨ getL 0 l i = 8 then 14 else getL 0 l i) (v, o)) := by
    intro o' h1 h2 h3
    refine .chk (inR64 (by omega) (by omega)) (.ret ⟨⟨by simp only; omega, by simp only; omega, h1, fun i i0 i1 => ?_, fun i i0 i1 => ?_⟩, by simp only; omega⟩)
    · simp only at i1 ⊢
      by_cases e : i = v
      · subst e; exact h3
      · rw [h2 i i0 (by omega) e]; exact hg i i0 (by omega)
    · simp only at i0 ⊢
      rw [h2 i (by omega) i1 (by omega)]; exact hr i (by omega) i1
   have put : (getL 0 l v = 5 ∨ getL 0 l v = 6 ∨ getL 0 l v = 8) → Yields (chk (0 ≤ v ∧ v < lenL l) <| chk (inR .i64 (v + 1)) <| some (Fl.go (γ := List Int) ((v + 1), setL o v 14))) (StepP (fun x => 0 ≤ x.1 ∧ x.1 ≤ lenL l ∧ lenL x.2 = lenL l ∧ (∀ i, 0 ≤ i → i < x.1 → getL 0 x.2 i = if getL 0 l i = 5 ∨ getL 0 l i = 6 ∨ getL 0 l i = 8 then 14 else getL 0 l i) ∧ (∀ i, x.1 ≤ i → i < lenL l → getL 0 x.2 i = getL 0 l i)) (fun x => (lenL l - x.1).toNat) (fun o => lenL o = lenL l ∧ ∀ i, 0 ≤ i → i < lenL l → getL 0 o i = if getL 0 l i = 5 ∨ getL 0 l i = 6 ∨ getL 0 l i = 8 then 14 else getL 0 l i) (v, o)) := by
    intro hh
    refine .chk ⟨v0, h⟩ (fin _ (by simp [hlen]) (fun i i0 i1 hne => by rw [getL_put v0 i0 (by omega), if_neg hne]) (by rw [getL_put v0 v0 (by omega), if_pos rfl, if_pos hh]))
   have keep : getL 0 l v ≠ 5 → getL 0 l v ≠ 6 → getL 0 l v ≠ 8 → _ := fun a b c => fin o hlen (fun _ _ _ _ => rfl) (by rw [hv, if_neg (by omega)])
   refine .ite (fun h5 => .ite (fun _ => put (.inl (by simpa using h5))) (fun h => by simp [h5] at h)) (fun h5 => .ite (fun h6 => .ite (fun _ => put (.inr (.inl (by simpa using h6)))) (fun h => by simp [h6] at h)) (fun h6 => .ite (fun h8 => put (.inr (.inr (by simpa using h8)))) (fun h8 => keep (by simpa using h5) (by simpa using h6) (by simpa using h8))))
 · have h : lenL l ≤ v := by simpa using h
   exact .ret ⟨hlen, fun i i0 i1 => hg i i0 (by omega)⟩
def lstW (l : List Int) (s : Int) : Nat → Int
 | 0 => s
 | n + 1 => if getL 0 l n = 1 ∨ getL 0 l n = 2 then getL 0 l n else lstW l s n
theorem w7_yields {l : List Int} {s : Int} (hb : lenL l ≤ 100000) :
  Yields (w7 ⟨l, s⟩) (fun o => lenL o = lenL l ∧ ∀ i, 0 ≤ i → i < lenL l → getL 0 o i = if getL 0 l i = 4 ∧ lstW l s i.toNat = 1 then 1 else getL 0 l i) := by
 have hn := lenL_nn l
 unfold w7
 refine .loop (fun x => x.1 = lstW l s x.2.1.toNat ∧ 0 ≤ x.2.1 ∧ x.2.1 ≤ lenL l ∧ lenL x.2.2 = lenL l ∧ (∀ i, 0 ≤ i → i < x.2.1 → getL 0 x.2.2 i = if getL 0 l i = 4 ∧ lstW l s i.toNat = 1 then 1 else getL 0 l i) ∧ (∀ i, x.2.1 ≤ i → i < lenL l → getL 0 x.2.2 i = getL 0 l i)) (fun x => (lenL l - x.2.1).toNat)
  ⟨rfl, by simp only; omega, hn, rfl, fun i h0 h1 => by simp only at h1; omega, fun i h0 h1 => rfl⟩ ?_
 rintro ⟨a, v, o⟩ ⟨ha, v0, vn, hlen, hg, hr⟩
 simp only at ha v0 vn hlen hg hr ⊢
 refine .ite (fun h => ?_) (fun h => ?_)
 · have h : v < lenL l := by simpa using h
   have hv := hr v (Int.le_refl _) h
   refine .chk ⟨v0, h⟩ ?_
   simp only [Int.zero_add, hv]
   have ev : (v.toNat : Int) = v := by omega
   have hla : lstW l s (v + 1).toNat = if getL 0 l v = 1 ∨ getL 0 l v = 2 then getL 0 l v else a := by
    rw [show (v + 1).toNat = v.toNat + 1 by omega]
    show (if getL 0 l (v.toNat : Int) = 1 ∨ getL 0 l (v.toNat : Int) = 2 then getL 0 l (v.toNat : Int) else lstW l s v.toNat) = _
    rw [ev, ← ha]
   have fin : ∀ (a' : Int) (o' : List Int), a' = lstW l s (v + 1).toNat → lenL o' = lenL l → (∀ i, 0 ≤ i → i < lenL l → i ≠ v → getL 0 o' i = getL 0 o i) → (getL 0 o' v = if getL 0 l v = 4 ∧ a = 1 then 1 else getL 0 l v) →
     Yields (chk (inR .i64 (v + 1)) <| some (Fl.go (γ := List Int) (a', (v + 1), o'))) (StepP (fun x => x.1 = lstW l s x.2.1.toNat ∧ 0 ≤ x.2.1 ∧ x.2.1 ≤ lenL l ∧ lenL x.2.2 = lenL l ∧ (∀ i, 0 ≤ i → i < x.2.1 → getL 0 x.2.2 i = if getL 0 l i = 4 ∧ lstW l s i.toNat = 1 then 1 else getL 0 l i) ∧ (∀ i, x.2.1 ≤ i → i < lenL l → getL 0 x.2.2 i = getL 0 l i)) (fun x => (lenL l - x.2.1).toNat) (fun o => lenL o = lenL l ∧ ∀ i, 0 ≤ i → i < lenL l → getL 0 o i = if getL 0 l i = 4 ∧ lstW l s i.toNat = 1 then 1 else getL 0 l i) (a, v, o)) := by
    intro a' o' h0 h1 h2 h3
    refine .chk (inR64 (by omega) (by omega)) (.ret ⟨⟨h0, by simp only; omega, by simp only; omega, h1, fun i i0 i1 => ?_, fun i i0 i1 => ?_⟩, by simp only; omega⟩)
    · simp only at i1 ⊢
      by_cases e : i = v
      · subst e; rw [h3, ha]
      · rw [h2 i i0 (by omega) e]; exact hg i i0 (by omega)
    · simp only at i0 ⊢
      rw [h2 i (by omega) i1 (by omega)]; exact hr i (by omega) i1
   have strong : (getL 0 l v = 1 ∨ getL 0 l v = 2) → _ := fun q => fin (getL 0 l v) o (by rw [hla, if_pos q]) hlen (fun _ _ _ _ => rfl) (by rw [hv, if_neg (by omega)])
   have toL : getL 0 l v = 4 → a = 1 → Yields (chk (0 ≤ v ∧ v < lenL l) <| chk (inR .i64 (v + 1)) <| some (Fl.go (γ := List Int) (a, (v + 1), setL o v 1))) _ := fun q1 q2 =>
    .chk ⟨v0, h⟩ (fin a _ (by rw [hla, if_neg (by omega)]) (by simp [hlen]) (fun i i0 i1 hne => by rw [getL_put v0 i0 (by omega), if_neg hne]) (by rw [getL_put v0 v0 (by omega), if_pos rfl, if_pos ⟨q1, q2⟩]))
   have keep : ¬ (getL 0 l v = 1 ∨ getL 0 l v = 2) → ¬ (getL 0 l v = 4 ∧ a = 1) → _ := fun q1 q2 => fin a o (by rw [hla, if_neg q1]) hlen (fun _ _ _ _ => rfl) (by rw [hv, if_neg q2])
   refine .ite (fun h2 => .ite (fun _ => strong (.inr (by simpa using h2))) (fun h => by simp [h2] at h)) (fun h2 => .ite (fun h1 => strong (.inl (by simpa using h1))) (fun h1 => ?_))
   have h1 : getL 0 l v ≠ 1 := by simpa using h1
   have h2 : getL 0 l v ≠ 2 := by simpa using h2
   refine .ite (fun h4 => ?_) (fun h4 => ?_)
   · have h4 : getL 0 l v = 4 := by simpa using h4
     refine .ite (fun hA => toL h4 (by simpa using hA)) (fun hA => ?_)
     have hA : a ≠ 1 := by simpa using hA
     exact keep (by omega) (by omega)
   · have h4 : getL 0 l v ≠ 4 := by simpa using h4
     exact keep (by omega) (by omega)
 · have h : lenL l ≤ v := by simpa using h
   exact .ret ⟨hlen, fun i i0 i1 => hg i i0 (by omega)⟩
theorem weak_chain {l a b c d e f g : List Int} {s : Int} (hb : lenL l ≤ 100000) (h1 : w1 ⟨l, s⟩ = some a) (e1 : lenL a = lenL l) (h2 : w2 ⟨a, s⟩ = some b) (e2 : lenL b = lenL a) (h3 : w3 ⟨b, s⟩ = some c) (e3 : lenL c = lenL b)
  (h4 : w4 ⟨c, s⟩ = some d) (e4 : lenL d = lenL c) (h5 : w5 ⟨d, s⟩ = some e) (e5 : lenL e = lenL d) (h6 : w6 ⟨e, s⟩ = some f) (e6 : lenL f = lenL e) (h7 : w7 ⟨f, s⟩ = some g) (e7 : lenL g = lenL f) : weak_Weak l s = some g := by
 refine Yields.eq ?_
 unfold weak_Weak
 refine .call (clone_eq l hb) ?_
 have R : ∀ k : Int, 0 ≤ k → k ≤ 100 → inR .i64 (k + 1) := fun k h0 h1 => inR64 (by omega) (by omega)
 refine .cut (fun r => r = .go g) ?_ (fun r hr => by subst hr; exact .go (.ret rfl))
 refine .cut (fun r => r = .go a) (.cut (fun r => r = .go a) (.cut (fun r => r = .go ()) (.chk (by omega) (.ret rfl)) (fun r hr => by subst hr; exact .go (.call h1 (.chk e1 (.ret rfl))))) (fun r hr => by subst hr; exact .go (.chk (R 0 (by omega) (by omega)) (.ret rfl)))) (fun r hr => ?_)
 subst hr; refine .go ?_
 refine .cut (fun r => r = .go b) (.cut (fun r => r = .go b) (.cut (fun r => r = .go ()) (.chk (by omega) (.ret rfl)) (fun r hr => by subst hr; exact .go (.call h2 (.chk e2 (.ret rfl))))) (fun r hr => by subst hr; exact .go (.chk (R 1 (by omega) (by omega)) (.ret rfl)))) (fun r hr => ?_)
 subst hr; refine .go ?_
 refine .cut (fun r => r = .go c) (.cut (fun r => r = .go c) (.cut (fun r => r = .go ()) (.chk (by omega) (.ret rfl)) (fun r hr => by subst hr; exact .go (.call h3 (.chk e3 (.ret rfl))))) (fun r hr => by subst hr; exact .go (.chk (R 2 (by omega) (by omega)) (.ret rfl)))) (fun r hr => ?_)
 subst hr; refine .go ?_
 refine .cut (fun r => r = .go d) (.cut (fun r => r = .go d) (.cut (fun r => r = .go ()) (.chk (by omega) (.ret rfl)) (fun r hr => by subst hr; exact .go (.call h4 (.chk e4 (.ret rfl))))) (fun r hr => by subst hr; exact .go (.chk (R 3 (by omega) (by omega)) (.ret rfl)))) (fun r hr => ?_)
 subst hr; refine .go ?_
 refine .cut (fun r => r = .go e) (.cut (fun r => r = .go e) (.cut (fun r => r = .go ()) (.chk (by omega) (.ret rfl)) (fun r hr => by subst hr; exact .go (.call h5 (.chk e5 (.ret rfl))))) (fun r hr => by subst hr; exact .go (.chk (R 4 (by omega) (by omega)) (.ret rfl)))) (fun r hr => ?_)
 subst hr; refine .go ?_
 refine .cut (fun r => r = .go f) (.cut (fun r => r = .go f) (.cut (fun r => r = .go ()) (.chk (by omega) (.ret rfl)) (fun r hr => by subst hr; exact .go (.call h6 (.chk e6 (.ret rfl))))) (fun r hr => by subst hr; exact .go (.chk (R 5 (by omega) (by omega)) (.ret rfl)))) (fun r hr => ?_)
 subst hr; refine .go ?_
 refine .cut (fun r => r = .go g) (.cut (fun r => r = .go g) (.cut (fun r => r = .go ()) (.chk (by omega) (.ret rfl)) (fun r hr => by subst hr; exact .go (.call h7 (.chk e7 (.ret rfl))))) (fun r hr => by subst hr; exact .go (.chk (R 6 (by omega) (by omega)) (.ret rfl)))) (fun r hr => ?_)
 subst hr; exact .go (.ret rfl)
end Go.Vx
