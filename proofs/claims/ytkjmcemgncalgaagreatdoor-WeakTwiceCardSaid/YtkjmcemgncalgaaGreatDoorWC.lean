/- What weak classes are made of; made again they stay. -/
import Derived.Test.YtkjmcemgncalgaaGreatDoorWB
set_option linter.all false
namespace Go.Vx
set_option maxRecDepth 100000
theorem ext0 {l o : List Int} (hl : lenL o = lenL l) (h : ∀ i, 0 ≤ i → i < lenL l → getL 0 o i = getL 0 l i) : o = l := extL 0 hl fun i i0 i1 => h i i0 (by omega)
structure WeakP (l : List Int) (s : Int) (g : List Int) : Prop where
 len : lenL g = lenL l
 ok : ∀ i, 0 ≤ i → i < lenL l → getL 0 g i ≠ 3 ∧ getL 0 g i ≠ 5 ∧ getL 0 g i ≠ 6 ∧ getL 0 g i ≠ 8 ∧ getL 0 g i ≠ 9
 L : ∀ i, 0 ≤ i → i < lenL l → getL 0 l i = 1 → getL 0 g i = 1
 R : ∀ i, 0 ≤ i → i < lenL l → getL 0 l i = 2 ∨ getL 0 l i = 3 → getL 0 g i = 2
 N : ∀ i, 0 ≤ i → i < lenL l → getL 0 l i = 4 → getL 0 g i = 4 ∨ getL 0 g i = 7 ∨ getL 0 g i = 1
 A : ∀ i, 0 ≤ i → i < lenL l → getL 0 l i = 7 → getL 0 g i = 7
 plain : s = 1 → (∀ i, 0 ≤ i → i < lenL l → getL 0 l i ≠ 2 ∧ getL 0 l i ≠ 3 ∧ getL 0 l i ≠ 7) → ∀ i, 0 ≤ i → i < lenL l → getL 0 g i ≠ 2 ∧ getL 0 g i ≠ 4 ∧ getL 0 g i ≠ 7
 again : weak_Weak g s = some g
theorem lstW_no2 {l : List Int} (h : ∀ i, 0 ≤ i → i < lenL l → getL 0 l i ≠ 2) : ∀ n : Nat, (n : Int) ≤ lenL l → lstW l 1 n = 1
 | 0, _ => rfl
 | n + 1, hn => by
  have := h n (by omega) (by omega)
  unfold lstW
  split
  · omega
  · exact lstW_no2 h n (by omega)
theorem lstW_same {f g : List Int} {s : Int} (h : ∀ i, 0 ≤ i → i < lenL f → getL 0 g i = if getL 0 f i = 4 ∧ lstW f s i.toNat = 1 then 1 else getL 0 f i) : ∀ n : Nat, (n : Int) ≤ lenL f → lstW g s n = lstW f s n
 | 0, _ => rfl
 | n + 1, hn => by
  have e := h n (by omega) (by omega)
  have ih := lstW_same h n (by omega)
  rw [Int.toNat_natCast] at e
  unfold lstW
  rw [e, ih]
  by_cases h4 : getL 0 f n = 4
  · rw [h4]
    by_cases h1 : lstW f s n = 1
    · simp [h1]
    · simp [h1]
  · simp [h4]
theorem weak_yields {l : List Int} {s : Int} (hb : lenL l ≤ 100000) (hs : s = 1 ∨ s = 2) : Yields (weak_Weak l s) (WeakP l s) := by
 obtain ⟨a, ha, al, ag⟩ := w1_yields (l := l) (s := s) hb (fun x => x ≠ 9 ∧ (s = 1 → (∀ i, 0 ≤ i → i < lenL l → getL 0 l i ≠ 2 ∧ getL 0 l i ≠ 3 ∧ getL 0 l i ≠ 7) → x ≠ 2 ∧ x ≠ 3 ∧ x ≠ 7))
  ⟨by omega, fun _ _ => by omega⟩ ⟨by omega, fun _ _ => by omega⟩ (fun i i0 i1 h => ⟨h, fun _ hp => hp i i0 i1⟩)
 obtain ⟨b, hb', bl, bg, bs⟩ := w2_yields (l := a) (s := s) (by omega)
 obtain ⟨c, hc, cl, cg⟩ := w3_yields (l := b) (s := s) (by omega)
 have c3 : ∀ i, 0 ≤ i → i < lenL c → getL 0 c i ≠ 3 := fun i i0 i1 => by rw [cg i i0 (by omega)]; split <;> omega
 have b9 : ∀ i, 0 ≤ i → i < lenL l → getL 0 b i ≠ 9 := fun i i0 i1 => by
  have h1 := (ag i i0 i1).1.1
  rcases bg i i0 (by omega) with h | h <;> omega
 have c9 : ∀ i, 0 ≤ i → i < lenL c → getL 0 c i ≠ 9 := fun i i0 i1 => by
  have := b9 i i0 (by omega)
  rw [cg i i0 (by omega)]; split <;> omega
 have cp : s = 1 → (∀ i, 0 ≤ i → i < lenL l → getL 0 l i ≠ 2 ∧ getL 0 l i ≠ 3 ∧ getL 0 l i ≠ 7) → ∀ i, 0 ≤ i → i < lenL l → getL 0 c i ≠ 2 ∧ getL 0 c i ≠ 3 ∧ getL 0 c i ≠ 7 := fun h1 hp i i0 i1 => by
  have ha1 := fun i i0 i1 => (ag i i0 i1).1.2 h1 hp
  have := bs (by omega) (fun i i0 i1 => (ha1 i i0 (by omega)).2.1) i i0 (by omega)
  have h2 := ha1 i i0 i1
  rw [cg i i0 (by omega), this, if_neg h2.2.1]; exact h2
 obtain ⟨d, hd, dl, dg⟩ := w4_yields (l := c) (s := s) (by omega) (fun x => x ≠ 3 ∧ x ≠ 9 ∧ (s = 1 → (∀ i, 0 ≤ i → i < lenL l → getL 0 l i ≠ 2 ∧ getL 0 l i ≠ 3 ∧ getL 0 l i ≠ 7) → x ≠ 2 ∧ x ≠ 7))
  (fun i i0 i1 => ⟨c3 i i0 i1, c9 i i0 i1, fun h1 hp => ⟨(cp h1 hp i i0 (by omega)).1, (cp h1 hp i i0 (by omega)).2.2⟩⟩)
 obtain ⟨e, he, el, eg⟩ := w5_yields (l := d) (s := s) (by omega)
 obtain ⟨f, hf, fl, fg⟩ := w6_yields (l := e) (s := s) (by omega)
 obtain ⟨g, hg, gl, gg⟩ := w7_yields (l := f) (s := s) (by omega)
 have fok : ∀ i, 0 ≤ i → i < lenL l → getL 0 f i ≠ 3 ∧ getL 0 f i ≠ 5 ∧ getL 0 f i ≠ 6 ∧ getL 0 f i ≠ 8 ∧ getL 0 f i ≠ 9 := fun i i0 i1 => by
  have h4 := (dg i i0 (by omega)).1
  have h5 := eg i i0 (by omega)
  rw [fg i i0 (by omega)]
  split <;> omega
 have gok : ∀ i, 0 ≤ i → i < lenL l → getL 0 g i ≠ 3 ∧ getL 0 g i ≠ 5 ∧ getL 0 g i ≠ 6 ∧ getL 0 g i ≠ 8 ∧ getL 0 g i ≠ 9 := fun i i0 i1 => by
  have := fok i i0 i1
  rw [gg i i0 (by omega)]
  split <;> omega
 have keep : ∀ i, 0 ≤ i → i < lenL l → getL 0 l i = 1 ∨ getL 0 l i = 2 ∨ getL 0 l i = 3 ∨ getL 0 l i = 4 ∨ getL 0 l i = 7 → (getL 0 l i = 1 → getL 0 g i = 1) ∧ (getL 0 l i = 2 ∨ getL 0 l i = 3 → getL 0 g i = 2) ∧ (getL 0 l i = 4 → getL 0 g i = 4 ∨ getL 0 g i = 7 ∨ getL 0 g i = 1) ∧ (getL 0 l i = 7 → getL 0 g i = 7) := fun i i0 i1 hh => by
  have h1 := (ag i i0 i1).2 (by omega)
  have h2 := bg i i0 (by omega)
  have h3 := cg i i0 (by omega)
  have h4 := (dg i i0 (by omega)).2
  have h5 := eg i i0 (by omega)
  have h6 := fg i i0 (by omega)
  have h7 := gg i i0 (by omega)
  rw [h1] at h2
  split at h3
  · split at h6
    · split at h7 <;> omega
    · split at h7 <;> omega
  · split at h6
    · split at h7 <;> omega
    · split at h7 <;> omega
 have hw : weak_Weak l s = some g := weak_chain hb ha al hb' bl hc cl hd dl he el hf fl hg gl
 have hn : lenL g = lenL l := by omega
 refine .of hw ⟨hn, gok, fun i i0 i1 h => (keep i i0 i1 (by omega)).1 h, fun i i0 i1 h => (keep i i0 i1 (by omega)).2.1 h, fun i i0 i1 h => (keep i i0 i1 (by omega)).2.2.1 h, fun i i0 i1 h => (keep i i0 i1 (by omega)).2.2.2 h, fun h1 hp i i0 i1 => ?_, ?_⟩
 · have f2 : ∀ i, 0 ≤ i → i < lenL l → getL 0 f i ≠ 2 ∧ getL 0 f i ≠ 7 := fun i i0 i1 => by
    have h4 := (dg i i0 (by omega)).1.2.2 h1 hp
    have h5 := eg i i0 (by omega)
    rw [fg i i0 (by omega)]
    split <;> omega
   have := f2 i i0 i1
   have hl := lstW_no2 (l := f) (fun i i0 i1 => (f2 i i0 (by omega)).1) i.toNat (by omega)
   subst h1
   rw [gg i i0 (by omega), hl]
   split <;> omega
 ·
  obtain ⟨a, ha, al, ag⟩ := w1_yields (l := g) (s := s) (by omega) (fun _ => True) trivial trivial (fun _ _ _ _ => trivial)
  obtain rfl : a = g := ext0 al fun i i0 i1 => (ag i i0 i1).2 (gok i i0 (by omega)).2.2.2.2
  obtain ⟨b, hb2, bl2, -, bs⟩ := w2_yields (l := a) (s := s) (by omega)
  obtain rfl : b = a := ext0 bl2 (bs (by omega) fun i i0 i1 => (gok i i0 (by omega)).1)
  obtain ⟨c2, hc2, cl2, cg2⟩ := w3_yields (l := b) (s := s) (by omega)
  obtain rfl : c2 = b := ext0 cl2 fun i i0 i1 => by rw [cg2 i i0 i1, if_neg (gok i i0 (by omega)).1]
  obtain ⟨d2, hd2, dl2, dg2⟩ := w4_yields (l := c2) (s := s) (by omega) (fun _ => True) (fun _ _ _ => trivial)
  obtain rfl : d2 = c2 := ext0 dl2 fun i i0 i1 => (dg2 i i0 i1).2.elim id fun h => by have := gok i i0 (by omega); omega
  obtain ⟨e2, he2, el2, eg2⟩ := w5_yields (l := d2) (s := s) (by omega)
  obtain rfl : e2 = d2 := ext0 el2 fun i i0 i1 => (eg2 i i0 i1).elim id fun h => by have := gok i i0 (by omega); omega
  obtain ⟨f2, hf2, fl2, fg2⟩ := w6_yields (l := e2) (s := s) (by omega)
  obtain rfl : f2 = e2 := ext0 fl2 fun i i0 i1 => by have := gok i i0 (by omega); rw [fg2 i i0 i1, if_neg (by omega)]
  obtain ⟨g2, hg2, gl2, gg2⟩ := w7_yields (l := f2) (s := s) (by omega)
  obtain rfl : g2 = f2 := ext0 gl2 fun i i0 i1 => by
   rw [gg2 i i0 i1, lstW_same gg i.toNat (by omega), gg i i0 (by omega)]
   by_cases hh : getL 0 f i = 4 ∧ lstW f s i.toNat = 1
   · rw [if_pos hh]; simp
   · rw [if_neg hh, if_neg hh]
  exact weak_chain (by omega) ha al hb2 bl2 hc2 cl2 hd2 dl2 he2 el2 hf2 fl2 hg2 gl2
end Go.Vx
