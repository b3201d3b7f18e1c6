/- What is seen of letters, as plain functions, by the tables that Load lays. No conditions. -/
import Derived.Test.YtigfggfbpdhmfaaDoorUS
set_option linter.all false
namespace Go.Vx
set_option maxRecDepth 100000

def Mir (x l : Int) (b : Bool) : Int := if l % 2 = 0 ∨ (9472 ≤ x ∧ x ≤ 9631 ∧ b = false) then x else mirL x
theorem bnd1 (l : Int) : bndI .i64 l 1 = l % 2 := bnd_mask l 1 (by omega)
theorem mirror_spec (x l : Int) (b : Bool) : shape_Mirror dLoad x l b = some (Mir x l b) := by
  unfold shape_Mirror
  rw [bnd1, mirror_L, bindO_eq]
  unfold Mir
  by_cases h : l % 2 = 0 ∨ (9472 ≤ x ∧ x ≤ 9631 ∧ b = false)
  · rw [if_pos h, show (if (l % 2 == 0) = true then true else (if (if (decide (9472 ≤ x)) = true then (decide (x ≤ 9631)) else false) = true then (!b) else false)) = true by
      rcases h with h | ⟨h1, h2, h3⟩
      · simp [h]
      · simp [h1, h2, h3], iteO_true]
  · rw [if_neg h, show (if (l % 2 == 0) = true then true else (if (if (decide (9472 ≤ x)) = true then (decide (x ≤ 9631)) else false) = true then (!b) else false)) = false by
      by_cases h1 : l % 2 = 0
      · exact absurd (.inl h1) h
      · by_cases h2 : 9472 ≤ x
        · by_cases h3 : x ≤ 9631
          · cases b
            · exact absurd (.inr ⟨h2, h3, rfl⟩) h
            · simp [h1, h2, h3]
          · simp [h1, h2, h3]
        · simp [h1, h2], iteO_false]

theorem lig4_join {x : Int} (h : x ∈ lig4) : joiL x = 1 := by
  have := allI (show (lig4.all fun a => joiL a == 1) = true by kernel_rfl) x h
  simpa using this
theorem lam_join : joiL 1604 = 2 := by kernel_rfl
theorem lam_lig : (1604 : Int) ∉ lig4 := by decide
theorem lig_val {x : Int} (h : x ∈ lig4) (f : Bool) : 65269 ≤ (ligL x f).1 ∧ (ligL x f).1 ≤ 65276 := by
  have := allI (allI (show (lig4.all fun a => [true, false].all fun f => decide (65269 ≤ (ligL a f).1) && (decide ((ligL a f).1 ≤ 65276))) = true by kernel_rfl) x h) f (by cases f <;> simp)
  simpa using this

def g1 (x : Int) (p s : Option Int) (l : Int) (b : Bool) : Int := if shpL x (frmV (fstF x p) (sndF x s)) = x then Mir x l b else shpL x (frmV (fstF x p) (sndF x s))
def ligS (x : Int) (p s : Option Int) : Option Int := if x = 1604 then (match s with | some y => if y ∈ lig4 then some (ligL y (fstF x p)).1 else none | none => none) else none
def gv (x : Int) (p s : Option Int) (l : Int) (b : Bool) : Int := if p = some 1604 ∧ x ∈ lig4 then 0 else (ligS x p s).getD (g1 x p s l b)
theorem frmV_fst (a b : Bool) : (if (frmV a b == 1) = true then true else (frmV a b == 3)) = a := by cases a <;> cases b <;> rfl
theorem frmV_fst' (a b : Bool) : (frmV a b = 1 ∨ frmV a b = 3) ↔ a = true := by cases a <;> cases b <;> decide
theorem frmV_snd' (a b : Bool) : (if (frmV a b == 2) = true then true else (frmV a b == 3)) = b := by cases a <;> cases b <;> rfl

def g1At (r ls : List Int) (b : Bool) (k : Int) : Int := g1 (getL 0 r k) (prevS r k) (nextS r k) (getL 0 ls k) b
def gvAt (r ls : List Int) (b : Bool) (k : Int) : Int := gv (getL 0 r k) (prevS r k) (nextS r k) (getL 0 ls k) b

theorem pick_B (r : List Int) (hb : lenL r ≤ 100000) : ∃ B : Int → Int, ∀ k, 0 ≤ k → k < lenL r → IsB r k (B k) := by
  have h : ∀ k, ∃ b, 0 ≤ k → k < lenL r → IsB r k b := by
    intro k
    by_cases h : 0 ≤ k ∧ k < lenL r
    · obtain ⟨b, _, h'⟩ := before_spec h.1 h.2 hb
      exact ⟨b, fun _ _ => h'⟩
    · exact ⟨0, fun h0 h1 => absurd ⟨h0, h1⟩ h⟩
  exact ⟨fun k => Classical.choose (h k), fun k => Classical.choose_spec (h k)⟩

open Classical in
noncomputable def gSt (r ls : List Int) (b : Bool) (B : Int → Int) (m k : Int) : Int :=
  if 0 ≤ B k ∧ B k < m ∧ getL 0 r (B k) = 1604 ∧ getL 0 r k ∈ lig4 then 0 else if k < m then (ligS (getL 0 r k) (prevS r k) (nextS r k)).getD (g1At r ls b k) else g1At r ls b k

theorem gSt_same {r ls : List Int} {b : Bool} {B : Int → Int} {m k : Int} (h1 : B k = m → getL 0 r m = 1604 → getL 0 r k ∈ lig4 → False) (h2 : k = m → ligS (getL 0 r m) (prevS r m) (nextS r m) = none) : gSt r ls b B (m + 1) k = gSt r ls b B m k := by
  unfold gSt
  have e : (0 ≤ B k ∧ B k < m + 1 ∧ getL 0 r (B k) = 1604 ∧ getL 0 r k ∈ lig4) ↔ (0 ≤ B k ∧ B k < m ∧ getL 0 r (B k) = 1604 ∧ getL 0 r k ∈ lig4) := by
    refine ⟨fun ⟨a1, a2, a3, a4⟩ => ⟨a1, ?_, a3, a4⟩, fun ⟨a1, a2, a3, a4⟩ => ⟨a1, by omega, a3, a4⟩⟩
    rcases Int.lt_or_eq_of_le (show B k ≤ m by omega) with h | h
    · exact h
    · exact (h1 h (by rw [← h]; exact a3) a4).elim
  simp only [e]
  split
  · rfl
  · by_cases hk : k = m
    · subst hk
      rw [if_pos (by omega), if_neg (by omega), h2 rfl]; rfl
    · by_cases hk2 : k < m
      · rw [if_pos (by omega), if_pos hk2]
      · rw [if_neg (by omega), if_neg hk2]

theorem glyphs_spec {r ls : List Int} (b : Bool) (hl : lenL ls = lenL r) (hb : lenL r ≤ 100000) : Yields (shape_Glyphs dLoad r ls b) (fun g => lenL g = lenL r ∧ ∀ k, 0 ≤ k → k < lenL r → getL 0 g k = gvAt r ls b k) := by
  have hn := lenL_nn r
  unfold shape_Glyphs
  rw [clone_eq (grOk hn (by omega) (by omega)), bindO_eq, show (!((lenL r) == (lenL ls))) = false by simp [hl], iteO_false]
  refine .bind _ (forms_spec hb) fun f ⟨hf, hfg⟩ => ?_
  refine .cut (fun o => ∃ q, o = .go q ∧ lenL q = lenL r ∧ ∀ k, 0 ≤ k → k < lenL r → getL 0 q k = g1At r ls b k) ?_ ?_
  · refine .loop (fun x => 0 ≤ x.1 ∧ x.1 ≤ lenL r ∧ lenL x.2 = lenL r ∧ ∀ k, 0 ≤ k → k < x.1 → getL 0 x.2 k = g1At r ls b k) (fun x => (lenL r - x.1).toNat) ⟨by dsimp only; omega, hn, rfl, fun k _ _ => by dsimp only at *; omega⟩ ?_
    rintro ⟨i, q⟩ ⟨i0, i1, hq, hg⟩
    dsimp only at i0 i1 hq hg ⊢
    refine .ite (fun h => ?_) (fun h => ?_)
    · have h : i < lenL r := by simpa using h
      have e0 : (0 : Int) + i = i := by omega
      simp only [e0]
      refine .cut (fun o => ∃ q, o = .go q ∧ lenL q = lenL r ∧ (∀ k, 0 ≤ k → k < i → getL 0 q k = g1At r ls b k) ∧ getL 0 q i = g1At r ls b i) ?_ ?_
      · refine .cut (fun o => ∃ q, o = .go q ∧ lenL q = lenL r ∧ (∀ k, 0 ≤ k → k < i → getL 0 q k = g1At r ls b k) ∧ getL 0 q i = shpL (getL 0 r i) (frmAt r i)) ?_ ?_
        · refine .chk ⟨i0, h⟩ (.chk ⟨i0, by omega⟩ ?_)
          rw [hfg i i0 h]
          refine .call (shape_L _ _) (.chk ⟨i0, h⟩ (.ret ⟨_, rfl, by simp [hq], fun k k0 k1 => ?_, ?_⟩))
          · rw [getL_put i0 k0 (by omega), if_neg (by omega)]; exact hg k k0 k1
          · rw [getL_put i0 i0 (by omega), if_pos rfl]
        · rintro o ⟨q', rfl, hq', hg', hv⟩
          refine .go ?_
          refine .chk ⟨i0, h⟩ (.ite (fun hc => ?_) (fun hc => ?_))
          · refine .chk ⟨i0, by omega⟩ (.call (mirror_spec _ _ _) (.chk ⟨i0, h⟩ (.ret ⟨_, rfl, by simp [hq'], fun k k0 k1 => ?_, ?_⟩)))
            · rw [getL_put i0 k0 (by omega), if_neg (by omega)]; exact hg' k k0 k1
            · rw [getL_put i0 i0 (by omega), if_pos rfl]
              have hc : getL 0 q' i = getL 0 r i := by simpa using hc
              rw [hv] at hc
              unfold g1At g1
              rw [if_pos (show shpL (getL 0 r i) (frmV (fstF (getL 0 r i) (prevS r i)) (sndF (getL 0 r i) (nextS r i))) = getL 0 r i from hc)]
          · refine .ret ⟨_, rfl, hq', hg', ?_⟩
            have hc : ¬ getL 0 q' i = getL 0 r i := by simpa using hc
            rw [hv] at hc
            unfold g1At g1
            rw [if_neg (show ¬ shpL (getL 0 r i) (frmV (fstF (getL 0 r i) (prevS r i)) (sndF (getL 0 r i) (nextS r i))) = getL 0 r i from hc), hv]; rfl
      · rintro o ⟨q', rfl, hq', hg', hv⟩
        refine .go (.chk (inR64 (by omega) (by omega)) (.ret ⟨⟨by dsimp only; omega, by dsimp only; omega, hq', fun k k0 k1 => ?_⟩, by dsimp only; omega⟩))
        dsimp only at k1 ⊢
        rcases Int.lt_or_eq_of_le (show k ≤ i by omega) with h' | rfl
        · exact hg' k k0 h'
        · exact hv
    · have h : ¬ i < lenL r := by simpa using h
      exact .ret ⟨q, rfl, hq, fun k k0 k1 => hg k k0 (by omega)⟩
  · rintro o ⟨q0, rfl, hq0, hg0⟩
    refine .go ?_
    obtain ⟨B, hB⟩ := pick_B r hb
    refine .cut (fun o => ∃ q, o = .go q ∧ lenL q = lenL r ∧ ∀ k, 0 ≤ k → k < lenL r → getL 0 q k = gSt r ls b B (lenL r) k) ?_ ?_
    · refine .loop (fun x => 0 ≤ x.1 ∧ x.1 ≤ lenL r ∧ lenL x.2 = lenL r ∧ ∀ k, 0 ≤ k → k < lenL r → getL 0 x.2 k = gSt r ls b B x.1 k) (fun x => (lenL r - x.1).toNat) ⟨by dsimp only; omega, hn, hq0, fun k k0 k1 => ?_⟩ ?_
      · dsimp only
        rw [hg0 k k0 k1]
        unfold gSt
        rw [if_neg (by omega), if_neg (by omega)]
      · rintro ⟨m, q⟩ ⟨m0, m1, hq, hg⟩
        dsimp only at m0 m1 hq hg ⊢
        refine .ite (fun h => ?_) (fun h => ?_)
        · have h : m < lenL r := by simpa using h
          have e0 : (0 : Int) + m = m := by omega
          simp only [e0]
          have keep : (∀ k, 0 ≤ k → k < lenL r → gSt r ls b B (m + 1) k = gSt r ls b B m k) → Yields (chk (inR .i64 (m + 1)) (some (Fl.go (m + 1, q)))) (StepP (fun x : Int × List Int => 0 ≤ x.1 ∧ x.1 ≤ lenL r ∧ lenL x.2 = lenL r ∧ ∀ k, 0 ≤ k → k < lenL r → getL 0 x.2 k = gSt r ls b B x.1 k) (fun x => (lenL r - x.1).toNat) (fun o : Fl (List Int) (List Int) => ∃ q, o = .go q ∧ lenL q = lenL r ∧ ∀ k, 0 ≤ k → k < lenL r → getL 0 q k = gSt r ls b B (lenL r) k) (m, q)) := by
            intro hk
            refine .chk (inR64 (by omega) (by omega)) (.ret ⟨⟨by dsimp only; omega, by dsimp only; omega, hq, fun k k0 k1 => ?_⟩, by dsimp only; omega⟩)
            dsimp only
            rw [hk k k0 k1]; exact hg k k0 k1
          refine .chk ⟨m0, h⟩ (.bind _ (after_spec m0 h hb) fun a ha => ?_)
          have hnx := isA_next m0 h ha
          have hkA : ∀ k, 0 ≤ k → k < lenL r → B k = m → getL 0 r k ∈ lig4 → k = a := by
            intro k k0 k1 hk hl
            have hj : J r k ≠ 4 := by unfold J; rw [lig4_join hl]; decide
            exact isA_uniq (isB_isA k1 hj m0 (hk ▸ hB k k0 k1)) ha
          refine .ite (fun hc => ?_) (fun hc => ?_)
          · refine keep fun k k0 k1 => gSt_same (fun h1 h2 h3 => ?_) (fun _ => ?_)
            · have := hkA k k0 k1 h1 h3
              subst this
              simp [h2] at hc
              omega
            · unfold ligS
              by_cases hx : getL 0 r m = 1604
              · have : a < 0 := by simpa [hx] using hc
                rw [if_pos hx, hnx, if_neg (by omega)]
              · rw [if_neg hx]
          · have hc : getL 0 r m = 1604 ∧ 0 ≤ a := by
              by_cases hx : getL 0 r m = 1604
              · refine ⟨hx, ?_⟩
                simp [hx] at hc
                exact hc
              · simp [hx] at hc
            obtain ⟨hx, ha0⟩ := hc
            have ham : m < a ∧ a < lenL r := by rcases ha with ⟨h1, _⟩ | ⟨h1, h2, _⟩ <;> omega
            rw [if_pos ha0] at hnx
            have hfin : (if ((getL 0 f m) == 1) = true then true else ((getL 0 f m) == 3)) = fstF 1604 (prevS r m) := by
              rw [hfg m m0 h]; unfold frmAt; rw [frmV_fst, hx]
            refine .chk ⟨m0, by omega⟩ (.chk (fun _ => ⟨m0, by omega⟩) (.chk ⟨ha0, ham.2⟩ ?_))
            rw [hfin, hx]
            refine .call (lig_eq _ _) ?_
            refine .ite (fun hok => ?_) (fun hok => ?_)
            · have hin : getL 0 r a ∈ lig4 := by
                rcases lig_mem (getL 0 r a) (fstF 1604 (prevS r m)) with ⟨h1, _⟩ | ⟨_, h1⟩
                · rw [h1] at hok; cases hok
                · exact h1
              refine .chk ⟨m0, h⟩ (.chk ⟨ha0, ham.2⟩ (.chk (inR64 (by omega) (by omega)) (.ret ⟨⟨by dsimp only; omega, by dsimp only; omega, by simp [hq], fun k k0 k1 => ?_⟩, by dsimp only; omega⟩)))
              dsimp only
              rw [getL_put ha0 k0 (by simp [hq]; omega), getL_put m0 k0 (by omega)]
              by_cases hka : k = a
              · subst hka
                rw [if_pos rfl]
                have hBk : B k = m := isB_uniq (hB k k0 k1) (isA_isB m0 (by unfold J; rw [hx, lam_join]; decide) ha0 ha)
                unfold gSt
                rw [if_pos ⟨by omega, by omega, by rw [hBk]; exact hx, hin⟩]
              · rw [if_neg hka]
                by_cases hkm : k = m
                · subst hkm
                  rw [if_pos rfl]
                  unfold gSt
                  rw [if_neg (by rw [hx]; exact fun h => lam_lig h.2.2.2), if_pos (by omega)]
                  unfold ligS
                  rw [if_pos hx, hnx]
                  dsimp only
                  rw [if_pos hin, hx]; rfl
                · rw [if_neg hkm, hg k k0 k1]
                  exact (gSt_same (fun h1 _ h3 => hka (hkA k k0 k1 h1 h3)) (fun h => absurd h hkm)).symm
            · have hin : getL 0 r a ∉ lig4 := by
                rcases lig_mem (getL 0 r a) (fstF 1604 (prevS r m)) with ⟨_, h1⟩ | ⟨h1, _⟩
                · exact h1
                · rw [h1] at hok; cases hok
              refine keep fun k k0 k1 => gSt_same (fun h1 h2 h3 => ?_) (fun _ => ?_)
              · have := hkA k k0 k1 h1 h3
                subst this
                exact hin h3
              · unfold ligS
                rw [if_pos hx, hnx]
                dsimp only
                rw [if_neg hin]
        · have h : ¬ m < lenL r := by simpa using h
          obtain rfl : m = lenL r := by omega
          exact .ret ⟨q, rfl, hq, hg⟩
    · rintro o ⟨q, rfl, hq, hg⟩
      refine .go (.ret ⟨hq, fun k k0 k1 => ?_⟩)
      rw [hg k k0 k1]
      have hp := isB_prev k0 (hB k k0 k1)
      have hbk : B k < lenL r := by rcases hB k k0 k1 with ⟨h1, _⟩ | ⟨_, h1, _⟩ <;> omega
      unfold gSt gvAt gv
      rw [if_pos k1]
      by_cases hc : 0 ≤ B k
      · rw [if_pos hc] at hp
        by_cases hc2 : getL 0 r (B k) = 1604 ∧ getL 0 r k ∈ lig4
        · rw [if_pos ⟨hc, hbk, hc2⟩, if_pos ⟨by rw [hp, hc2.1], hc2.2⟩]
        · rw [if_neg (fun h => hc2 h.2.2), if_neg (fun h => hc2 ⟨by have := h.1; rw [hp] at this; exact Option.some.inj this, h.2⟩)]; rfl
      · rw [if_neg hc] at hp
        rw [if_neg (fun h => hc h.1), if_neg (fun h => by rw [hp] at h; cases h.1)]; rfl
end Go.Vx
