/- The law OrderIs holds of the lifted functions. No conditions. -/
import Derived.Test.YtgkpmoapkjlopaaM5
set_option linter.all false
namespace Go.Vx
set_option maxRecDepth 100000
theorem clone_eq {s : List Int} (h : growOk 8 (lenL s)) : slices_Clone___int_int_ s = some s := by
  unfold slices_Clone___int_int_
  rw [nilO_eq]
  · show chk (growOk 8 (lenL s)) (some s) = some s
    rw [chk_ok h]
  · intro h0
    have : s = [] := by cases s with | nil => rfl | cons x l => simp [lenL] at h0; omega
    subst this
    show some [] = chk (growOk 8 (lenL ([] : List Int))) (some [])
    rw [chk_ok h]
def passedB (c : Int) : Bool := c == 13 || c == 10 || c == 15 || c == 16 || c == 17 || c == 18 || c == 19 || c == 20 || c == 21 || c == 22 || c == 23
theorem passed_eq (c : Int) : order_passed c = some (passedB c) := by
  unfold order_passed passedB
  generalize (c == 13) = b1; generalize (c == 10) = b2; generalize (c == 15) = b3; generalize (c == 16) = b4; generalize (c == 17) = b5; generalize (c == 18) = b6
  generalize (c == 19) = b7; generalize (c == 20) = b8; generalize (c == 21) = b9; generalize (c == 22) = b10; generalize (c == 23) = b11
  cases b1 <;> try rfl
  cases b2 <;> try rfl
  cases b3 <;> try rfl
  cases b4 <;> try rfl
  cases b5 <;> try rfl
  cases b6 <;> try rfl
  cases b7 <;> try rfl
  cases b8 <;> try rfl
  cases b9 <;> try rfl
  cases b10 <;> try rfl
  cases b11 <;> rfl
theorem soft_eq (c : Int) : lapwingref19_soft c = some (passedB c) := by
  unfold lapwingref19_soft passedB
  congr 1
  by_cases h1 : c = 13
  · subst h1; rfl
  · rw [Bool.eq_iff_iff]
    simp [h1]
    omega

def endF (f : Int → Int) : Nat → Int → Bool
  | 0, _ => true
  | k + 1, i => if f (i + 1) == 11 || f (i + 1) == 12 then true else if passedB (f (i + 1)) then endF f k (i + 1) else false
def zF (f : Int → Int) (n i : Int) : Bool := (f i == 11 || f i == 12) || (passedB (f i) && endF f (n - 1 - i).toNat i)
def ResetQ (f : Int → Int) (levels : List Int) (base : Int) (q : List Int) : Prop := lenL q = lenL levels ∧ ∀ k, 0 ≤ k → k < lenL levels → getL 0 q k = if zF f (lenL levels) k = true then base else getL 0 levels k
/-- What one step of either loop hands on. -/
def RInv (f : Int → Int) (levels : List Int) (base : Int) (x : Bool × Int × List Int) : Prop := -1 ≤ x.2.1 ∧ x.2.1 < lenL levels ∧ x.1 = endF f (lenL levels - 1 - x.2.1).toNat x.2.1 ∧ lenL x.2.2 = lenL levels ∧
      ∀ k, 0 ≤ k → k < lenL levels → getL 0 x.2.2 k = if x.2.1 < k ∧ zF f (lenL levels) k = true then base else getL 0 levels k
theorem RInv.start (f : Int → Int) (levels : List Int) (base : Int) : RInv f levels base (true, lenL levels - 1, levels) := by
  have hn := lenL_nn levels
  refine ⟨by dsimp only; omega, by dsimp only; omega, ?_, rfl, fun k k0 k1 => ?_⟩
  · dsimp only
    rw [show (lenL levels - 1 - (lenL levels - 1)).toNat = 0 by omega]; rfl
  · dsimp only
    rw [if_neg (by omega)]
theorem RInv.step {f : Int → Int} {levels : List Int} {base : Int} {e : Bool} {i : Int} {q : List Int} (h : RInv f levels base (e, i, q)) (h0 : 0 ≤ i) :
    ((f i = 11 ∨ f i = 12) → RInv f levels base (true, i - 1, setL q i base)) ∧ (¬ (f i = 11 ∨ f i = 12) → passedB (f i) = true → e = true → RInv f levels base (e, i - 1, setL q i base)) ∧
    (¬ (f i = 11 ∨ f i = 12) → passedB (f i) = true → e = false → RInv f levels base (false, i - 1, q)) ∧ (¬ (f i = 11 ∨ f i = 12) → passedB (f i) = false → RInv f levels base (false, i - 1, q)) := by
  obtain ⟨i0, i1, he, hq, hg⟩ := h
  dsimp only at i0 i1 he hq hg
  have hE : ∀ b, b = (if f i == 11 || f i == 12 then true else if passedB (f i) then e else false) → b = endF f (lenL levels - 1 - (i - 1)).toNat (i - 1) := by
    intro b hb
    rw [show (lenL levels - 1 - (i - 1)).toNat = (lenL levels - 1 - i).toNat + 1 by omega]
    simp only [endF, show i - 1 + 1 = i by omega]
    rw [← he, hb]
  have hz : zF f (lenL levels) i = ((f i == 11 || f i == 12) || (passedB (f i) && e)) := by
    simp only [zF]; rw [← he]
  have hS : zF f (lenL levels) i = true → ∀ k, 0 ≤ k → k < lenL levels → getL 0 (setL q i base) k = if i - 1 < k ∧ zF f (lenL levels) k = true then base else getL 0 levels k := by
    intro hzi k k0 k1
    rw [getL_put (by omega) k0 (by omega)]
    by_cases hk : k = i
    · subst hk; rw [if_pos rfl, if_pos ⟨by omega, hzi⟩]
    · rw [if_neg hk, hg k k0 k1]
      congr 1
      exact propext ⟨fun ⟨a, b⟩ => ⟨by omega, b⟩, fun ⟨a, b⟩ => ⟨by omega, b⟩⟩
  have hN : zF f (lenL levels) i = false → ∀ k, 0 ≤ k → k < lenL levels → getL 0 q k = if i - 1 < k ∧ zF f (lenL levels) k = true then base else getL 0 levels k := by
    intro hzi k k0 k1
    rw [hg k k0 k1]
    by_cases hk : k = i
    · subst hk; rw [if_neg (by omega), if_neg (by rw [hzi]; simp)]
    · congr 1
      exact propext ⟨fun ⟨a, b⟩ => ⟨by omega, b⟩, fun ⟨a, b⟩ => ⟨by omega, b⟩⟩
  have hcf : ¬ (f i = 11 ∨ f i = 12) → (f i == 11 || f i == 12) = false := fun hc => by
    have h1 : ¬ f i = 11 := fun h => hc (.inl h)
    have h2 : ¬ f i = 12 := fun h => hc (.inr h)
    simp [h1, h2]
  refine ⟨fun hc => ?_, fun hc hp hee => ?_, fun hc hp hee => ?_, fun hc hp => ?_⟩
  · have hc : (f i == 11 || f i == 12) = true := by rcases hc with hc | hc <;> simp [hc]
    exact ⟨by dsimp only; omega, by dsimp only; omega, hE _ (by rw [if_pos hc]), by simp [hq], hS (by rw [hz, hc]; rfl)⟩
  · have hc := hcf hc
    exact ⟨by dsimp only; omega, by dsimp only; omega, hE _ (by rw [if_neg (by rw [hc]; simp), if_pos hp]), by simp [hq], hS (by rw [hz, hc, hp, hee]; rfl)⟩
  · have hc := hcf hc
    exact ⟨by dsimp only; omega, by dsimp only; omega, hE _ (by rw [if_neg (by rw [hc]; simp), if_pos hp, hee]), hq, hN (by rw [hz, hc, hp, hee]; rfl)⟩
  · have hc := hcf hc
    exact ⟨by dsimp only; omega, by dsimp only; omega, hE _ (by rw [if_neg (by rw [hc]; simp), if_neg (by rw [hp]; simp)]), hq, hN (by rw [hz, hc, hp]; rfl)⟩
theorem RInv.fin {f : Int → Int} {levels : List Int} {base : Int} {e : Bool} {i : Int} {q : List Int} (h : RInv f levels base (e, i, q)) (h0 : ¬ 0 ≤ i) : ResetQ f levels base q := by
  obtain ⟨i0, i1, he, hq, hg⟩ := h
  dsimp only at i0 i1 he hq hg
  refine ⟨hq, fun k k0 k1 => ?_⟩
  rw [hg k k0 k1]
  congr 1
  exact propext ⟨fun ⟨a, b⟩ => b, fun b => ⟨by omega, b⟩⟩
theorem cond_two {c : Int} : (if (c == 11) = true then true else (c == 12)) = true ↔ (c = 11 ∨ c = 12) := by
  by_cases h : c = 11
  · simp [h]
  · simp [h]
theorem reset_yields {d : T_ucd_Data} {cls : Int → Int} (hcls : ∀ r, ucd_Class d r = some (cls r)) {r levels : List Int} (base : Int) (hl : lenL r = lenL levels) (hb : lenL levels ≤ 100000) :
    Yields (order_Reset d r levels base) (ResetQ (fun i => cls (getL 0 r i)) levels base) := by
  have hn := lenL_nn levels
  unfold order_Reset
  rw [clone_eq (grOk hn (by omega) (by omega)), bindO_eq', show (!((lenL r) == (lenL levels))) = false by simp [hl], iteO_false, hl]
  refine .cut (fun o => ∃ q, o = .go q ∧ ResetQ (fun i => cls (getL 0 r i)) levels base q) ?_ ?_
  · refine .chk (inR64 (by omega) (by omega)) ?_
    refine .loop (RInv (fun i => cls (getL 0 r i)) levels base) (fun x => (x.2.1 + 1).toNat) (RInv.start _ _ _) ?_
    rintro ⟨e, i, q⟩ hI
    have hi1 := hI.2.1
    have hi0 := hI.1
    dsimp only at hi0 hi1 ⊢
    refine .ite (fun h => ?_) (fun h => .ret ⟨q, rfl, hI.fin (by simpa using h)⟩)
    have h : 0 ≤ i := by simpa using h
    obtain ⟨s1, s2, s3, s4⟩ := hI.step h
    try dsimp only at s1 s2 s3 s4
    refine .chk ⟨h, by omega⟩ (.call (hcls _) (.ite (fun hc => ?_) (fun hc => ?_)))
    · exact .chk ⟨h, by omega⟩ (.chk (inR64 (by omega) (by omega)) (.ret ⟨s1 (cond_two.1 hc), by dsimp only; omega⟩))
    · have hc : ¬ (cls (getL 0 r i) = 11 ∨ cls (getL 0 r i) = 12) := fun h' => by rw [cond_two.2 h'] at hc; cases hc
      refine .call (passed_eq _) (.ite (fun hp => ?_) (fun hp => ?_))
      · exact .chk (inR64 (by omega) (by omega)) (.ret ⟨s4 hc (by simpa using hp), by dsimp only; omega⟩)
      · refine .ite (fun he => ?_) (fun he => ?_)
        · exact .chk ⟨h, by omega⟩ (.chk (inR64 (by omega) (by omega)) (.ret ⟨s2 hc (by simpa using hp) he, by dsimp only; omega⟩))
        · have := s3 hc (by simpa using hp) he
          subst he
          exact .chk (inR64 (by omega) (by omega)) (.ret ⟨this, by dsimp only; omega⟩)
  · rintro o ⟨q, rfl, h1⟩
    exact .go (.ret h1)
theorem refreset_yields {x : T_lapwingref02_Data} {cls : Int → Int} (hcls : ∀ r, lapwingref02_Class x r = some (cls r)) {r levels : List Int} (base : Int) (hl : lenL r = lenL levels) (hb : lenL levels ≤ 100000) :
    Yields (lapwingref19_Reset x r levels base) (ResetQ (fun i => cls (getL 0 r i)) levels base) := by
  have hn := lenL_nn levels
  unfold lapwingref19_Reset
  refine .chk (grOk hn (by omega) (by omega)) ?_
  rw [show (!((lenL r) == (lenL levels))) = false by simp [hl], iteO_false, hl]
  refine .cut (fun o => ∃ q, o = .go q ∧ ResetQ (fun i => cls (getL 0 r i)) levels base q) ?_ ?_
  · refine .chk (inR64 (by omega) (by omega)) ?_
    refine .loop (RInv (fun i => cls (getL 0 r i)) levels base) (fun x => (x.2.1 + 1).toNat) (RInv.start _ _ _) ?_
    rintro ⟨e, i, q⟩ hI
    have hi1 := hI.2.1
    have hi0 := hI.1
    dsimp only at hi0 hi1 ⊢
    refine .ite (fun h => ?_) (fun h => .ret ⟨q, rfl, hI.fin (by simpa using h)⟩)
    have h : 0 ≤ i := by simpa using h
    obtain ⟨s1, s2, s3, s4⟩ := hI.step h
    try dsimp only at s1 s2 s3 s4
    refine .chk ⟨h, by omega⟩ (.call (hcls _) (.ite (fun hc => ?_) (fun hc => ?_)))
    · exact .chk ⟨h, by omega⟩ (.chk (inR64 (by omega) (by omega)) (.ret ⟨s1 (cond_two.1 hc), by dsimp only; omega⟩))
    · have hc : ¬ (cls (getL 0 r i) = 11 ∨ cls (getL 0 r i) = 12) := fun h' => by rw [cond_two.2 h'] at hc; cases hc
      refine .bind (fun v => e = true → v = passedB (cls (getL 0 r i))) ?_ fun v hv => ?_
      · cases e
        · exact .ret (fun h => by cases h)
        · rw [if_pos rfl, soft_eq]; exact .ret (fun _ => rfl)
      · refine .ite (fun hp => ?_) (fun hp => ?_)
        · have he : e = true := by
            cases e
            · simp at hp
            · rfl
          have hv := hv he
          have hp : passedB (cls (getL 0 r i)) = true := by rw [← hv]; rw [if_pos he] at hp; exact hp
          exact .chk ⟨h, by omega⟩ (.chk (inR64 (by omega) (by omega)) (.ret ⟨s2 hc hp he, by dsimp only; omega⟩))
        · have hr : RInv (fun i => cls (getL 0 r i)) levels base (false, i - 1, q) := by
            by_cases hp' : passedB (cls (getL 0 r i)) = true
            · have he : e = false := by
                cases e
                · rfl
                · have := hv rfl
                  rw [if_pos rfl, this, hp'] at hp; cases hp
              exact s3 hc hp' he
            · exact s4 hc (by simpa using hp')
          exact .chk (inR64 (by omega) (by omega)) (.ret ⟨hr, by dsimp only; omega⟩)
  · rintro o ⟨q, rfl, h1⟩
    exact .go (.ret h1)
theorem reset_same {d : T_ucd_Data} {x : T_lapwingref02_Data} {cls : Int → Int} (h1 : ∀ r, ucd_Class d r = some (cls r)) (h2 : ∀ r, lapwingref02_Class x r = some (cls r)) (r levels : List Int) (base : Int) (hb : lenL levels ≤ 1000) :
    ∃ q, order_Reset d r levels base = some q ∧ lapwingref19_Reset x r levels base = some q ∧ lenL q ≤ 1000 := by
  have hn := lenL_nn levels
  by_cases hl : lenL r = lenL levels
  · obtain ⟨q, a1, a2, a3⟩ := reset_yields h1 base hl (by omega)
    obtain ⟨q', b1, b2, b3⟩ := refreset_yields h2 base hl (by omega)
    have : q = q' := extL 0 (by omega) fun k k0 k1 => by rw [a3 k k0 (by omega), b3 k k0 (by omega)]
    subst this
    exact ⟨q, a1, b1, by omega⟩
  · refine ⟨levels, ?_, ?_, hb⟩
    · unfold order_Reset
      rw [clone_eq (grOk hn (by omega) (by omega)), bindO_eq', show (!((lenL r) == (lenL levels))) = true by simp [hl]]; rfl
    · unfold lapwingref19_Reset
      rw [chk_ok (grOk hn (by omega) (by omega)), show (!((lenL r) == (lenL levels))) = true by simp [hl]]; rfl
theorem ints_self (a : List Int) (ha : lenL a ≤ 1000) : lapwingref03_Ints a a = some true := by
  rw [ints_eq (by omega)]; simp
theorem orderIs_true (x : T_lapwingref02_Data) (r levels widths : List Int) (base : Int) : lapwinglaw19_OrderIs x r levels widths base = some true := by
  refine Yields.eq ?_
  unfold lapwinglaw19_OrderIs
  rw [awake_true, bindO_eq']
  refine .bind (fun v => v = true → lenL x.fClass.fL ≤ 1000 ∧ lenL x.fWide.fL ≤ 1000 ∧ lenL x.fJoin.fL ≤ 1000 ∧ lenL x.fMirror ≤ 1000 ∧ lenL x.fBrackets ≤ 1000 ∧ lenL x.fForms ≤ 1000) ?_ fun v1 h1 => ?_
  · generalize (!(if (if (decide (200 < (lenL levels))) = true then true else (decide (200 < (lenL widths)))) = true then true else (decide (200 < (lenL r))))) = cnd
    cases cnd
    · exact ⟨false, rfl, fun h => by cases h⟩
    · rw [if_pos rfl]
      unfold lapwingref02_Few
      refine .ret (fun h => ?_)
      by_cases c1 : lenL x.fClass.fL ≤ 200
      · by_cases c2 : lenL x.fWide.fL ≤ 100
        · by_cases c3 : lenL x.fJoin.fL ≤ 100
          · by_cases c4 : lenL x.fMirror ≤ 60
            · by_cases c5 : lenL x.fBrackets ≤ 60
              · by_cases c6 : lenL x.fForms ≤ 60
                · exact ⟨by omega, by omega, by omega, by omega, by omega, by omega⟩
                · simp [c6] at h
              · simp [c5] at h
            · simp [c4] at h
          · simp [c3] at h
        · simp [c2] at h
      · simp [c1] at h
  · refine .ite (fun _ => .ret rfl) (fun hg => ?_)
    have hg : (lenL levels ≤ 200 ∧ lenL widths ≤ 200 ∧ lenL r ≤ 200) ∧ v1 = true := by
      by_cases c1 : 200 < lenL levels
      · simp [c1] at hg
      · by_cases c2 : 200 < lenL widths
        · simp [c2] at hg
        · by_cases c3 : 200 < lenL r
          · simp [c3] at hg
          · simp [c1, c2, c3] at hg
            exact ⟨⟨by omega, by omega, by omega⟩, hg⟩
    obtain ⟨⟨hl, hw, hr⟩, hv1⟩ := hg
    obtain ⟨x1, x2, x3, x4, x5, x6⟩ := h1 hv1
    obtain ⟨c, ok, a1, a2, a3⟩ := cells_same hl hw
    obtain ⟨iv, is, b1, b2, b3⟩ := invert_same (l := widths) (by omega)
    obtain ⟨v, d1, d2, d3, _⟩ := visual_same (levels := levels) (by omega)
    obtain ⟨d, e1, e2⟩ := tables_yields x1 x2 x3 x4 x5 x6
    obtain ⟨q, f1, f2, f3⟩ := reset_same (fun r => class_eq r e2 x1) (fun r => refclass_eq r x1) r levels base (by omega)
    obtain ⟨rn, g1, g2, g3⟩ := runs_same (levels := levels) (by omega)
    have s1 := ints_self v (by omega)
    have s2 := ints_self q f3
    have s3 := ints_self c a3
    have s4 := ints_self iv b3
    have s5 := pair_self rn (by omega)
    simp only [a1, a2, b1, b2, bindO_eq', d1, d2, e1, f1, f2, g1, g2, if_true, s1, s2, s3, s4, s5, beq_self_eq_true]
    exact .ret rfl
end Go.Vx
