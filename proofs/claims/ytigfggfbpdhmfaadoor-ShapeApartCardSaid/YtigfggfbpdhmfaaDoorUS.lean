/- What letters look like beside one another, as plain functions, by the tables that Load lays. No conditions. -/
import Derived.Test.YtigfggfbpdhmfaaDoorUTwinS
set_option linter.all false
namespace Go.Vx
set_option maxRecDepth 100000

theorem awake20 : lapwinglaw20_awake = some true := by
  have e1 : shape_Glyphs dLoad [1576, 1576, 1576] [1, 1, 1] false = some [65169, 65170, 65168] := (shape_Glyphs_le _ _ _ _).of (by kernel_rfl)
  have e2 : shape_Forms dLoad [1576, 1576, 1576] = some [2, 3, 1] := (shape_Forms_le _ _).of (by kernel_rfl)
  have e3 : shape_Mirror dLoad 40 1 false = some 41 := (shape_Mirror_le _ _ _ _).of (by kernel_rfl)
  have i1 := ints_self [65169, 65170, 65168] (by decide)
  have i2 := ints_self [2, 3, 1] (by decide)
  unfold lapwinglaw20_awake
  simp [load_eq, bindO, e1, e2, e3, i1, i2]

def jA (j : Int) : Bool := j == 1 || j == 2 || j == 3
def jB (j : Int) : Bool := j == 2 || j == 3
def J (r : List Int) (i : Int) : Int := joiL (getL 0 r i)
def sidesL : List (Int × Int) := [(1, 1), (2, 3), (3, 3)]
theorem side_A (j : Int) : (!(bndI .i64 (mgetI sidesL j) 1 == 0)) = jA j := by
  by_cases h1 : j = 1
  · subst h1; kernel_rfl
  by_cases h2 : j = 2
  · subst h2; kernel_rfl
  by_cases h3 : j = 3
  · subst h3; kernel_rfl
  have : mgetI sidesL j = 0 := by simp [mgetI, sidesL, h1, h2, h3]
  rw [this, show (bndI .i64 0 1 == 0) = true by kernel_rfl]
  simp [jA, h1, h2, h3]
theorem side_B (j : Int) : (!(bndI .i64 (mgetI sidesL j) 2 == 0)) = jB j := by
  by_cases h1 : j = 1
  · subst h1; kernel_rfl
  by_cases h2 : j = 2
  · subst h2; kernel_rfl
  by_cases h3 : j = 3
  · subst h3; kernel_rfl
  have : mgetI sidesL j = 0 := by simp [mgetI, sidesL, h1, h2, h3]
  rw [this, show (bndI .i64 0 2 == 0) = true by kernel_rfl]
  simp [jB, h2, h3]

/-! The nearest letters that are not passed over. -/
def IsA (r : List Int) (i k : Int) : Prop := (k = -1 ∧ ∀ j, i < j → j < lenL r → J r j = 4) ∨ (i < k ∧ k < lenL r ∧ J r k ≠ 4 ∧ ∀ j, i < j → j < k → J r j = 4)
def IsB (r : List Int) (i k : Int) : Prop := (k = -1 ∧ ∀ j, 0 ≤ j → j < i → J r j = 4) ∨ (0 ≤ k ∧ k < i ∧ J r k ≠ 4 ∧ ∀ j, k < j → j < i → J r j = 4)
theorem after_spec {r : List Int} {i : Int} (h0 : 0 ≤ i) (h1 : i < lenL r) (hb : lenL r ≤ 100000) : Yields (shape_After dLoad r i) (IsA r i) := by
  unfold shape_After
  rw [show (if (decide (i < 0)) = true then true else (decide ((lenL r) ≤ i))) = false by simp; omega, iteO_false]
  refine .cut (fun o => (o = .go () ∧ ∀ j, i < j → j < lenL r → J r j = 4) ∨ ∃ k, o = .out k ∧ IsA r i k) ?_ ?_
  · refine .chk (inR64 (by omega) (by omega)) ?_
    refine .loop (fun k => i < k ∧ k ≤ lenL r ∧ ∀ j, i < j → j < k → J r j = 4) (fun k => (lenL r - k).toNat) ⟨by omega, by omega, fun j _ _ => by omega⟩ ?_
    rintro k ⟨k0, k1, hk⟩
    refine .ite (fun h => ?_) (fun h => ?_)
    · have h : k < lenL r := by simpa using h
      refine .chk ⟨by omega, h⟩ (.call (join_L _) (.ite (fun hj => ?_) (fun hj => ?_)))
      · exact .ret (.inr ⟨k, rfl, .inr ⟨k0, h, by simpa [J] using hj, hk⟩⟩)
      · refine .chk (inR64 (by omega) (by omega)) (.ret ⟨⟨by omega, by omega, fun j j0 j1 => ?_⟩, by dsimp only; omega⟩)
        rcases Int.lt_or_eq_of_le (show j ≤ k by omega) with h' | rfl
        · exact hk j j0 h'
        · simpa [J] using hj
    · have h : ¬ k < lenL r := by simpa using h
      exact .ret (.inl ⟨rfl, fun j j0 j1 => hk j j0 (by omega)⟩)
  · rintro o (⟨rfl, h⟩ | ⟨k, rfl, h⟩)
    · exact .go (.ret (.inl ⟨rfl, h⟩))
    · exact .out h
theorem before_spec {r : List Int} {i : Int} (h0 : 0 ≤ i) (h1 : i < lenL r) (hb : lenL r ≤ 100000) : Yields (shape_Before dLoad r i) (IsB r i) := by
  unfold shape_Before
  rw [show (if (decide (i < 0)) = true then true else (decide ((lenL r) ≤ i))) = false by simp; omega, iteO_false]
  refine .cut (fun o => (o = .go () ∧ ∀ j, 0 ≤ j → j < i → J r j = 4) ∨ ∃ k, o = .out k ∧ IsB r i k) ?_ ?_
  · refine .chk (inR64 (by omega) (by omega)) ?_
    refine .loop (fun k => -1 ≤ k ∧ k < i ∧ ∀ j, k < j → j < i → J r j = 4) (fun k => (k + 1).toNat) ⟨by omega, by omega, fun j _ _ => by omega⟩ ?_
    rintro k ⟨k0, k1, hk⟩
    refine .ite (fun h => ?_) (fun h => ?_)
    · have h : 0 ≤ k := by simpa using h
      refine .chk ⟨h, by omega⟩ (.call (join_L _) (.ite (fun hj => ?_) (fun hj => ?_)))
      · exact .ret (.inr ⟨k, rfl, .inr ⟨h, k1, by simpa [J] using hj, hk⟩⟩)
      · refine .chk (inR64 (by omega) (by omega)) (.ret ⟨⟨by omega, by omega, fun j j0 j1 => ?_⟩, by dsimp only; omega⟩)
        rcases Int.lt_or_eq_of_le (show k ≤ j by omega) with h' | rfl
        · exact hk j h' j1
        · simpa [J] using hj
    · have h : ¬ 0 ≤ k := by simpa using h
      exact .ret (.inl ⟨rfl, fun j j0 j1 => hk j (by omega) j1⟩)
  · rintro o (⟨rfl, h⟩ | ⟨k, rfl, h⟩)
    · exact .go (.ret (.inl ⟨rfl, h⟩))
    · exact .out h

def nxt (l : List Int) : Option Int := l.find? (fun x => !(joiL x == 4))
def nextS (r : List Int) (i : Int) : Option Int := nxt (r.drop (i + 1).toNat)
def prevN (r : List Int) : Nat → Option Int
  | 0 => none
  | k + 1 => if J r k = 4 then prevN r k else some (getL 0 r k)
def prevS (r : List Int) (i : Int) : Option Int := prevN r i.toNat
theorem nxt_cons (x : Int) (l : List Int) : nxt (x :: l) = if joiL x = 4 then nxt l else some x := by
  unfold nxt
  rw [List.find?_cons]
  by_cases h : joiL x = 4
  · simp [h]
  · rw [show (!(joiL x == 4)) = true by simp [h], if_neg h]
theorem nxt_drop {r : List Int} {k : Int} (k1 : k < lenL r) (hk : J r k ≠ 4) : ∀ (m : Nat) (a : Int), (k - a).toNat = m → 0 ≤ a → a ≤ k → (∀ j, a ≤ j → j < k → J r j = 4) → nxt (r.drop a.toNat) = some (getL 0 r k) := by
  intro m
  induction m with
  | zero =>
    intro a ha a0 a1 _
    obtain rfl : a = k := by omega
    rw [drop_get 0 a0 k1, nxt_cons, if_neg (show ¬ joiL (getL 0 r a) = 4 from hk)]
  | succ m ih =>
    intro a ha a0 a1 h
    rw [drop_get 0 a0 (by omega), nxt_cons, if_pos (show joiL (getL 0 r a) = 4 from h a (by omega) (by omega))]
    exact ih (a + 1) (by omega) (by omega) (by omega) fun j j0 j1 => h j (by omega) j1
theorem nxt_none {r : List Int} : ∀ (m : Nat) (a : Int), (lenL r - a).toNat = m → 0 ≤ a → a ≤ lenL r → (∀ j, a ≤ j → j < lenL r → J r j = 4) → nxt (r.drop a.toNat) = none := by
  intro m
  induction m with
  | zero =>
    intro a ha a0 a1 _
    rw [drop_end (show ¬ a < lenL r by omega)]; rfl
  | succ m ih =>
    intro a ha a0 a1 h
    rw [drop_get 0 a0 (by omega), nxt_cons, if_pos (show joiL (getL 0 r a) = 4 from h a (by omega) (by omega))]
    exact ih (a + 1) (by omega) (by omega) (by omega) fun j j0 j1 => h j (by omega) j1
theorem isA_next {r : List Int} {i k : Int} (h0 : 0 ≤ i) (h1 : i < lenL r) (h : IsA r i k) : nextS r i = if 0 ≤ k then some (getL 0 r k) else none := by
  rcases h with ⟨rfl, h⟩ | ⟨a, b, c, h⟩
  · rw [if_neg (by omega)]
    exact nxt_none _ _ rfl (by omega) (by omega) fun j j0 j1 => h j (by omega) j1
  · rw [if_pos (by omega)]
    exact nxt_drop b c _ _ rfl (by omega) (by omega) fun j j0 j1 => h j (by omega) j1
theorem prev_some {r : List Int} {k : Int} (k0 : 0 ≤ k) (hk : J r k ≠ 4) : ∀ (m : Nat) (i : Int), (i - k).toNat = m + 1 → (∀ j, k < j → j < i → J r j = 4) → prevN r i.toNat = some (getL 0 r k) := by
  intro m
  induction m with
  | zero =>
    intro i hi _
    obtain rfl : i = k + 1 := by omega
    rw [show (k + 1).toNat = k.toNat + 1 by omega, prevN, show ((k.toNat : Nat) : Int) = k by omega, if_neg hk]
  | succ m ih =>
    intro i hi h
    rw [show i.toNat = (i - 1).toNat + 1 by omega, prevN, show (((i - 1).toNat : Nat) : Int) = i - 1 by omega, if_pos (h (i - 1) (by omega) (by omega))]
    exact ih (i - 1) (by omega) fun j j0 j1 => h j j0 (by omega)
theorem prev_none {r : List Int} : ∀ (m : Nat), (∀ j : Int, 0 ≤ j → j < m → J r j = 4) → prevN r m = none
  | 0, _ => rfl
  | m + 1, h => by
    rw [prevN, if_pos (h m (by omega) (by omega))]
    exact prev_none m fun j j0 j1 => h j j0 (by omega)
theorem isB_prev {r : List Int} {i k : Int} (h0 : 0 ≤ i) (h : IsB r i k) : prevS r i = if 0 ≤ k then some (getL 0 r k) else none := by
  rcases h with ⟨rfl, h⟩ | ⟨a, b, c, h⟩
  · rw [if_neg (by omega)]
    exact prev_none _ fun j j0 j1 => h j j0 (by omega)
  · rw [if_pos a]
    exact prev_some a c (i - k - 1).toNat i (by omega) h
theorem isB_uniq {r : List Int} {i k k' : Int} (h : IsB r i k) (h' : IsB r i k') : k = k' := by
  rcases h with ⟨a, b⟩ | ⟨a, b, c, d⟩ <;> rcases h' with ⟨a', b'⟩ | ⟨a', b', c', d'⟩
  · omega
  · exact absurd (b k' a' b') c'
  · exact absurd (b' k a b) c
  · rcases Int.lt_trichotomy k k' with h | h | h
    · exact absurd (d k' h b') c'
    · exact h
    · exact absurd (d' k h b) c
theorem isA_uniq {r : List Int} {i k k' : Int} (h : IsA r i k) (h' : IsA r i k') : k = k' := by
  rcases h with ⟨a, b⟩ | ⟨a, b, c, d⟩ <;> rcases h' with ⟨a', b'⟩ | ⟨a', b', c', d'⟩
  · omega
  · exact absurd (b k' a' b') c'
  · exact absurd (b' k a b) c
  · rcases Int.lt_trichotomy k k' with h | h | h
    · exact absurd (d' k a h) c
    · exact h
    · exact absurd (d k' a' h) c'
theorem isA_isB {r : List Int} {i k : Int} (h0 : 0 ≤ i) (hi : J r i ≠ 4) (hk : 0 ≤ k) (h : IsA r i k) : IsB r k i := by
  rcases h with ⟨a, b⟩ | ⟨a, b, c, d⟩
  · omega
  · exact .inr ⟨h0, a, hi, d⟩
theorem isB_isA {r : List Int} {i k : Int} (h1 : i < lenL r) (hi : J r i ≠ 4) (hk : 0 ≤ k) (h : IsB r i k) : IsA r k i := by
  rcases h with ⟨a, b⟩ | ⟨a, b, c, d⟩
  · omega
  · exact .inr ⟨b, h1, hi, d⟩

/-! Forms. -/
def fstF (x : Int) (p : Option Int) : Bool := jA (joiL x) && (match p with | some y => jB (joiL y) | none => false)
def sndF (x : Int) (s : Option Int) : Bool := jB (joiL x) && (match s with | some y => jA (joiL y) | none => false)
def frmV (a b : Bool) : Int := if (if a = true then b else false) = true then 3 else if a = true then 1 else if b = true then 2 else 0
theorem forms1 {r : List Int} {at' : Int} (side : Int) (h1 : at' < lenL r) : shape_Forms_1 at' side sidesL dLoad r = some (decide (0 ≤ at') && !(bndI .i64 (mgetI sidesL (J r at')) side == 0)) := by
  unfold shape_Forms_1
  by_cases h : 0 ≤ at'
  · rw [chk_ok (fun _ => ⟨h, h1⟩), decide_eq_true h, if_pos rfl, join_L, bindO_eq]; rfl
  · rw [chk_ok (fun h' => absurd (of_decide_eq_true h') h), decide_eq_false h]; rfl
theorem lem_before {r : List Int} {i : Int} (h0 : 0 ≤ i) (h1 : i < lenL r) (hb : lenL r ≤ 100000) (c : Bool) : Yields (if c = true then shape_Before dLoad r i else some 0) (fun k => c = true → IsB r i k) := by
  cases c
  · exact .ret (fun h => by cases h)
  · exact (before_spec h0 h1 hb).mono fun k h _ => h
theorem lem_after {r : List Int} {i : Int} (h0 : 0 ≤ i) (h1 : i < lenL r) (hb : lenL r ≤ 100000) (c : Bool) : Yields (if c = true then shape_After dLoad r i else some 0) (fun k => c = true → IsA r i k) := by
  cases c
  · exact .ret (fun h => by cases h)
  · exact (after_spec h0 h1 hb).mono fun k h _ => h
theorem lem_fst {r : List Int} {i k : Int} (h0 : 0 ≤ i) (h1 : i < lenL r) (h : jA (J r i) = true → IsB r i k) : Yields (if jA (J r i) = true then shape_Forms_1 k 2 sidesL dLoad r else some false) (fun v => (if jA (J r i) = true then v else false) = fstF (getL 0 r i) (prevS r i)) := by
  by_cases hc : jA (J r i) = true
  · have hB := h hc
    have hk : k < lenL r := by rcases hB with ⟨a, _⟩ | ⟨_, b, _⟩ <;> omega
    rw [if_pos hc, forms1 2 hk]
    refine .ret ?_
    rw [if_pos hc, side_B, isB_prev h0 hB]
    unfold fstF
    rw [show jA (joiL (getL 0 r i)) = true from hc]
    by_cases hk0 : 0 ≤ k
    · simp [hk0, J]
    · simp [hk0]
  · rw [if_neg hc]
    refine .ret ?_
    rw [if_neg hc]
    unfold fstF
    rw [show jA (joiL (getL 0 r i)) = false by simpa [J] using hc]; rfl
theorem lem_snd {r : List Int} {i k : Int} (h0 : 0 ≤ i) (h1 : i < lenL r) (h : jB (J r i) = true → IsA r i k) : Yields (if jB (J r i) = true then shape_Forms_1 k 1 sidesL dLoad r else some false) (fun v => (if jB (J r i) = true then v else false) = sndF (getL 0 r i) (nextS r i)) := by
  by_cases hc : jB (J r i) = true
  · have hB := h hc
    have hk : k < lenL r := by rcases hB with ⟨a, _⟩ | ⟨_, b, _⟩ <;> omega
    rw [if_pos hc, forms1 1 hk]
    refine .ret ?_
    rw [if_pos hc, side_A, isA_next h0 h1 hB]
    unfold sndF
    rw [show jB (joiL (getL 0 r i)) = true from hc]
    by_cases hk0 : 0 ≤ k
    · simp [hk0, J]
    · simp [hk0]
  · rw [if_neg hc]
    refine .ret ?_
    rw [if_neg hc]
    unfold sndF
    rw [show jB (joiL (getL 0 r i)) = false by simpa [J] using hc]; rfl
def frmAt (r : List Int) (i : Int) : Int := frmV (fstF (getL 0 r i) (prevS r i)) (sndF (getL 0 r i) (nextS r i))
theorem forms_spec {r : List Int} (hb : lenL r ≤ 100000) : Yields (shape_Forms dLoad r) (fun f => lenL f = lenL r ∧ ∀ k, 0 ≤ k → k < lenL r → getL 0 f k = frmAt r k) := by
  have hn := lenL_nn r
  unfold shape_Forms
  rw [show shape_sides = some sidesL from rfl, bindO_eq]
  refine .chk (mkOk hn (by omega) (by omega)) ?_
  refine .cut (fun o => ∃ f, o = .go f ∧ lenL f = lenL r ∧ ∀ k, 0 ≤ k → k < lenL r → getL 0 f k = frmAt r k) ?_ ?_
  · refine .loop (fun x => 0 ≤ x.1 ∧ x.1 ≤ lenL r ∧ lenL x.2 = lenL r ∧ ∀ k, 0 ≤ k → k < x.1 → getL 0 x.2 k = frmAt r k) (fun x => (lenL r - x.1).toNat) ⟨by dsimp only; omega, hn, lenL_rep _ hn, fun k _ _ => by dsimp only at *; omega⟩ ?_
    rintro ⟨i, f⟩ ⟨i0, i1, hf, hg⟩
    dsimp only at i0 i1 hf hg ⊢
    refine .ite (fun h => ?_) (fun h => ?_)
    · have h : i < lenL r := by simpa using h
      have hA : shape_Forms_1 i 1 sidesL dLoad r = some (jA (J r i)) := by rw [forms1 1 h, side_A]; simp [i0]
      have hB : shape_Forms_1 i 2 sidesL dLoad r = some (jB (J r i)) := by rw [forms1 2 h, side_B]; simp [i0]
      refine .call hA (.bind _ (lem_before i0 h hb _) fun v3 h3 => .bind _ (lem_fst i0 h h3) fun v4 h4 => ?_)
      try dsimp only
      rw [h4]
      refine .call hB (.bind _ (lem_after i0 h hb _) fun v6 h6 => .bind _ (lem_snd i0 h h6) fun v7 h7 => ?_)
      try dsimp only
      rw [h7]
      have hstep : ∀ w, w = frmAt r i → Yields (chk (0 ≤ i ∧ i < lenL r) (chk (inR .i64 (i + 1)) (some (Fl.go (i + 1, setL f i w))))) (StepP (fun x : Int × List Int => 0 ≤ x.1 ∧ x.1 ≤ lenL r ∧ lenL x.2 = lenL r ∧ ∀ k, 0 ≤ k → k < x.1 → getL 0 x.2 k = frmAt r k) (fun x => (lenL r - x.1).toNat) (fun o : Fl (List Int) (List Int) => ∃ f, o = .go f ∧ lenL f = lenL r ∧ ∀ k, 0 ≤ k → k < lenL r → getL 0 f k = frmAt r k) (i, f)) := by
        rintro w hw
        refine .chk ⟨i0, h⟩ (.chk (inR64 (by omega) (by omega)) (.ret ⟨⟨by dsimp only; omega, by dsimp only; omega, by simp [hf], fun k k0 k1 => ?_⟩, by dsimp only; omega⟩))
        dsimp only at k1 ⊢
        rw [getL_put i0 k0 (by omega)]
        by_cases hk : k = i
        · subst hk; rw [if_pos rfl]; exact hw
        · rw [if_neg hk]; exact hg k k0 (by omega)
      have hfr : frmAt r i = frmV (fstF (getL 0 r i) (prevS r i)) (sndF (getL 0 r i) (nextS r i)) := rfl
      generalize fstF (getL 0 r i) (prevS r i) = a at hfr ⊢
      generalize sndF (getL 0 r i) (nextS r i) = b at hfr ⊢
      refine .ite (fun h1 => ?_) (fun h1 => .ite (fun h2 => ?_) (fun h2 => .ite (fun h3 => ?_) (fun h3 => ?_)))
      · exact hstep 3 (by rw [hfr]; unfold frmV; rw [if_pos h1])
      · exact hstep 1 (by rw [hfr]; unfold frmV; rw [if_neg (by rw [h1]; simp), if_pos h2])
      · exact hstep 2 (by rw [hfr]; unfold frmV; rw [if_neg (by rw [h1]; simp), if_neg (by rw [h2]; simp), if_pos h3])
      · exact hstep 0 (by rw [hfr]; unfold frmV; rw [if_neg (by rw [h1]; simp), if_neg (by rw [h2]; simp), if_neg (by rw [h3]; simp)])
    · have h : ¬ i < lenL r := by simpa using h
      exact .ret ⟨f, rfl, hf, fun k k0 k1 => hg k k0 (by omega)⟩
  · rintro o ⟨f, rfl, h⟩
    exact .go (.ret h)
end Go.Vx
