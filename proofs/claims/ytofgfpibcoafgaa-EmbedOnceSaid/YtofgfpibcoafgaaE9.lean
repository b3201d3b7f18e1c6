/- Part of a proof; no conditions of its own. -/
import Derived.Test.YtofgfpibcoafgaaE8
set_option linter.all false
namespace Go.Vx
set_option maxRecDepth 100000

inductive Reach (bh : List Int) (a : Int) : Int → Prop
  | here : Reach bh a a
  | next {k : Int} : Reach bh a k → 0 ≤ getL 0 bh k → Reach bh a (getL 0 bh k)
theorem Reach.front {bh : List Int} {a k : Int} (h : Reach bh a k) : k = a ∨ (0 ≤ getL 0 bh a ∧ Reach bh (getL 0 bh a) k) := by
  induction h with
  | here => exact .inl rfl
  | next h1 h2 ih =>
    rcases ih with rfl | ⟨h3, h4⟩
    · exact .inr ⟨h2, .here⟩
    · exact .inr ⟨h3, .next h4 h2⟩

/-- Which run stands behind which. -/
structure BP (L : List Int) (rs : List (List Int)) (bh : List Int) (jo : List Bool) : Prop where
  b1 : ∀ k, 0 ≤ k → k < lenL rs → getL 0 bh k = -1 ∨ (k < getL 0 bh k ∧ getL 0 bh k < lenL rs ∧ getL false jo (getL 0 bh k) = true ∧ getL 0 L (getL 0 (getL [] rs (getL 0 bh k)) 0) = getL 0 L (getL 0 (getL [] rs k) 0))
  b2 : ∀ t, 0 ≤ t → t < lenL rs → getL false jo t = true → ∃ k, 0 ≤ k ∧ k < lenL rs ∧ getL 0 bh k = t
  b3 : ∀ k k', 0 ≤ k → k < lenL rs → 0 ≤ k' → k' < lenL rs → 0 ≤ getL 0 bh k → getL 0 bh k = getL 0 bh k' → k = k'

section
variable {L : List Int} {rs : List (List Int)} {bh : List Int} {jo : List Bool}
theorem BP.reach (B : BP L rs bh jo) {a k : Int} (a0 : 0 ≤ a) (a1 : a < lenL rs) (h : Reach bh a k) : a ≤ k ∧ k < lenL rs := by
  induction h with
  | here => omega
  | next h1 h2 ih =>
    rcases B.b1 _ (by omega) ih.2 with h | ⟨h3, h4, _⟩
    · omega
    · omega
theorem BP.root (B : BP L rs bh jo) {a a' k : Int} (a0 : 0 ≤ a) (a1 : a < lenL rs) (ha : getL false jo a = false) (a0' : 0 ≤ a') (a1' : a' < lenL rs) (ha' : getL false jo a' = false) (h : Reach bh a k) (h' : Reach bh a' k) : a = a' := by
  induction h with
  | here =>
    cases h' with
    | here => rfl
    | next h1 h2 =>
      have hr := B.reach a0' a1' h1
      rcases B.b1 _ (by omega) hr.2 with h | ⟨_, _, h5, _⟩
      · omega
      · rw [ha] at h5; cases h5
  | @next k1 h1 h2 ih =>
    have hr := B.reach a0 a1 h1
    generalize ht : getL 0 bh k1 = t at h'
    cases h' with
    | here =>
      rcases B.b1 _ (by omega) hr.2 with h | ⟨_, _, h5, _⟩
      · omega
      · rw [ht, ha'] at h5; cases h5
    | @next k2 h3 h4 =>
      have hr' := B.reach a0' a1' h3
      have := B.b3 k1 k2 (by omega) hr.2 (by omega) hr'.2 h2 ht
      subst this
      exact ih h3
theorem BP.total (B : BP L rs bh jo) : ∀ n : Nat, ∀ k : Int, 0 ≤ k → k < n → k < lenL rs → ∃ a : Int, 0 ≤ a ∧ a ≤ k ∧ getL false jo a = false ∧ Reach bh a k := by
  intro n
  induction n with
  | zero => intro k k0 k1; omega
  | succ n ih =>
    intro k k0 k1 k2
    cases hj : getL false jo k with
    | false => exact ⟨k, k0, by omega, hj, .here⟩
    | true =>
      obtain ⟨k', h0, h1, rfl⟩ := B.b2 k k0 k2 hj
      rcases B.b1 k' h0 h1 with h | ⟨h3, _⟩
      · omega
      · obtain ⟨a, a0, a1, a2, a3⟩ := ih k' h0 (by omega) h1
        exact ⟨a, a0, by omega, a2, .next a3 k0⟩
end

/-- A strictly rising list within [0, n) is not longer than n. -/
theorem inc_len {S : List Int} {n : Int} (h : ∀ j j', 0 ≤ j → j < j' → j' < lenL S → getL 0 S j < getL 0 S j') (h0 : ∀ j, 0 ≤ j → j < lenL S → 0 ≤ getL 0 S j ∧ getL 0 S j < n) (n0 : 0 ≤ n) : lenL S ≤ n := by
  have hj : ∀ m : Nat, (m : Int) < lenL S → (m : Int) ≤ getL 0 S m := fun m => by
    induction m with
    | zero => intro h1; exact (h0 0 (by omega) (by omega)).1
    | succ m ih =>
      intro h1
      have e : ((m + 1 : Nat) : Int) = (m : Int) + 1 := by omega
      rw [e] at h1 ⊢
      have := h m (m + 1) (by omega) (by omega) (by omega)
      have := ih (by omega)
      omega
  by_cases hp : 0 < lenL S
  · have h1 := hj (lenL S - 1).toNat (by omega)
    have h2 := (h0 (lenL S - 1) (by omega) (by omega)).2
    have e : ((lenL S - 1).toNat : Int) = lenL S - 1 := by omega
    rw [e] at h1
    omega
  · omega

/-- The letters of a root's chain. -/
structure SeqOf (L : List Int) (rs : List (List Int)) (bh : List Int) (a : Int) (S : List Int) : Prop where
  ne : 0 < lenL S
  hd : getL 0 S 0 = getL 0 (getL [] rs a) 0
  inc : ∀ j j', 0 ≤ j → j < j' → j' < lenL S → getL 0 S j < getL 0 S j'
  lev : ∀ j, 0 ≤ j → j < lenL S → getL 0 L (getL 0 S j) = getL 0 L (getL 0 (getL [] rs a) 0)
  el : ∀ j, 0 ≤ j → j < lenL S → ∃ k q, Reach bh a k ∧ 0 ≤ k ∧ k < lenL rs ∧ 0 ≤ q ∧ q < lenL (getL [] rs k) ∧ getL 0 S j = getL 0 (getL [] rs k) q
  cov : ∀ k, Reach bh a k → ∀ q, 0 ≤ q → q < lenL (getL [] rs k) → ∃ j, 0 ≤ j ∧ j < lenL S ∧ getL 0 S j = getL 0 (getL [] rs k) q

/-- What the law needs of the sequences. -/
structure SeqsP (L : List Int) (R : List Bool) (n : Int) (out : List (List Int)) : Prop where
  s1 : ∀ i, 0 ≤ i → i < lenL out → 0 < lenL (getL [] out i) ∧ lenL (getL [] out i) ≤ n
  s2 : ∀ i i', 0 ≤ i → i < i' → i' < lenL out → getL 0 (getL [] out i) 0 < getL 0 (getL [] out i') 0
  s3 : ∀ i j, 0 ≤ i → i < lenL out → 0 ≤ j → j < lenL (getL [] out i) → 0 ≤ getL 0 (getL [] out i) j ∧ getL 0 (getL [] out i) j < n ∧ getL false R (getL 0 (getL [] out i) j) = false ∧ getL 0 L (getL 0 (getL [] out i) j) = getL 0 L (getL 0 (getL [] out i) 0)
  s4 : ∀ i j j', 0 ≤ i → i < lenL out → 0 ≤ j → j < j' → j' < lenL (getL [] out i) → getL 0 (getL [] out i) j < getL 0 (getL [] out i) j'
  s5 : ∀ i j i' j', 0 ≤ i → i < lenL out → 0 ≤ j → j < lenL (getL [] out i) → 0 ≤ i' → i' < lenL out → 0 ≤ j' → j' < lenL (getL [] out i') → getL 0 (getL [] out i) j = getL 0 (getL [] out i') j' → i = i' ∧ j = j'
  s6 : ∀ x, 0 ≤ x → x < n → getL false R x = false → ∃ i j, 0 ≤ i ∧ i < lenL out ∧ 0 ≤ j ∧ j < lenL (getL [] out i) ∧ getL 0 (getL [] out i) j = x
  s7 : lenL out ≤ n

/-- The outer loop of Sequences: the roots below v have their sequences. -/
structure OutI (L : List Int) (rs : List (List Int)) (bh : List Int) (jo : List Bool) (v : Int) (out : List (List Int)) (A : List Int) : Prop where
  ln : lenL A = lenL out
  lv : lenL out ≤ v
  rt : ∀ i, 0 ≤ i → i < lenL out → 0 ≤ getL 0 A i ∧ getL 0 A i < v ∧ getL false jo (getL 0 A i) = false ∧ SeqOf L rs bh (getL 0 A i) (getL [] out i)
  inc : ∀ i i', 0 ≤ i → i < i' → i' < lenL out → getL 0 A i < getL 0 A i'
  cov : ∀ a, 0 ≤ a → a < v → getL false jo a = false → ∃ i, 0 ≤ i ∧ i < lenL out ∧ getL 0 A i = a

theorem OutI.fin {L : List Int} {R : List Bool} {n : Int} {rs : List (List Int)} {bh : List Int} {jo : List Bool} {out : List (List Int)} {A : List Int} (n0 : 0 ≤ n) (H : RunsS L R n rs) (B : BP L rs bh jo) (O : OutI L rs bh jo (lenL rs) out A) : SeqsP L R n out := by
  have huq : ∀ k q k' q', 0 ≤ k → k < lenL rs → 0 ≤ q → q < lenL (getL [] rs k) → 0 ≤ k' → k' < lenL rs → 0 ≤ q' → q' < lenL (getL [] rs k') → getL 0 (getL [] rs k) q = getL 0 (getL [] rs k') q' → k = k' := by
    intro k q k' q' k0 k1 q0 q1 k0' k1' q0' q1' he
    by_cases h1 : k < k'
    · have := H.ord k k' q q' k0 h1 k1' q0 q1 q0' q1'; omega
    · by_cases h2 : k' < k
      · have := H.ord k' k q' q k0' h2 k1 q0' q1' q0 q1; omega
      · omega
  have h3 : ∀ i j, 0 ≤ i → i < lenL out → 0 ≤ j → j < lenL (getL [] out i) → 0 ≤ getL 0 (getL [] out i) j ∧ getL 0 (getL [] out i) j < n ∧ getL false R (getL 0 (getL [] out i) j) = false := by
    intro i j i0 i1 j0 j1
    obtain ⟨_, _, _, S⟩ := O.rt i i0 i1
    obtain ⟨k, q, _, k0, k1, q0, q1, e⟩ := S.el j j0 j1
    rw [e]
    exact H.rng k q k0 k1 q0 q1
  refine ⟨fun i i0 i1 => ?_, fun i i' i0 i1 i2 => ?_, fun i j i0 i1 j0 j1 => ?_, fun i j j' i0 i1 j0 j1 j2 => ?_, fun i j i' j' i0 i1 j0 j1 i0' i1' j0' j1' he => ?_, fun x x0 x1 hx => ?_, by have := O.lv; have := H.ln; omega⟩
  · obtain ⟨_, _, _, S⟩ := O.rt i i0 i1
    exact ⟨S.ne, inc_len S.inc (fun j j0 j1 => ⟨(h3 i j i0 i1 j0 j1).1, (h3 i j i0 i1 j0 j1).2.1⟩) n0⟩
  · obtain ⟨a0, a1, _, S⟩ := O.rt i i0 (by omega)
    obtain ⟨a0', a1', _, S'⟩ := O.rt i' (by omega) i2
    rw [S.hd, S'.hd]
    exact H.ord _ _ 0 0 a0 (O.inc i i' i0 i1 i2) a1' (by omega) (H.lk _ a0 a1).1 (by omega) (H.lk _ a0' a1').1
  · obtain ⟨x, y, z⟩ := h3 i j i0 i1 j0 j1
    obtain ⟨_, _, _, S⟩ := O.rt i i0 i1
    exact ⟨x, y, z, by rw [S.lev j j0 j1, S.hd]⟩
  · obtain ⟨_, _, _, S⟩ := O.rt i i0 i1
    exact S.inc j j' j0 j1 j2
  · obtain ⟨a0, a1, a2, S⟩ := O.rt i i0 i1
    obtain ⟨a0', a1', a2', S'⟩ := O.rt i' i0' i1'
    obtain ⟨k, q, r1, k0, k1, q0, q1, e⟩ := S.el j j0 j1
    obtain ⟨k', q', r1', k0', k1', q0', q1', e'⟩ := S'.el j' j0' j1'
    have := huq k q k' q' k0 k1 q0 q1 k0' k1' q0' q1' (by rw [← e, ← e', he])
    subst this
    have ha := B.root a0 a1 a2 a0' a1' a2' r1 r1'
    have hii : i = i' := by
      by_cases h1 : i < i'
      · have := O.inc i i' i0 h1 i1'; omega
      · by_cases h2 : i' < i
        · have := O.inc i' i i0' h2 i1; omega
        · omega
    subst hii
    refine ⟨rfl, ?_⟩
    by_cases h1 : j < j'
    · have := S.inc j j' j0 h1 j1'; omega
    · by_cases h2 : j' < j
      · have := S.inc j' j j0' h2 j1; omega
      · omega
  · obtain ⟨k, q, k0, k1, q0, q1, e⟩ := H.cov x x0 x1 hx
    obtain ⟨a, a0, a1, a2, a3⟩ := B.total (k + 1).toNat k k0 (by omega) k1
    obtain ⟨i, i0, i1, hi⟩ := O.cov a a0 (by omega) a2
    obtain ⟨_, _, _, S⟩ := O.rt i i0 i1
    obtain ⟨j, j0, j1, ej⟩ := S.cov k (by rw [hi]; exact a3) q q0 q1
    exact ⟨i, j, i0, i1, j0, j1, by rw [ej, e]⟩

/-- The inner loop: the chain of a root. -/
theorem chain_yields {L : List Int} {R : List Bool} {n : Int} {rs : List (List Int)} {bh : List Int} {jo : List Bool} {γ : Type} (n0 : 0 ≤ n) (hn2 : n ≤ 100000) (H : RunsS L R n rs) (B : BP L rs bh jo) {a : Int} (a0 : 0 ≤ a) (a1 : a < lenL rs) :
    Yields (loopO (fun ((at', seq1) : Int × List Int) =>
                         iteO (decide (0 ≤ at'))
                           (chk (0 ≤ at' ∧ at' < (lenL rs)) <|
                            chk (growOk 8 ((lenL seq1) + (lenL (getL [] rs (0 + at'))))) <|
                            chk (0 ≤ at' ∧ at' < (lenL rs)) <|
                            let at'1 := (getL 0 bh (0 + at'))
                            some (.go (at'1, (seq1 ++ (getL [] rs (0 + at'))))))
                           (some (.out (Fl.go (γ := γ) seq1)))) (a, ([] : List Int))) (fun r => ∃ S, r = .go S ∧ SeqOf L rs bh a S) := by
  refine .loop (fun x => (x.1 = -1 ∨ (a ≤ x.1 ∧ x.1 < lenL rs ∧ Reach bh a x.1 ∧ getL 0 L (getL 0 (getL [] rs x.1) 0) = getL 0 L (getL 0 (getL [] rs a) 0)))
      ∧ (x.1 = a ∧ x.2 = [] ∨ x.1 ≠ a ∧ 0 < lenL x.2 ∧ getL 0 x.2 0 = getL 0 (getL [] rs a) 0)
      ∧ (∀ j j', 0 ≤ j → j < j' → j' < lenL x.2 → getL 0 x.2 j < getL 0 x.2 j')
      ∧ (∀ j, 0 ≤ j → j < lenL x.2 → getL 0 L (getL 0 x.2 j) = getL 0 L (getL 0 (getL [] rs a) 0) ∧ ∃ k q, Reach bh a k ∧ 0 ≤ k ∧ k < lenL rs ∧ (x.1 = -1 ∨ k < x.1) ∧ 0 ≤ q ∧ q < lenL (getL [] rs k) ∧ getL 0 x.2 j = getL 0 (getL [] rs k) q)
      ∧ (∀ k, Reach bh a k → (0 ≤ x.1 ∧ Reach bh x.1 k) ∨ ∀ q, 0 ≤ q → q < lenL (getL [] rs k) → ∃ j, 0 ≤ j ∧ j < lenL x.2 ∧ getL 0 x.2 j = getL 0 (getL [] rs k) q))
    (fun x => if x.1 = -1 then 0 else (lenL rs - x.1).toNat)
    ⟨.inr ⟨by simp only; omega, a1, .here, rfl⟩, .inl ⟨rfl, rfl⟩, fun j j' j0 j1 j2 => by simp at j2; omega, fun j j0 j1 => by simp at j1; omega, fun k hk => .inl ⟨a0, hk⟩⟩ ?_
  rintro ⟨t, s⟩ ⟨h1, h2, h3, h4, h5⟩
  simp only at h1 h2 h3 h4 h5 ⊢
  have sn := lenL_nn s
  refine .ite (fun h => ?_) (fun h => ?_)
  · have h : 0 ≤ t := by simpa using h
    rcases h1 with h1 | ⟨t0, t1, t2, t3⟩
    · omega
    simp only [Int.zero_add]
    have hk := H.lk t h t1
    have hrng : ∀ j, 0 ≤ j → j < lenL s → 0 ≤ getL 0 s j ∧ getL 0 s j < n := fun j j0 j1 => by
      obtain ⟨_, k, q, _, k0, k1, _, q0, q1, e⟩ := h4 j j0 j1
      rw [e]
      obtain ⟨x, y, _⟩ := H.rng k q k0 k1 q0 q1
      exact ⟨x, y⟩
    have hsl := inc_len h3 hrng n0
    have hcase : ∀ j, 0 ≤ j → j < lenL s + lenL (getL [] rs t) → (j < lenL s ∧ getL 0 (s ++ getL [] rs t) j = getL 0 s j) ∨ (lenL s ≤ j ∧ getL 0 (s ++ getL [] rs t) j = getL 0 (getL [] rs t) (j - lenL s)) := fun j j0 j1 => by
      rw [getL_app j0]
      by_cases e : j < lenL s
      · rw [if_pos e]; exact .inl ⟨e, rfl⟩
      · rw [if_neg e]; exact .inr ⟨by omega, rfl⟩
    have hlen : lenL (s ++ getL [] rs t) = lenL s + lenL (getL [] rs t) := by simp
    refine .chk ⟨h, t1⟩ (.chk (grOk (by omega) (by omega) (by omega)) (.chk ⟨h, t1⟩ (.ret ⟨⟨?_, ?_, fun j j' j0 j1 j2 => ?_, fun j j0 j1 => ?_, fun k hkr => ?_⟩, ?_⟩)))
    · rcases B.b1 t h t1 with hb | ⟨b1, b2, b3, b4⟩
      · exact .inl hb
      · exact .inr ⟨by simp only; omega, b2, .next t2 (by omega), by simp only; rw [b4, t3]⟩
    · right
      refine ⟨?_, by simp only; omega, ?_⟩
      · rcases B.b1 t h t1 with hb | ⟨b1, b2, b3, b4⟩ <;> simp only <;> omega
      · simp only
        rcases h2 with ⟨e1, e2⟩ | ⟨_, e2, e3⟩
        · rw [e2, e1]; rfl
        · rw [getL_app (by omega), if_pos e2]; exact e3
    · simp only at j2 ⊢
      rw [hlen] at j2
      rcases hcase j j0 (by omega) with ⟨c1, c2⟩ | ⟨c1, c2⟩
      · rw [c2]
        rcases hcase j' (by omega) j2 with ⟨d1, d2⟩ | ⟨d1, d2⟩ <;> rw [d2]
        · exact h3 j j' j0 j1 d1
        · obtain ⟨_, k, q, _, k0, k1, kt, q0, q1, e⟩ := h4 j j0 c1
          rw [e]
          exact H.ord k t q (j' - lenL s) k0 (by omega) t1 q0 q1 (by omega) (by omega)
      · rw [c2]
        rcases hcase j' (by omega) j2 with ⟨d1, d2⟩ | ⟨d1, d2⟩
        · omega
        · rw [d2]
          exact H.inc t _ _ h t1 (by omega) (by omega) (by omega)
    · simp only at j1 ⊢
      rw [hlen] at j1
      rcases hcase j j0 j1 with ⟨c1, c2⟩ | ⟨c1, c2⟩ <;> rw [c2]
      · obtain ⟨l1, k, q, r, k0, k1, kt, q0, q1, e⟩ := h4 j j0 c1
        refine ⟨l1, k, q, r, k0, k1, ?_, q0, q1, e⟩
        rcases B.b1 t h t1 with hb | ⟨b1, b2, b3, b4⟩ <;> omega
      · refine ⟨by rw [H.lev t _ h t1 (by omega) (by omega), t3], t, j - lenL s, t2, h, t1, ?_, by omega, by omega, rfl⟩
        rcases B.b1 t h t1 with hb | ⟨b1, b2, b3, b4⟩ <;> omega
    · simp only
      have done : ∀ q, 0 ≤ q → q < lenL (getL [] rs t) → ∃ j, 0 ≤ j ∧ j < lenL (s ++ getL [] rs t) ∧ getL 0 (s ++ getL [] rs t) j = getL 0 (getL [] rs t) q := fun q q0 q1 => by
        refine ⟨lenL s + q, by omega, by rw [hlen]; omega, ?_⟩
        rw [getL_app (by omega), if_neg (by omega)]
        have e : lenL s + q - lenL s = q := by omega
        rw [e]
      rcases h5 k hkr with ⟨_, hr⟩ | hd
      · rcases hr.front with rfl | ⟨f1, f2⟩
        · exact .inr done
        · exact .inl ⟨f1, f2⟩
      · refine .inr fun q q0 q1 => ?_
        obtain ⟨j, j0, j1, e⟩ := hd q q0 q1
        exact ⟨j, j0, by rw [hlen]; omega, by rw [getL_app j0, if_pos j1]; exact e⟩
    · simp only
      rw [if_neg (show ¬ t = -1 by omega)]
      rcases B.b1 t h t1 with hb | ⟨b1, b2, b3, b4⟩
      · rw [if_pos hb]; omega
      · split <;> omega
  · have h : t < 0 := by simpa using h
    have ht : t = -1 := by
      rcases h1 with h1 | ⟨t0, _⟩ <;> omega
    refine .ret ⟨s, rfl, ?_⟩
    rcases h2 with ⟨e1, _⟩ | ⟨_, e2, e3⟩
    · omega
    · exact ⟨e2, e3, h3, fun j j0 j1 => (h4 j j0 j1).1, fun j j0 j1 => by
        obtain ⟨_, k, q, r, k0, k1, _, q0, q1, e⟩ := h4 j j0 j1
        exact ⟨k, q, r, k0, k1, q0, q1, e⟩, fun k hk => by
        rcases h5 k hk with ⟨h6, _⟩ | h6
        · omega
        · exact h6⟩
end Go.Vx
