/- The laws of the tables hold of the lifted functions. No conditions. -/
import Derived.Test.YtigfggfbpdhmfaaDoorUA
set_option linter.all false
namespace Go.Vx
set_option maxRecDepth 100000
theorem bindO_eq {β γ : Type} (x : β) (k : β → Option γ) : bindO (some x) k = k x := rfl
theorem bindO_gif {β γ : Type} (c : Bool) (x y : β) (k : β → Option γ) : bindO (if c = true then some x else some y) k = k (if c = true then x else y) := by cases c <;> rfl
theorem iteO_false {α : Type} (x y : Option α) : iteO false x y = y := rfl
theorem iteO_true {α : Type} (x y : Option α) : iteO true x y = x := rfl
theorem bnd_mask (x : Int) (k : Nat) (hk : k < 63) : bndI .i64 x ((2 ^ k - 1 : Nat) : Int) = x % (2 ^ k : Nat) := by
  unfold bndI
  have hb : IntKind.bits .i64 = 64 := rfl
  rw [hb]
  have hm : BitVec.ofInt 64 ((2 ^ k - 1 : Nat) : Int) = BitVec.ofNat 64 (2 ^ k - 1) := by
    apply BitVec.eq_of_toNat_eq
    simp
  rw [hm, BitVec.toNat_and, BitVec.toNat_ofNat]
  have hp : 2 ^ k < 2 ^ 63 := Nat.pow_lt_pow_right (by omega) hk
  have hp0 : 0 < 2 ^ k := Nat.two_pow_pos k
  rw [Nat.mod_eq_of_lt (show 2 ^ k - 1 < 2 ^ 64 by omega), Nat.and_two_pow_sub_one_eq_mod, BitVec.toNat_ofInt]
  have h1 : ((x % ((2 ^ 64 : Nat) : Int)).toNat % 2 ^ k : Nat) = (x % ((2 ^ k : Nat) : Int)).toNat := by
    have hd : ((2 ^ k : Nat) : Int) ∣ ((2 ^ 64 : Nat) : Int) := Int.ofNat_dvd.2 (Nat.pow_dvd_pow 2 (by omega))
    have e1 : 0 ≤ x % ((2 ^ 64 : Nat) : Int) := Int.emod_nonneg _ (by decide)
    have e2 : 0 ≤ x % ((2 ^ k : Nat) : Int) := Int.emod_nonneg _ (by omega)
    have e3 : (x % ((2 ^ 64 : Nat) : Int)) % ((2 ^ k : Nat) : Int) = x % ((2 ^ k : Nat) : Int) := Int.emod_emod_of_dvd _ hd
    have : (((x % ((2 ^ 64 : Nat) : Int)).toNat % 2 ^ k : Nat) : Int) = ((x % ((2 ^ k : Nat) : Int)).toNat : Int) := by
      rw [Int.natCast_emod, Int.toNat_of_nonneg e1, e3, Int.toNat_of_nonneg e2]
    exact_mod_cast this
  rw [h1, Int.toNat_of_nonneg (Int.emod_nonneg _ (by omega))]
  have e2 : 0 ≤ x % ((2 ^ k : Nat) : Int) := Int.emod_nonneg _ (by omega)
  have e3 : x % ((2 ^ k : Nat) : Int) < ((2 ^ k : Nat) : Int) := Int.emod_lt_of_pos _ (by omega)
  generalize x % ((2 ^ k : Nat) : Int) = y at *
  refine wrap_rng .i64 y ?_
  have m1 : IntKind.min .i64 = -9223372036854775808 := by decide
  have m2 : IntKind.max .i64 = 9223372036854775807 := by decide
  omega

/-! Forms. -/
def four : List Int := [0, 1, 2, 3]
theorem mem_four {i : Int} (h0 : 0 ≤ i) (h1 : i ≤ 3) : i ∈ four := by
  have : i = 0 ∨ i = 1 ∨ i = 2 ∨ i = 3 := by omega
  rcases this with rfl | rfl | rfl | rfl <;> simp [four]
theorem shpL_mem (r : Int) : (∀ w, shpL r w = r) ∨ ∃ f ∈ ldForms, f.fR = r ∧ ∀ w, 0 ≤ w → w ≤ 3 → shpL r w = valF f w := by
  rcases frmF_mem ldForms r with h | ⟨f, h1, h2, h3⟩
  · refine .inl fun w => ?_
    unfold shpL shpF
    split
    · rfl
    · exact h w
  · refine .inr ⟨f, h1, h2, fun w w0 w1 => ?_⟩
    unfold shpL shpF
    rw [if_neg (by omega)]
    exact h3 w
theorem forms_apart {a b i j : Int} (i0 : 0 ≤ i) (i1 : i ≤ 3) (j0 : 0 ≤ j) (j1 : j ≤ 3) (hab : a ≠ b) (h : shpL a i = shpL b j) : shpL a i = a ∨ shpL b j = b := by
  rcases shpL_mem a with ha | ⟨f, f1, f2, f3⟩
  · exact .inl (ha i)
  · rcases shpL_mem b with hb | ⟨g, g1, g2, g3⟩
    · exact .inr (hb j)
    · exfalso
      rw [f3 i i0 i1, g3 j j0 j1] at h
      have hk := allI (show ldForms.all (fun f => ldForms.all fun g => f.fR == g.fR || four.all fun i => four.all fun j => !(valF f i == valF g j)) = true by kernel_rfl) f f1
      have hk2 := allI hk g g1
      have hne : (f.fR == g.fR) = false := by
        rw [beq_eq_false_iff_ne, f2, g2]; exact hab
      rw [hne, Bool.false_or] at hk2
      have hk3 := allI (allI hk2 i (mem_four i0 i1)) j (mem_four j0 j1)
      rw [h] at hk3
      simp at hk3
theorem forms_U {a i : Int} (i0 : 0 ≤ i) (i1 : i ≤ 3) (h : joiL a = 0) : shpL a 0 = shpL a i := by
  rcases shpL_mem a with ha | ⟨f, f1, f2, f3⟩
  · rw [ha, ha]
  · have hk := allI (show ldForms.all (fun f => !(joiL f.fR == 0) || four.all fun i => valF f 0 == valF f i) = true by kernel_rfl) f f1
    rw [f2, h] at hk
    have hk2 := allI (show (four.all fun i => valF f 0 == valF f i) = true by simpa using hk) i (mem_four i0 i1)
    rw [f3 0 (by omega) (by omega), f3 i i0 i1]
    simpa using hk2
theorem forms_R {a : Int} (h : joiL a = 1) : shpL a 0 = shpL a 2 ∧ shpL a 1 = shpL a 3 := by
  rcases shpL_mem a with ha | ⟨f, f1, f2, f3⟩
  · rw [ha, ha, ha, ha]; exact ⟨rfl, rfl⟩
  · have hk := allI (show ldForms.all (fun f => !(joiL f.fR == 1) || (valF f 0 == valF f 2 && valF f 1 == valF f 3)) = true by kernel_rfl) f f1
    rw [f2, h] at hk
    rw [f3 0 (by omega) (by omega), f3 1 (by omega) (by omega), f3 2 (by omega) (by omega), f3 3 (by omega) (by omega)]
    simpa using hk
theorem shpL_neg {a w : Int} (h : w < 0) : shpL a w = a := by
  unfold shpL shpF; rw [if_pos (.inl h)]

theorem ucdForms_true (a b i j : Int) : lapwinglaw02_UcdForms a b i j = some true := by
  have hm : ∀ x, bndI .i64 x 3 = x % 4 := fun x => bnd_mask x 2 (by omega)
  have F1 := forms_apart (a := a) (b := b) (i := i % 4) (j := j % 4) (by omega) (by omega) (by omega) (by omega)
  have F2 := forms_U (a := a) (i := i % 4) (by omega) (by omega)
  have F3 := forms_R (a := a)
  have F4 := shpL_neg (a := a) (w := -1 - i % 4) (by omega)
  have hR : inR .i64 (-1 - i % 4) := inR64 (by omega) (by omega)
  unfold lapwinglaw02_UcdForms
  simp only [awake02, load_eq, bindO_eq, shape_L, join_L, bindO_gif, hm]
  rw [F4]
  generalize shpL a (i % 4) = x at *
  generalize shpL b (j % 4) = y at *
  generalize shpL a 0 = s0 at *
  generalize shpL a 1 = s1 at *
  generalize shpL a 2 = s2 at *
  generalize shpL a 3 = s3 at *
  generalize joiL a = q at *
  have hC : (if (if (if (!(a == b)) = true then (x == y) else false) = true then (!(x == a)) else false) = true then (!(y == b)) else false) = false := by
    by_cases h1 : a = b
    · simp [h1]
    by_cases h2 : x = y
    · rcases F1 h1 h2 with h | h <;> simp [h]
    · simp [h2]
  rw [hC, iteO_false, chk_ok (fun _ => hR)]
  by_cases q0 : q = 0
  · have := F2 q0; subst q0; subst this; simp
  · by_cases q1 : q = 1
    · obtain ⟨rfl, rfl⟩ := F3 q1
      subst q1; simp
    · simp [q0, q1]

/-! Mirrors and brackets. -/
def ends (l : List T_ucd_Pair) : List Int := l.flatMap fun p => [p.fA, p.fB]
theorem mem_ends {l : List T_ucd_Pair} {p : T_ucd_Pair} {r : Int} (hp : p ∈ l) (h : r = p.fA ∨ r = p.fB) : r ∈ ends l :=
  List.mem_flatMap.2 ⟨p, hp, by simpa using h⟩
theorem mirL_mirL (r : Int) : mirL (mirL r) = r := by
  rcases mirF_mem ldMirror r with h | ⟨p, h1, h2⟩
  · have h : mirL r = r := h
    rw [h, h]
  · have := allI (show (ends ldMirror).all (fun r => mirL (mirL r) == r) = true by kernel_rfl) r (mem_ends h1 h2)
    simpa using this
theorem braL_mem (r : Int) : braL r = (0, 0) ∨ ((braL r).2 = 1 ∨ (braL r).2 = 2) ∧ (braL (braL r).1).1 = r ∧ (braL r).2 + (braL (braL r).1).2 = 3 ∧ mirL r = (braL r).1 := by
  rcases pairB_mem ldBrackets r with h | ⟨p, h1, h2⟩
  · exact .inl h
  · refine .inr ?_
    have := allI (show (ends ldBrackets).all (fun r => ((braL r).2 == 1 || (braL r).2 == 2) && ((braL (braL r).1).1 == r && ((braL r).2 + (braL (braL r).1).2 == 3 && mirL r == (braL r).1))) = true by kernel_rfl) r
      (mem_ends h1 (h2.imp (fun x => x.1) (fun x => x.1)))
    simpa using this
theorem ucdPairs_true (r : Int) : lapwinglaw02_UcdPairs r = some true := by
  have h0 := mirL_mirL r
  unfold lapwinglaw02_UcdPairs
  simp only [awake02, load_eq, bindO_eq, bracket_L, mirror_L, bindO_gif]
  rcases braL_mem r with h | ⟨h1, h2, h3, h4⟩
  · rw [h]
    rw [chk_ok (fun h => by simp at h)]
    simp [iteO, bindO_gif, h0]
  · have hr : inR .i64 ((braL r).2 + (braL (braL r).1).2) := by rw [h3]; decide
    rw [chk_ok (fun _ => hr), h2, h3, h4]
    simp only [bindO_gif, if_true]
    rw [← h4, h0]
    rcases h1 with h1 | h1 <;> simp [h1, iteO]

/-! Sane. -/
theorem covers {r : Int} {v w : Int} (h : (ldClass.all fun x => !(x.fV == v) || coverR ldWide x.fLo x.fHi w) = true) (hv : getR ldClass r = v) (h0 : v ≠ 0) : getR ldWide r = w := by
  rcases getR_mem ldClass r with h1 | ⟨x, h1, h2, h3, h4⟩
  · exact absurd (hv ▸ h1) h0
  · have := allI h x h1
    rw [← h2, hv] at this
    exact coverR_ok (by simpa using this) r h3 h4
theorem coversJ {r : Int} {v w : Int} (h : (ldJoin.all fun x => !(x.fV == v) || coverR ldWide x.fLo x.fHi w) = true) (hv : getR ldJoin r = v) (h0 : v ≠ 0) : getR ldWide r = w := by
  rcases getR_mem ldJoin r with h1 | ⟨x, h1, h2, h3, h4⟩
  · exact absurd (hv ▸ h1) h0
  · have := allI h x h1
    rw [← h2, hv] at this
    exact coverR_ok (by simpa using this) r h3 h4
theorem clsL_bd (r : Int) : 1 ≤ clsL r ∧ clsL r ≤ 23 := by
  unfold clsL
  rcases getR_mem ldClass r with h1 | ⟨x, h1, h2, _⟩
  · rw [h1]; decide
  · have := allI (show ldClass.all (fun x => decide (1 ≤ x.fV) && decide (x.fV ≤ 23)) = true by kernel_rfl) x h1
    have : 1 ≤ x.fV ∧ x.fV ≤ 23 := by simpa using this
    rw [if_pos (by omega)]; omega
theorem widL_bd (r : Int) : 0 ≤ widL r ∧ widL r ≤ 2 := by
  unfold widL
  rcases getR_mem ldWide r with h1 | ⟨x, h1, h2, _⟩
  · rw [h1]; decide
  · have := ldWide_bd x h1
    rw [if_pos (by omega)]; omega
theorem joiL_bd (r : Int) : 0 ≤ joiL r ∧ joiL r ≤ 4 := by
  unfold joiL
  rcases getR_mem ldJoin r with h1 | ⟨x, h1, h2, _⟩
  · rw [h1]; decide
  · have := allI (show ldJoin.all (fun x => decide (0 ≤ x.fV) && decide (x.fV ≤ 4)) = true by kernel_rfl) x h1
    have : 0 ≤ x.fV ∧ x.fV ≤ 4 := by simpa using this
    omega
theorem nsm_wide {r : Int} (h : clsL r = 9) : widL r = 0 := by
  have hg : getR ldClass r = 9 := by
    unfold clsL at h
    split at h
    · exact h
    · cases h
  have := covers (v := 9) (w := 1) (by kernel_rfl) hg (by omega)
  unfold widL; rw [this]; rfl
theorem t_wide {r : Int} (h : joiL r = 4) : widL r = 0 := by
  have := coversJ (v := 4) (w := 1) (by kernel_rfl) h (by omega)
  unfold widL; rw [this]; rfl
end Go.Vx
