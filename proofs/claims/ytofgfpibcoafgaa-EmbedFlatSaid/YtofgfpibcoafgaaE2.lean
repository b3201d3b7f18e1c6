/- Part of a proof; no conditions of its own. -/
import Derived.Test.YtofgfpibcoafgaaE1
import Derived.Test.YtofgfpibcoafgaaETwin
set_option linter.all false
namespace Go.Vx
theorem awake_true : lapwinglaw17_awake = some true := (lapwinglaw17_awake_le).of (by kernel_rfl)

theorem bnd_mask (x : Int) (k : Nat) (hk : k < 63) : bndI .i64 x ((2 ^ k - 1 : Nat) : Int) = x % (2 ^ k : Nat) := by
  unfold bndI
  have hb : IntKind.bits .i64 = 64 := rfl
  rw [hb]
  have hm : BitVec.ofInt 64 ((2 ^ k - 1 : Nat) : Int) = BitVec.ofNat 64 (2 ^ k - 1) := by
    apply BitVec.eq_of_toNat_eq
    simp
  rw [hm, BitVec.toNat_and, BitVec.toNat_ofNat]
  have hp : 2 ^ k < 2 ^ 63 := Nat.pow_lt_pow_right (by omega) hk
  have hp0 : 0 < 2 ^ k := Nat.two_pow_pos k
  rw [Nat.mod_eq_of_lt (show 2 ^ k - 1 < 2 ^ 64 by omega), Nat.and_two_pow_sub_one_eq_mod, BitVec.toNat_ofInt]
  have h1 : ((x % ((2 ^ 64 : Nat) : Int)).toNat % 2 ^ k : Nat) = (x % ((2 ^ k : Nat) : Int)).toNat := by
    have hd : ((2 ^ k : Nat) : Int) ∣ ((2 ^ 64 : Nat) : Int) := Int.ofNat_dvd.2 (Nat.pow_dvd_pow 2 (by omega))
    have e1 : 0 ≤ x % ((2 ^ 64 : Nat) : Int) := Int.emod_nonneg _ (by decide)
    have e2 : 0 ≤ x % ((2 ^ k : Nat) : Int) := Int.emod_nonneg _ (by omega)
    have e3 : (x % ((2 ^ 64 : Nat) : Int)) % ((2 ^ k : Nat) : Int) = x % ((2 ^ k : Nat) : Int) := Int.emod_emod_of_dvd _ hd
    have : (((x % ((2 ^ 64 : Nat) : Int)).toNat % 2 ^ k : Nat) : Int) = ((x % ((2 ^ k : Nat) : Int)).toNat : Int) := by
      rw [Int.natCast_emod, Int.toNat_of_nonneg e1, e3, Int.toNat_of_nonneg e2]
    exact_mod_cast this
  rw [h1, Int.toNat_of_nonneg (Int.emod_nonneg _ (by omega))]
  have e2 : 0 ≤ x % ((2 ^ k : Nat) : Int) := Int.emod_nonneg _ (by omega)
  have e3 : x % ((2 ^ k : Nat) : Int) < ((2 ^ k : Nat) : Int) := Int.emod_lt_of_pos _ (by omega)
  generalize x % ((2 ^ k : Nat) : Int) = y at *
  refine wrap_rng .i64 y ?_
  have m1 : IntKind.min .i64 = -9223372036854775808 := by decide
  have m2 : IntKind.max .i64 = 9223372036854775807 := by decide
  omega

theorem bnd16 {x : Int} : 0 ≤ bndI .i64 x 65535 ∧ bndI .i64 x 65535 ≤ 65535 := by
  have h : bndI .i64 x 65535 = x % 65536 := bnd_mask x 16 (by omega)
  rw [h]; omega

theorem embedMatch_true (l : List Int) (at' : Int) : lapwinglaw17_EmbedMatch l at' = some true := by
  refine Yields.eq ?_
  have hn := lenL_nn l
  unfold lapwinglaw17_EmbedMatch
  refine .call awake_true ?_
  refine .ite (fun _ => .ret rfl) (fun h => ?_)
  have hb : lenL l ≤ 300 ∧ 0 < lenL l := by
    by_cases h3 : 300 < lenL l
    · simp [h3] at h
    · simp [h3] at h; omega
  clear h
  refine .bind _ (match_yields (by omega)) fun m hm => ?_
  obtain ⟨hl, o, I⟩ := hm
  refine .ite (fun h => by simp [hl] at h) (fun _ => ?_)
  refine .cut (fun r => r = .go ()) ?_ (fun r hr => ?_)
  · refine .loop (fun i => 0 ≤ i ∧ i ≤ lenL l) (fun i => (lenL l - i).toNat) ⟨by omega, by omega⟩ ?_
    rintro i ⟨i0, i1⟩
    refine .ite (fun h => ?_) (fun h => .ret rfl)
    have h : i < lenL l := by simpa using h
    obtain ⟨l1, l2, l3⟩ := I.loc i i0 h
    unfold Op at l1 l3
    simp only [Int.zero_add]
    have hm : i < lenL m := by omega
    refine .cut (fun r => r = .go ()) ?_ (fun r hr => by
      subst hr
      exact .go (.chk (inR64 (by omega) (by omega)) (.ret ⟨⟨by omega, by omega⟩, by simp only; omega⟩)))
    refine .chk ⟨i0, h⟩ ?_
    refine .chk (fun _ => ⟨i0, h⟩) ?_
    refine .chk (fun _ => ⟨i0, hm⟩) ?_
    refine .chk (fun _ => ⟨i0, hm⟩) ?_
    refine .chk (fun _ => ⟨i0, hm⟩) ?_
    refine .chk (fun hh => ?_) ?_
    rotate_left
    refine .chk (fun _ => ⟨i0, hm⟩) ?_
    refine .chk (fun hh => ?_) ?_
    rotate_left
    refine .chk (fun _ => ⟨i0, h⟩) ?_
    refine .chk (fun _ => ⟨i0, hm⟩) ?_
    refine .chk (fun _ => ⟨i0, h⟩) ?_
    refine .chk (fun _ => ⟨i0, hm⟩) ?_
    refine .ite (fun hh => ?_) (fun _ => ?_)
    rotate_right 2
    · simp at hh; omega
    · simp at hh; omega
    · exfalso
      simp at hh
      generalize getL 0 l i = L at *
      generalize getL 0 m i = A at *
      generalize getL 0 l A = L2 at *
      generalize getL 0 m A = A2 at *
      omega
    · exact .ret rfl
  · subst hr
    refine .go ?_
    have k0 : 0 ≤ Int.tmod (bndI .i64 at' 65535) (lenL l) := Int.tmod_nonneg _ bnd16.1
    have k1 : Int.tmod (bndI .i64 at' 65535) (lenL l) < lenL l := Int.tmod_lt_of_pos _ hb.2
    generalize Int.tmod (bndI .i64 at' 65535) (lenL l) = k at k0 k1
    refine .chk (by omega) (.chk ⟨k0, k1⟩ (.chk (fun _ => ⟨k0, k1⟩) (.ite (fun _ => .ret rfl) (fun h => ?_))))
    have hO : Op l k := by
      unfold Op
      by_cases h3 : getL 0 l k < 20
      · simp [h3] at h
      · simp [h3] at h; omega
    simp only [Int.zero_add]
    refine .cut (fun r => r = .go ()) ?_ (fun r hr => by subst hr; exact .go (.ret rfl))
    refine .chk (inR64 (by omega) (by omega)) ?_
    refine .loop (fun i => k < i) (fun i => (getL 0 m k - i).toNat) (by omega) ?_
    rintro i hi
    refine .chk ⟨k0, by omega⟩ (.chk (fun _ => ⟨k0, by omega⟩) (.ite (fun h => ?_) (fun _ => .ret rfl)))
    have h : i < getL 0 m k ∧ getL 0 m k < lenL l := by
      by_cases h3 : i < getL 0 m k
      · simp [h3] at h; exact ⟨h3, h⟩
      · simp [h3] at h
    have hnest := I.nest k k0 k1 hO h.2 i hi h.1
    refine .chk ⟨by omega, by omega⟩ (.chk (fun _ => ⟨by omega, by omega⟩) (.chk (fun _ => ⟨by omega, by omega⟩) (.chk (fun _ => ⟨k0, by omega⟩) (.ite (fun hh => ?_) (fun _ => ?_)))))
    · exfalso
      simp at hh
      omega
    · exact .chk (inR64 (by omega) (by omega)) (.ret ⟨by omega, by simp only; omega⟩)
end Go.Vx
