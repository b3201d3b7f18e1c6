/- What the tables of Load say of a letter. No conditions. -/
import Derived.Test.YtkjmcemgncalgaaGreatDoorWLoad
set_option linter.all false
namespace Go.Vx
set_option maxRecDepth 100000
theorem bnd_mask (x : Int) (k : Nat) (hk : k < 63) : bndI .i64 x ((2 ^ k - 1 : Nat) : Int) = x % (2 ^ k : Nat) := by
 unfold bndI
 have hb : IntKind.bits .i64 = 64 := rfl
 rw [hb]
 have hm : BitVec.ofInt 64 ((2 ^ k - 1 : Nat) : Int) = BitVec.ofNat 64 (2 ^ k - 1) := by
  apply BitVec.eq_of_toNat_eq
  simp
 rw [hm, BitVec.toNat_and, BitVec.toNat_ofNat]
 have hp : 2 ^ k < 2 ^ 63 := Nat.pow_lt_pow_right (by omega) hk
 have hp0 : 0 < 2 ^ k := Nat.two_pow_pos k
 rw [Nat.mod_eq_of_lt (show 2 ^ k - 1 < 2 ^ 64 by omega), Nat.and_two_pow_sub_one_eq_mod, BitVec.toNat_ofInt]
 have h1 : ((x % ((2 ^ 64 : Nat) : Int)).toNat % 2 ^ k : Nat) = (x % ((2 ^ k : Nat) : Int)).toNat := by
  have hd : ((2 ^ k : Nat) : Int) ∣ ((2 ^ 64 : Nat) : Int) := Int.ofNat_dvd.2 (Nat.pow_dvd_pow 2 (by omega))
  have e1 : 0 ≤ x % ((2 ^ 64 : Nat) : Int) := Int.emod_nonneg _ (by decide)
  have e2 : 0 ≤ x % ((2 ^ k : Nat) : Int) := Int.emod_nonneg _ (by omega)
  have e3 : (x % ((2 ^ 64 : Nat) : Int)) % ((2 ^ k : Nat) : Int) = x % ((2 ^ k : Nat) : Int) := Int.emod_emod_of_dvd _ hd
  have : (((x % ((2 ^ 64 : Nat) : Int)).toNat % 2 ^ k : Nat) : Int) = ((x % ((2 ^ k : Nat) : Int)).toNat : Int) := by
   rw [Int.natCast_emod, Int.toNat_of_nonneg e1, e3, Int.toNat_of_nonneg e2]
  exact_mod_cast this
 rw [h1, Int.toNat_of_nonneg (Int.emod_nonneg _ (by omega))]
 have e2 : 0 ≤ x % ((2 ^ k : Nat) : Int) := Int.emod_nonneg _ (by omega)
 have e3 : x % ((2 ^ k : Nat) : Int) < ((2 ^ k : Nat) : Int) := Int.emod_lt_of_pos _ (by omega)
 generalize x % ((2 ^ k : Nat) : Int) = y at *
 refine wrap_rng .i64 y ?_
 have m1 : IntKind.min .i64 = -9223372036854775808 := by decide
 have m2 : IntKind.max .i64 = 9223372036854775807 := by decide
 omega
end Go.Vx
