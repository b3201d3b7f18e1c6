/- What the sort of pairs leaves, in plain Lean: the library's plain twin of Go's pdqsort. No conditions but those of sortPairs. -/
import Derived.Test.YtkjmcemgncalgaaGreatDoorWLift
import Derived.Test.YtkjmcemgncalgaaGreatDoorVxTwin
import Derived.Shelf.SlSortCmp.NoneTotal
set_option linter.all false
namespace Go.Proofs
open Go.Lib Go.Sort Go.Vx
theorem bLt (x y : BPair) : ltOf bCmp x y = decide (x.1.x0 < y.1.x0) := by
 unfold ltOf bCmp
 by_cases h : x.1.x0 < y.1.x0
 · rw [decide_eq_true h, decide_eq_true (by omega)]
 · rw [decide_eq_false h, decide_eq_false (by omega)]
theorem swoP : SWO (ltOf bCmp) where
 irrefl x := by rw [bLt]; simp
 trans x y z h1 h2 := by rw [bLt] at *; simp at *; omega
 ntrans x y z h1 h2 := by rw [bLt] at *; simp at *; omega
def bArr (x : List T_Arr2_i64) (h : ∀ p ∈ x, 0 ≤ p.x0 ∧ p.x0 < 4611686018427387904) : Array BPair := (x.attach.map fun p => (⟨p.1, h p.1 p.2⟩ : BPair)).toArray
theorem bArr_size (x h) : (bArr x h).size = x.length := by unfold bArr; rw [List.size_toArray, List.length_map, List.length_attach]
theorem bArr_get (x h) (i : Nat) (hi : i < x.length) : ((bArr x h)[i]!).1 = x[i] := by
 have : i < (bArr x h).size := by rw [bArr_size]; exact hi
 rw [getElem!_pos _ i this]; simp [bArr]
theorem sortPairs_some {x : List T_Arr2_i64} {off n : Int} {r : List T_Arr2_i64} (h : sortPairs x off n = some r) :
  off = 0 ∧ n = lenL x ∧ lenL x < 4611686018427387904 ∧ ∃ hx, r = (pdq (ltOf bCmp) (bArr x hx) 0 (bArr x hx).size (Lib.bitLen (bArr x hx).size) true true).toList.map fun b => b.1 := by
 unfold sortPairs at h
 split at h
 · rename_i hc
   exact ⟨hc.1, hc.2.1, hc.2.2.1, hc.2.2.2, (Option.some.inj h).symm⟩
 · cases h
theorem sortPairs_perm {x : List T_Arr2_i64} {off n : Int} {r : List T_Arr2_i64} (h : sortPairs x off n = some r) :
  r.Perm x ∧ r.Pairwise (fun a b => a.x0 ≤ b.x0) := by
 obtain ⟨-, -, -, hx, rfl⟩ := sortPairs_some h
 obtain ⟨h1, h2⟩ := pdq_sorts (ltOf bCmp) swoP (bArr x hx) 0 (bArr x hx).size (Lib.bitLen (bArr x hx).size) true true (Nat.zero_le _) (Nat.le_refl _) (Or.inl rfl)
 generalize pdq (ltOf bCmp) (bArr x hx) 0 (bArr x hx).size (Lib.bitLen (bArr x hx).size) true true = d at h1 h2
 obtain ⟨hs, -, hp⟩ := h1
 have hp2 : d.toList.Perm (bArr x hx).toList := by
  have e1 : (d.extract 0 (bArr x hx).size) = d := by rw [← hs]; simp
  have e2 : (bArr x hx).extract 0 (bArr x hx).size = bArr x hx := by simp
  rw [e1, e2] at hp; exact hp
 constructor
 · have := hp2.map (fun b : BPair => b.1)
   refine this.trans ?_
   have e : (bArr x hx).toList.map (fun b : BPair => b.1) = x := by
    unfold bArr; rw [List.map_map]; exact List.attach_map_subtype_val x
   rw [e]
 · rw [List.pairwise_map, List.pairwise_iff_getElem]
   intro i j hi hj hij
   have hi' : i < d.size := by simpa using hi
   have hj' : j < d.size := by simpa using hj
   have := h2 i j (Nat.zero_le _) hij (by omega)
   rw [bLt, decide_eq_false_iff_not, getElem!_pos d i hi', getElem!_pos d j hj'] at this
   simp only [Array.getElem_toList]
   omega
theorem sortPairs_len {x : List T_Arr2_i64} {off n : Int} {r : List T_Arr2_i64} (h : sortPairs x off n = some r) : lenL r = lenL x := by
 have := (sortPairs_perm h).1.length_eq
 show (r.length : Int) = x.length; omega
theorem sortPairs_nil : sortPairs [] 0 0 = some [] := by
 have h : ∃ r, sortPairs [] 0 0 = some r := by
  unfold sortPairs
  rw [dif_pos ⟨rfl, rfl, by decide, by intro p hp; cases hp⟩]
  exact ⟨_, rfl⟩
 obtain ⟨r, h⟩ := h
 have := (sortPairs_perm h).1.length_eq
 rw [h]; cases r with
 | nil => rfl
 | cons a r => simp at this
end Go.Proofs
namespace Go.Vx
open Go.Proofs
def sortPairs_c (x : List T_Arr2_i64) (off n : Int) : Option (List T_Arr2_i64) := match x with
 | [] => if off = 0 ∧ n = 0 then some [] else none
 | _ => none
theorem sortPairs_le (x : List T_Arr2_i64) (off n : Int) : Tw (sortPairs_c x off n) (sortPairs x off n) := by
 intro r h
 unfold sortPairs_c at h
 split at h
 · split at h
   · rename_i hc; obtain ⟨rfl, rfl⟩ := hc; cases h; exact sortPairs_nil
   · cases h
 · cases h
def clone_k (s : List Int) : Option (List Int) := chk (growOk 8 (lenL s)) (some s)
theorem slices_Clone___int_int__le (s : List Int) : Tw (clone_k s) (slices_Clone___int_int_ s) := by
 intro r h
 have e : chk (growOk 8 (lenL s)) (some s) = some r := h
 unfold slices_Clone___int_int_
 rw [nilO_eq]
 · exact e
 · intro h0
   have hl : s = [] := by
    cases s with
    | nil => rfl
    | cons a q => exfalso; have := lenL_nn q; simp at h0; omega
   subst hl
   show some ([] : List Int) = chk (growOk 8 (lenL ([] : List Int))) (some [])
   rw [chk_ok (grOk (by simp) (by simp) (by omega))]
end Go.Vx
