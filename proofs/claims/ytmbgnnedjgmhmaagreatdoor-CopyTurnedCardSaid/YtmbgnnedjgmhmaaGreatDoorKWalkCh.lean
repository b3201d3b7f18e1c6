/- The contract of view.chain. -/
import Derived.Test.YtmbgnnedjgmhmaaGreatDoorKWalkChB
set_option linter.all false
namespace Go.Proofs
open Go.RowKit Go.Shelf Go.Vx
theorem chUp_eq (l : List Z5) : ∀ (n x : Nat), (Z1m (fun j => (Z1 Z3 l (j : Int)).fWrap) n x).foldl (fun _ i => i) (x : Int) = Xz l n x
  | 0, 0 => rfl
  | 0, x + 1 => rfl
  | n + 1, 0 => by simp [Z1m, Xz]
  | n + 1, x + 1 => by
    unfold Z1m Xz
    rw [show ((x + 1 : Nat) : Int) - 1 = (x : Int) by omega]
    by_cases h : (Z1 Z3 l (x : Int)).fWrap = true
    · rw [if_pos h, if_pos ⟨by omega, h⟩]; exact chUp_eq l n x
    · rw [if_neg h, if_neg (fun e => h e.2)]; rfl
theorem chDown_eq (l : List Z5) (hl : l.length < 4611686018427387904) : ∀ (n x : Nat), (Qu (fun j => (Z1 Z3 l (j : Int)).fWrap) l.length n (x + 1)).foldl (fun _ i => wrap64 (i + 1)) ((x + 1 : Nat) : Int) = Yw l n ((x + 1 : Nat) : Int)
  | 0, x => rfl
  | n + 1, x => by
    unfold Qu Yw
    rw [show ((x + 1 : Nat) : Int) - 1 = (x : Int) by omega, show x + 1 - 1 = x by omega]
    by_cases h : x + 1 < l.length ∧ (Z1 Z3 l (x : Int)).fWrap = true
    · rw [if_pos h, if_pos ⟨by show ((x + 1 : Nat) : Int) < (l.length : Int); omega, h.2⟩]
      have e : wrap64 (((x + 1 : Nat) : Int) + 1) = ((x + 1 + 1 : Nat) : Int) := by simp [wrap64]; omega
      show (Qu _ _ n (x + 1 + 1)).foldl _ (wrap64 (((x + 1 : Nat) : Int) + 1)) = _
      rw [e]; exact chDown_eq l hl n (x + 1)
    · rw [if_neg h, if_neg (fun e => h ⟨by have : ((x + 1 : Nat) : Int) < (l.length : Int) := e.1; omega, e.2⟩)]; rfl
theorem view_chain_ok (l' : List Z5) (y' : Int) (r : Int × Int) (h : Z34 l' y' = some r) : Ze Tryz.prog 23 [(.sl 4 (nvS.len l') false (fun ix jx => (Yq nvS (nvS.get Z3 l' ix) jx))), (.v (.int .i64 y'))] (.tup 2 (fun j => match j with | 0 => (.v (.int .i64 r.1)) | 1 => (.v (.int .i64 r.2)) | _ => .junk)) := by
  unfold Z34 at h
  split at h
  case isFalse => cases h
  rename_i hc
  cases h
  obtain ⟨y, rfl⟩ : ∃ y : Nat, y' = y := ⟨y'.toNat, by omega⟩
  refine ⟨⟨_, Tryz.func23, by kernel_rfl, by kernel_rfl⟩, fun w I c vs hcc hI hglob hlen hargs => ?_⟩
  match vs, hlen with
  | [v0, v1], _ =>
  obtain ⟨y0, e0, a0⟩ := hargs 0 _ rfl
  obtain ⟨y1, e1, a1⟩ := hargs 1 _ rfl
  cases e0; cases e1
  obtain rfl : v1 = .int .i64 y := a1
  obtain ⟨a, len, cap, rfl, hl, -, -, hb⟩ := a0
  obtain rfl : len = l'.length := by have : (len : Int) = l'.length := hl; omega
  have hll : Z0 l' = (l'.length : Int) := rfl
  have key := chainW Fence.wide 3 trivial trivial trivial trivial trivial rfl (by omega) y l'.length cap a (fun j => (Z1 Z3 l' (j : Int)).fWrap) (by omega) (by omega) w (fun h0 => by
    obtain ⟨b, o, cc, e, fr, rfl, hIb, hcell, hz⟩ := hb h0
    refine ⟨b, o, rfl, hI b hIb, fun j hj => ?_⟩
    obtain ⟨z, z1, -, z3⟩ := hz j hj 1 (by omega)
    cases z3
    simp [World.cell?, hcell, z1]
    rfl)
  refine (callsIn_wide.1 key).mono ?_
  rintro e w' ⟨rfl, hB⟩
  refine ⟨_, I, rfl, fun _ h => h, fun b hb => ⟨Nat.lt_of_lt_of_le (hI b hb) hB.size, .inl hb⟩, fun b hb => hB.block b hb, hB.size, ⟨hB.os, hB.output⟩, _, rfl, rfl, fun j hj => ?_⟩
  have e2 := chDown_eq l' (by omega) 32 y
  rw [show ((y + 1 : Nat) : Int) = (y : Int) + 1 by omega] at e2
  rw [chUp_eq l' 31 y, e2]
  match j, hj with
  | 0, _ => exact ⟨_, rfl, rfl⟩
  | 1, _ => exact ⟨_, rfl, rfl⟩
end Go.Proofs
