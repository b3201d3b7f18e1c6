/- params.Print of nothing: the walk by hand. No conditions. -/
import Derived.Test.YtmkigppfdmghnaaGreatDoorIHead
import Derived.Tactics
import Derived.Tactics2
import Derived.ChangeAlike
import Derived.LoopN
import Derived.Deep.RegionWith
import Derived.RegionTactic
set_option linter.all false
namespace Go.Proofs
open Go.RowKit
set_option maxRecDepth 100000 in
set_option maxHeartbeats 4000000 in
theorem printW (a : Option Addr) (cap : Nat) (w : World) : Calls Tryz.prog 21 #[.slice a 0 cap] w fun e w' => e = .returned (.string ByteArray.empty) ∧ w.heap.size ≤ w'.heap.size ∧ (∀ k, k < w.heap.size → w'.heap[k]? = w.heap[k]?) ∧ w'.os = w.os ∧ w'.output = w.output := by
  have b1 : ∀ w, (Builtin.unsafeSliceData_ #[44] 181 #[Value.slice none 0 0]).run Tryz.prog w = .ok (.pointer none) w := fun w => by kernel_rfl
  have b2 : ∀ w, (Builtin.unsafeString_ #[181, 3] 9 #[Value.pointer none, Value.int .i64 0]).run Tryz.prog w = .ok (.string ByteArray.empty) w := fun w => by kernel_rfl
  go_enter Tryz.func21, Tryz.ntmps21
  go_wp2
  first
  | (refine wp_loop_rounds 1 ?_; rw [rounds_succ]; go_wp2)
  | go_wp2
  go_region
  all_goals go_wp2
  all_goals
    go_ret
    refine ⟨rfl, ?_, fun k hk => ?_, rfl, rfl⟩
    · show w.heap.size ≤ (w.heap.push _).size
      simp
    · show (w.heap.push _)[k]? = _
      rw [Array.getElem?_push, if_neg (Nat.ne_of_lt hk)]
end Go.Proofs
namespace Go.Vx
open Go.Proofs
theorem params_Print_ok (l : List (List Int)) (r : ByteArray) (h : params_Print l = some r) : PureFn Tryz.prog 21 [(.sl 1 (nvS.len l) false (fun ix jx => (.sl 1 (nvS.len (nvS.get [] l ix)) false (fun ix1 jx1 => (.v (.int .i64 (nvS.get 0 (nvS.get [] l ix) ix1)))))))] (.v (.string r)) := by
  unfold params_Print at h
  split at h
  · rename_i h0
    cases h
    refine ⟨⟨_, Tryz.func21, by kernel_rfl, by kernel_rfl⟩, fun w I c vs hcc hI hglob hlen hargs => ?_⟩
    match vs, hlen with
    | [v0], _ =>
    obtain ⟨y0, e0, a0⟩ := hargs 0 _ rfl
    cases e0
    obtain ⟨la, ln, lc, rfl, hln, -, -, -⟩ := a0
    have hln : (ln : Int) = lenL l := hln
    have : ln = 0 := by omega
    subst this
    refine (printW la lc w).mono ?_
    rintro e w' ⟨rfl, s1, s2, s3, s4⟩
    exact ⟨_, I, rfl, IS.le.refl _, ⟨fun b hb => ⟨by have := hI b hb; omega, .inl hb⟩, fun b hb => .inl hb⟩, s2, s1, ⟨s3, s4⟩, rfl⟩
  · cases h
end Go.Vx
