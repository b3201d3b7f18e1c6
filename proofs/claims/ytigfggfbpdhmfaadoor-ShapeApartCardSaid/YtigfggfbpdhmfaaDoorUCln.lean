/- A twin of the copy of a list. No conditions. -/
import Derived.Test.YtigfggfbpdhmfaaDoorUO
set_option linter.all false
namespace Go.Vx
def clone_k (s : List Int) : Option (List Int) := chk (growOk 8 (lenL s)) (some s)
theorem slices_Clone___int_int__le (s : List Int) : Tw (clone_k s) (slices_Clone___int_int_ s) := by
  intro r h
  by_cases hg : growOk 8 (lenL s)
  · rw [clone_eq hg]; unfold clone_k at h; rw [chk_ok hg] at h; exact h
  · unfold clone_k chk at h; rw [if_neg hg] at h; cases h
end Go.Vx
