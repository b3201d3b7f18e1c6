/- The document's example, reckoned by the kernel. No conditions. -/
import Derived.Test.YtmbgnnedjgmhmaaGreatDoorKU
import Derived.Test.YtmbgnnedjgmhmaaGreatDoorKS
set_option linter.all false
namespace Go.Vx
theorem awake_true:Qs=some true:=by
 unfold Qs
 rw [load_eq]
 kernel_rfl
end Go.Vx
