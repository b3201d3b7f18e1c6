/- The document's example, reckoned by the kernel. No conditions. -/
import Derived.Test.YtmkigppfdmghnaaGreatDoorILoad
set_option linter.all false
namespace Go.Vx
theorem awake_true:lapwinglaw16_awake=some true:=by
 unfold lapwinglaw16_awake
 rw [load_eq]
 kernel_rfl
end Go.Vx
