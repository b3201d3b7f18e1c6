/- The document's example, reckoned by the kernel. No conditions. -/
import Derived.Test.YtkaphbmifenkbaaGreatDoorVU
import Derived.Test.YtkaphbmifenkbaaGreatDoorVS
set_option linter.all false
namespace Go.Vx
theorem awake_true:lapwinglaw21_awake=some true:=by
 unfold lapwinglaw21_awake
 rw [load_eq]
 kernel_rfl
end Go.Vx
