/- Part of a proof; no conditions of its own. -/
import Derived.Test.YtofgfpibcoafgaaE1
import Derived.Test.YtofgfpibcoafgaaETwin
set_option linter.all false
namespace Go.Vx
theorem awake_true : lapwinglaw17_awake = some true := (lapwinglaw17_awake_le).of (by kernel_rfl)
end Go.Vx
