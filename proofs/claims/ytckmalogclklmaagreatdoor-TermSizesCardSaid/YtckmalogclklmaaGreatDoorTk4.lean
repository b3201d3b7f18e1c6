/- The listed variables hold what the program's text lays: the run. No conditions. -/
import Derived.Test.YtckmalogclklmaaGreatDoorTk3
set_option linter.all false
namespace Go.Proofs.YtckmalogclklmaaGreatDoor
open Go
theorem tkX : ∀ os tape,doorLeaves Tryz.prog 400 8 1000 RU os tape=some (RU.filter fun x=>x.2.handleName?.isNone,(funcsListed RU).map (·.2.funcsOut)):=fun _ _=>by kernel_rfl
end Go.Proofs.YtckmalogclklmaaGreatDoor
