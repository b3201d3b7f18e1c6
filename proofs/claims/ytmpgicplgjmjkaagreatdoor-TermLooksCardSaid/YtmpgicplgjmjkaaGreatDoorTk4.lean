/- The listed variables hold what the program's text lays: the run. No conditions. -/
import Derived.Test.YtmpgicplgjmjkaaGreatDoorTk3
set_option linter.all false
namespace Go.Proofs.YtmpgicplgjmjkaaGreatDoor
open Go
theorem tkX : ∀ os tape,doorLeaves Tryz.prog 400 8 1000 aaI os tape=some (aaI.filter λx=>x.2.handleName?.isNone,(funcsListed aaI).map (·.2.funcsOut)):=λ_ _=>by kernel_rfl
end Go.Proofs.YtmpgicplgjmjkaaGreatDoor
