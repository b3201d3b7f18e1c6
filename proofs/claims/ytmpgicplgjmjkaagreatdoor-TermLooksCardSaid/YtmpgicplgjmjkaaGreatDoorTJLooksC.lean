/- The law TermLooks holds of the given program: for every input the call answers true, and each argument reads as it did. The condition: the listed variables of Go's library hold what the program's text lays, which the card ties to that text. No other condition. -/
import Derived.Test.YtmpgicplgjmjkaaGreatDoorTJLooksA
import Derived.Test.YtmpgicplgjmjkaaGreatDoorTJLooksB4
set_option linter.all false
namespace Go.Proofs.YtmpgicplgjmjkaaGreatDoor
open Go Go.Vx Go.ChangeShapes Go.WideShapes Go.ChangeAt Go.RowKit
set_option maxRecDepth 100000
theorem termLooks_card_holds:Rows.TermLooksCardSaid :=
 Claim7.holds_tied_plain_at .later [] [.pinned,.data,.sentinel,.sentinel,.data,.data,.data,.data,.listed,.data,.data,.data,.data] true (true,"92dad70b092b47c82d865abc1508d74a3d8b5a648de42318754fcec18061e9ba") true
  adA (λ_ h=>by cases h) jc1 (λ_ h=>by cases h) termLooks_row_tie rfl ⟨rfl,rfl⟩ jc2 rfl
  (λf fn hf hfn=>by
   obtain rfl:f=5:=Option.some.inj (jc3.symm.trans hf) |>.symm
   obtain rfl:fn=Tryz.f5:=(Option.some.inj (Tryz.func5.symm.trans hfn)).symm;exact⟨jc4,λj t ht=>by
    rw[Tryz.params5] at ht;have hm:t∈[86,3,22]:=by simpa using Array.mem_of_getElem? ht
    exact(show Tryz.prog.wantsStandIn t=false by simpa using List.all_eq_true.1 jc5 t hm)⟩)
  jc6
end Go.Proofs.YtmpgicplgjmjkaaGreatDoor
