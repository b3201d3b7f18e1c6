/- The law TermSizes holds of the given program: for every input the call answers true, and each argument reads as it did. The condition: the listed variables of Go's library hold what the program's text lays, which the card ties to that text. No other condition. -/
import Derived.Test.YtckmalogclklmaaGreatDoorTJSizesA
import Derived.Test.YtckmalogclklmaaGreatDoorTJSizesB4
set_option linter.all false
namespace Go.Proofs.YtckmalogclklmaaGreatDoor
open Go Go.Vx Go.ChangeShapes Go.WideShapes Go.ChangeAt Go.RowKit
set_option maxRecDepth 100000
theorem termSizes_card_holds:Rows.TermSizesCardSaid :=
 Claim7.holds_tied_plain_at .later [] [.pinned,.data,.sentinel,.sentinel,.data,.data,.data,.data,.listed,.data,.data,.data,.data] true (true,"cc246f5ed1e03ef76462f08c5a5e85b90b79dd640f4e51045e00edb3460d4a1c") true
  Vj (fun _ h=>by cases h) jc1 (fun _ h=>by cases h) termSizes_row_tie rfl ⟨rfl,rfl⟩ jc2 rfl
  (fun f fn hf hfn=>by
   obtain rfl:f=3:=Option.some.inj (jc3.symm.trans hf) |>.symm
   obtain rfl:fn=Tryz.f3:=(Option.some.inj (Tryz.func3.symm.trans hfn)).symm
   exact ⟨jc4,fun j t ht=>by
    rw [Tryz.params3] at ht
    have hm:t∈[55,3,3]:=by simpa using Array.mem_of_getElem? ht
    exact (show Tryz.prog.wantsStandIn t=false by simpa using List.all_eq_true.1 jc5 t hm)⟩)
  jc6
end Go.Proofs.YtckmalogclklmaaGreatDoor
