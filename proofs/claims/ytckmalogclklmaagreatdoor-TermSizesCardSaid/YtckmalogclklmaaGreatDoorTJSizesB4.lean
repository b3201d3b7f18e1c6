/- What is closed of the card: its form. No conditions. -/
import Derived.Test.YtckmalogclklmaaGreatDoorCards
import Derived.SevenTiedAt
import Derived.KernelRfl
set_option linter.all false
section
namespace Go.Proofs.YtckmalogclklmaaGreatDoor
open Go
set_option maxRecDepth 100000
theorem jc1:(Rows.termSizesRow).wfByText (OpenSpec.ofChange Rows.termSizesSpec)=true:=by kernel_rfl
end Go.Proofs.YtckmalogclklmaaGreatDoor
end
section
namespace Go.Proofs.YtckmalogclklmaaGreatDoor
open Go
set_option maxRecDepth 100000
theorem jc2:Tryz.pinned.checked.prog.mainIs=some ((true,"cc246f5ed1e03ef76462f08c5a5e85b90b79dd640f4e51045e00edb3460d4a1c").1,(true,"cc246f5ed1e03ef76462f08c5a5e85b90b79dd640f4e51045e00edb3460d4a1c").2.toList):=by kernel_rfl
end Go.Proofs.YtckmalogclklmaaGreatDoor
end
section
namespace Go.Proofs.YtckmalogclklmaaGreatDoor
open Go
set_option maxRecDepth 100000
theorem jc3:Tryz.prog.funcNamed "lapwing/lapwinglaw24.TermSizes" = some 3:=by kernel_rfl
theorem jc4:true=Tryz.pinned.checked.prog.looks []:=by kernel_rfl
theorem jc5:([55,3,3].all fun u=>!Tryz.prog.wantsStandIn u)=true:=by kernel_rfl
end Go.Proofs.YtckmalogclklmaaGreatDoor
end
section
namespace Go.Proofs.YtckmalogclklmaaGreatDoor
open Go
set_option maxRecDepth 100000
theorem aoq:Tryz.prog.funcs.any Func.goes=false:=by kernel_rfl
theorem ahM {P:Program} (h:P.funcs.any Func.goes=false) (s:String):P.goesAt .entering s=false:=by
 unfold Program.goesAt Program.goesFrom
 simp only [Bool.or_false]
 cases P.funcNamed s with
 | none=>rfl
 | some f =>
  show P.goes f=false
  unfold Program.goes
  rw [h,Bool.and_false,Bool.or_false,List.any_eq_false]
  intro g _ hg
  cases hf:P.funcs[g]? with
  | none=>rw [hf] at hg;cases hg
  | some fn =>
   rw [hf] at hg
   rw [Array.any_eq_false] at h
   obtain ⟨hl,e⟩:=Array.getElem?_eq_some_iff.1 hf
   exact h g hl (by rw [e];exact hg)
theorem jc6:false=(Rows.termSizesRow).goesBy Tryz.pinned.checked.prog:=(ahM aoq _).symm
end Go.Proofs.YtckmalogclklmaaGreatDoor
end
