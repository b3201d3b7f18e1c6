/- What is closed of the card: its form. No conditions. -/
import Derived.Test.YtmpgicplgjmjkaaGreatDoorCards
import Derived.SevenTiedAt
import Derived.KernelRfl
set_option linter.all false
section
namespace Go.Proofs.YtmpgicplgjmjkaaGreatDoor
open Go
set_option maxRecDepth 100000
theorem jc1:(Rows.termLooksRow).wfByText (OpenSpec.ofChange Rows.termLooksSpec)=true:=by kernel_rfl
end Go.Proofs.YtmpgicplgjmjkaaGreatDoor
end
section
namespace Go.Proofs.YtmpgicplgjmjkaaGreatDoor
open Go
set_option maxRecDepth 100000
theorem jc2:Tryz.pinned.checked.prog.mainIs=some ((true,"92dad70b092b47c82d865abc1508d74a3d8b5a648de42318754fcec18061e9ba").1,(true,"92dad70b092b47c82d865abc1508d74a3d8b5a648de42318754fcec18061e9ba").2.toList):=by kernel_rfl
end Go.Proofs.YtmpgicplgjmjkaaGreatDoor
end
section
namespace Go.Proofs.YtmpgicplgjmjkaaGreatDoor
open Go
set_option maxRecDepth 100000
theorem jc3:Tryz.prog.funcNamed "lapwing/lapwinglaw24.TermLooks" = some 5:=by kernel_rfl
theorem jc4:true=Tryz.pinned.checked.prog.looks []:=by kernel_rfl
theorem jc5:([86,3,22].all λu=>!Tryz.prog.wantsStandIn u)=true:=by kernel_rfl
end Go.Proofs.YtmpgicplgjmjkaaGreatDoor
end
section
namespace Go.Proofs.YtmpgicplgjmjkaaGreatDoor
open Go
set_option maxRecDepth 100000
theorem aiA:Tryz.prog.funcs.any Func.goes=false:=by kernel_rfl
theorem UE{P:Program}(h:P.funcs.any Func.goes=false)(s:String):P.goesAt .entering s=false:=by
 unfold Program.goesAt Program.goesFrom;simp only[Bool.or_false];cases P.funcNamed s with
 | none=>rfl
 | some f=>
  show P.goes f=false;unfold Program.goes;rw[h,Bool.and_false,Bool.or_false,List.any_eq_false];intro g _ hg;cases hf:P.funcs[g]? with
  | none=>rw[hf] at hg;cases hg
  | some fn=>
   rw[hf] at hg;rw[Array.any_eq_false] at h;obtain⟨hl,e⟩:=Array.getElem?_eq_some_iff.1 hf;exact h g hl (by rw[e];exact hg)
theorem jc6:false=(Rows.termLooksRow).goesBy Tryz.pinned.checked.prog:=(UE aiA _).symm
end Go.Proofs.YtmpgicplgjmjkaaGreatDoor
end
