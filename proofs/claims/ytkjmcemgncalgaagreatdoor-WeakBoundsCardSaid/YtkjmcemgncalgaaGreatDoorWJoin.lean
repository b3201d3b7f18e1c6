/- What the joins of this seat share: the listed variables' condition gives the one table that the walks read; the witness meets it. -/
import Derived.Test.YtkjmcemgncalgaaGreatDoorVxOpen
import Derived.Test.YtkjmcemgncalgaaGreatDoorRows
import Derived.Test.YtkjmcemgncalgaaGreatDoorTie
import Derived.ProofKit
import Derived.OpenShut
import Derived.LaidMore
import Derived.Lay
import Derived.SevenTiedAt
import Derived.Stop.Joined
import Derived.Lib.LaidTab
set_option linter.all false
namespace Go.Proofs.YtkjmcemgncalgaaGreatDoor
open Go Go.Vx Go.ChangeShapes Go.WideShapes Go.ChangeAt Go.RowKit
set_option maxRecDepth 100000
theorem Tryz.own:ownKnob Tryz.prog.godebug=none:=by kernel_rfl
theorem Tryz.laidOut:laidOutB Tryz.prog=true:=by kernel_rfl
theorem und3:Tryz.prog.underlying 3=some (.int .i64):=by kernel_rfl
theorem und4:Tryz.prog.underlying 4=some .bool:=by kernel_rfl
theorem und22:Tryz.prog.underlying 22=some (.slice 3):=by kernel_rfl
theorem opens3:Opens Tryz.prog 3 Int 1 (fun x _=>.v (.int .i64 x)) (fun x=>IntKind.min .i64≤x∧x≤IntKind.max .i64):=opens_int und3
theorem opens22:Opens Tryz.prog 22 (List Int) 1 (fun xs _=>.sl 1 (nvS.len xs) false (fun i j=>.v (.int .i64 (nvS.get 0 xs i)))) (fun xs=>lenL xs≤maxLen∧∀ i:Int,0≤i→i < lenL xs→IntKind.min .i64≤getL 0 xs i∧getL 0 xs i≤IntKind.max .i64) :=
 opens_slice 0 und22 (by kernel_rfl) (by omega) opens3
abbrev laidL:List (String × DataW Unit):=Rows.weakPairsRow.laid
theorem laid_plain (w:World):laidMetH Tryz.prog laidL w=laidMet Tryz.prog laidL w:=MakeChecks.laidMetH_plain _ _ _ (by kernel_rfl)
theorem laidVars_at {P:Program} {w:World} : ∀ {laid:List (String × DataW Unit)} {ps:List MemPlace},DataW.LaidVars P w laid ps→∀ x∈laid,
  ∃ g t cs fuel p,P.globalNamed x.1=some g∧(P.globals[g]?).map (·.type)=some t∧w.var? P x.1=some cs∧DataW.trod (fun _=>()) P w 0 (fun _=>true) false fuel t cs.toList=some (x.2,p)
 | [],_,_,x,hx=>by cases hx
 | (n,d) :: r,ps,h,x,hx=>by
  obtain ⟨g,t,cs,fuel,p,q,h1,h2,h3,h4,h5,_⟩:=h
  rcases List.mem_cons.1 hx with rfl | hx
  · exact ⟨g,t,cs,fuel,p,h1,h2,h3,h4⟩
  · exact laidVars_at h5 x hx
def spaceZ:List Int:=(List.range 256).map fun i=>gtabS 0 (i:Nat)
theorem space_is:Rows.laid_strings_asciiSpace=(Go.Lib.tabData .u8 spaceZ:DataW Unit):=by kernel_rfl
theorem glob_of {W:World} (h:laidMetH Tryz.prog laidL W):GlobOk W.heap (fun b=>b < W.heap.size):=by
 rw [laid_plain] at h
 obtain ⟨ps,hl,_⟩:=h
 obtain ⟨g,t,cs,fuel,p,hg,ht,hv,hd⟩:=laidVars_at hl ("strings.asciiSpace",Rows.laid_strings_asciiSpace) (by
  show _∈[_,_,_,_,_,_,_,_,_]
  exact .tail _ (.tail _ (.tail _ (.tail _ (.tail _ (.tail _ (.tail _ (.head _))))))))
 obtain rfl:=Option.some.inj ((show Tryz.prog.globalNamed "strings.asciiSpace" = some 0 by kernel_rfl).symm.trans hg)
 obtain ⟨t',ht',ha⟩ : ∃ t',(Tryz.prog.globals[0]?).map (·.type)=some t'∧Tryz.prog.underlying t'=some (.array 256 5)∧Tryz.prog.underlying 5=some (.int .u8)∧Tryz.prog.cellsOf 5=1∧Tryz.prog.cellsOf t'=256:=⟨_,rfl,by kernel_rfl,by kernel_rfl,by kernel_rfl,by kernel_rfl⟩
 obtain rfl:=Option.some.inj (ht'.symm.trans ht)
 rw [space_is] at hd
 have e:=Go.Lib.cells_of_tab ha.1 ha.2.1 ha.2.2.1 ha.2.2.2 hd
 intro g' n k hk
 unfold gKind at hk
 split at hk
 · rename_i h0
   obtain ⟨rfl⟩:(0:Nat)=g':=(Nat.eq_of_beq_eq_true h0).symm
   cases hk
   simp only [World.var?,hg,Option.bind_some] at hv
   split at hv
   · rename_i c e' fr hc
     cases hv
     refine ⟨by decide,?_,cs,e',fr,hc,fun i hi=>?_⟩
     · exact Array.getElem?_eq_some_iff.1 hc |>.1
     · have:cs.toList[i]? = some (.int .u8 (gtabS 0 i)):=by
        rw [e]
        simp [spaceZ,hi]
       simpa using this
   · cases hv
 · cases hk
theorem wit_shaped (os:Os):(World.laidAll Tryz.prog os laidL).Shaped Tryz.prog:=World.shaped_of_ZipB (by kernel_rfl) (by kernel_rfl)
theorem wit_met (os:Os) (args:Array Value):laidMetH Tryz.prog laidL ((World.laidAll Tryz.prog os laidL).forCall (fun _ _=>0) ⟨#[],args,[]⟩).memory:=by
 rw [laid_plain];exact laidMet_laidAll _ (by kernel_rfl) (by kernel_rfl)
end Go.Proofs.YtkjmcemgncalgaaGreatDoor
