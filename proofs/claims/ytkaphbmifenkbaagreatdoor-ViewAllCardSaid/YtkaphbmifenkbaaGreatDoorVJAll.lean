/- The law ViewAll holds of the given program: for every input the call answers true, and each argument reads as it did. The condition: the listed variables of Go's library hold what the program's text lays, which the card ties to that text. No other condition. -/
import Derived.Test.YtkaphbmifenkbaaGreatDoorVWalkL7
import Derived.Test.YtkaphbmifenkbaaGreatDoorVLAll
import Derived.Test.YtkaphbmifenkbaaGreatDoorVJoin
import Derived.Test.YtkaphbmifenkbaaGreatDoorCards
set_option linter.all false
namespace Go.Proofs.YtkaphbmifenkbaaGreatDoor
open Go Go.Vx Go.ChangeShapes Go.WideShapes Go.ChangeAt Go.RowKit
set_option maxRecDepth 100000
theorem viewAll_lifted (os:Os) (started:os.Started) (H:Type) (enc:TypeId × Value→H) :
  ReturnsInHanded {} Tryz.checked os 7 .any (fun w args=>(Rows.viewAllSpec.pre enc Tryz.prog Tryz.f7 Rows.viewAllRow.domain false w args∧laidMetH Tryz.prog Rows.viewAllRow.laid w)∧sizedMet enc Tryz.prog Tryz.f7 (OpenSpec.ofChange Rows.viewAllSpec) false w args)
   (Rows.viewAllSpec.post enc Tryz.prog Tryz.f7 false true false false):=by
 refine returnsInHanded_of_change_and (C:=Tryz.checked) (X:=fun w _=>laidMetH Tryz.prog Rows.viewAllRow.laid w) (fun _ _ _ hh h=>h.of_heap hh) Tryz.own started (by kernel_rfl) Tryz.func7
  (ChangeSpec.witness_shaped (enc:=enc) (C:=Tryz.checked) (os:=os) (X:=fun w _=>laidMetH Tryz.prog Rows.viewAllRow.laid w) false (World.laidAll Tryz.prog os laidL) #[.slice none 0 0,.bool false] 8 (World.laidAll_os _ _ _)
   (wit_shaped os) (by kernel_rfl) (by kernel_rfl) (by kernel_rfl) (wit_met os _)) ?_
 intro W base args ds gs before hval0 hW _ _ hL _
 have hval : ∀ (j:Nat) t v,Tryz.f7.params[j]? = some t→args[j]? = some v→Value.okWide Tryz.prog W .any base t v:=hval0
 have hW':=hW
 obtain ⟨p,q,hA0,hV,rfl,hfz,hnd⟩:=hW
 have hA:DataW.TrodAll enc Tryz.prog W 0 (fun _=>true) true Tryz.f7.params.toList args.toList ds p:=hA0
 rw [Tryz.params7] at hA hval
 obtain ⟨v0,vs0,d0,ds0,p0,q0,ha0,rfl,rfl,h0,hA⟩:=trodAll_cons hA
 obtain ⟨v1,vs1,d1,ds1,p1,q1,ha1,rfl,rfl,h1,hA⟩:=trodAll_cons hA
 obtain ⟨rfl,rfl,rfl⟩:=trodAll_nil hA
 obtain ⟨rfl,rfl⟩:=trodVars_none hV
 have ha:args = #[v0,v1]:=by cases args;simp_all
 subst ha
 obtain ⟨x0,w0,r0⟩:=open_one opens22 (cells_slice und22 (hval 0 22 v0 rfl rfl)) h0
 obtain ⟨x1,w1,r1⟩:=open_one opens4 (cells_bool und4 (hval 1 4 v1 rfl rfl)) h1
 refine ((lapwinglaw21_ViewAll_ok x0 x1 true (viewAll_true x0 x1)).2 W (fun b=>b < W.heap.size) 1 [v0,v1] (by decide) (fun b h=>h) (glob_of hL) rfl (fun t d ht=>?_)).mono ?_
 · match t,ht with
   | 0,ht=>cases ht;exact ⟨v0,rfl,r0⟩
   | 1,ht=>cases ht;exact ⟨v1,rfl,r1⟩
 · rintro e W' ⟨v,I',rfl,_,_,hsame,_,hwo,hres⟩
   have hres:v = .bool true:=hres
   subst hres
   exact ⟨_,rfl,law_post Tryz.laidOut und4 rfl (by kernel_rfl) rfl rfl hW' hsame hwo⟩
theorem viewAll_holds:Rows.ViewAllSaid :=
 OpenClaim.holds_of_wide 7 Tryz.f7 rfl rfl rfl rfl rfl rfl rfl ⟨rfl,rfl,rfl,rfl,rfl⟩ rfl rfl rfl rfl rfl (by kernel_rfl) Tryz.func7 (by kernel_rfl)
  (of_decide_eq_true (by kernel_rfl)) (by unfold Func.isWrapper;first | (rw [if_pos (by decide +kernel)];kernel_rfl) | (rw [if_neg (by decide +kernel)];exact ⟨rfl,rfl⟩))
  (fun os started H enc _=>viewAll_lifted os started H enc)
theorem viewAll_card_holds:Rows.ViewAllCardSaid :=
 Claim7.holds_tied_plain_at .later [] [.data,.data,.data,.data,.sentinel,.sentinel,.listed,.data,.pinned] true (true,"4bfbb077ea3069ecebe83bd8f5f5abe07173a1514fe79e78637423e600ce87ab") true
  viewAll_holds (fun _ h=>by cases h) (by kernel_rfl) (fun _ h=>by cases h) viewAll_row_tie rfl ⟨rfl,rfl⟩ (by kernel_rfl) rfl
  (fun f fn hf hfn=>by
   obtain rfl:f=7:=Option.some.inj ((show Tryz.prog.funcNamed "lapwing/lapwinglaw21.ViewAll" = some 7 by kernel_rfl).symm.trans hf) |>.symm
   obtain rfl:fn=Tryz.f7:=(Option.some.inj (Tryz.func7.symm.trans hfn)).symm
   exact ⟨by kernel_rfl,fun j t ht=>by
    rw [Tryz.params7] at ht
    have hm:t∈[22,4]:=by simpa using Array.mem_of_getElem? ht
    have hall:([22,4].all fun u=>!Tryz.prog.wantsStandIn u)=true:=by kernel_rfl
    exact (show Tryz.prog.wantsStandIn t=false by simpa using List.all_eq_true.1 hall t hm)⟩)
  (by kernel_rfl)
end Go.Proofs.YtkaphbmifenkbaaGreatDoor
