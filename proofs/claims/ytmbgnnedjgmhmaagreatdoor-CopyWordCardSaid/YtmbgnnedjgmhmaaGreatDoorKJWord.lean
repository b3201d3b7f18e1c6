/- The law CopyWord holds of the given program: for every input the call answers true, and each argument reads as it did. The condition: the listed variables of Go's library hold what the program's text lays, which the card ties to that text. No other condition. -/
import Derived.Test.YtmbgnnedjgmhmaaGreatDoorKWalkL5
import Derived.Test.YtmbgnnedjgmhmaaGreatDoorKLOnce
import Derived.Test.YtmbgnnedjgmhmaaGreatDoorKJoin
import Derived.Test.YtmbgnnedjgmhmaaGreatDoorCards
set_option linter.all false
namespace Go.Proofs.YtmbgnnedjgmhmaaGreatDoor
open Go Go.Vx Go.ChangeShapes Go.WideShapes Go.ChangeAt Go.RowKit
set_option maxRecDepth 100000
theorem copyWord_lifted (os:Os) (started:os.Started) (H:Type) (enc:TypeId × Value→H) :
  ReturnsInHanded {} Tryz.checked os 5 .any (fun w args=>(Rows.copyWordSpec.pre enc Tryz.prog Tryz.f5 Rows.copyWordRow.domain false w args∧laidMetH Tryz.prog Rows.copyWordRow.laid w)∧sizedMet enc Tryz.prog Tryz.f5 (OpenSpec.ofChange Rows.copyWordSpec) false w args)
   (Rows.copyWordSpec.post enc Tryz.prog Tryz.f5 false true false false):=by
 refine returnsInHanded_of_change_and (C:=Tryz.checked) (X:=fun w _=>laidMetH Tryz.prog Rows.copyWordRow.laid w) (fun _ _ _ hh h=>h.of_heap hh) Tryz.own started (by kernel_rfl) Tryz.func5
  (ChangeSpec.witness_shaped (enc:=enc) (C:=Tryz.checked) (os:=os) (X:=fun w _=>laidMetH Tryz.prog Rows.copyWordRow.laid w) false (World.laidAll Tryz.prog os laidL) #[.slice none 0 0,.int .i64 0] 8 (World.laidAll_os _ _ _)
   (wit_shaped os) (by kernel_rfl) (by kernel_rfl) (by kernel_rfl) (wit_met os _)) ?_
 intro W base args ds gs before hval0 hW _ _ hL _
 have hval : ∀ (j:Nat) t v,Tryz.f5.params[j]? = some t→args[j]? = some v→Value.okWide Tryz.prog W .any base t v:=hval0
 have hW':=hW
 obtain ⟨p,q,hA0,hV,rfl,hfz,hnd⟩:=hW
 have hA:DataW.TrodAll enc Tryz.prog W 0 (fun _=>true) true Tryz.f5.params.toList args.toList ds p:=hA0
 rw [Tryz.params5] at hA hval
 obtain ⟨v0,vs0,d0,ds0,p0,q0,ha0,rfl,rfl,h0,hA⟩:=trodAll_cons hA
 obtain ⟨v1,vs1,d1,ds1,p1,q1,ha1,rfl,rfl,h1,hA⟩:=trodAll_cons hA
 obtain ⟨rfl,rfl,rfl⟩:=trodAll_nil hA
 obtain ⟨rfl,rfl⟩:=trodVars_none hV
 have ha:args = #[v0,v1]:=by cases args;simp_all
 subst ha
 obtain ⟨x0,w0,r0⟩:=Z6u opens22 (Z8c und22 (hval 0 22 v0 rfl rfl)) h0
 obtain ⟨x1,w1,r1⟩:=Z6u Z64 (cells_int und3 (hval 1 3 v1 rfl rfl)) h1
 refine ((Z6b x0 x1 true (copyWord_true x0 x1)).2 W (fun b=>b < W.heap.size) 1 [v0,v1] (by decide) (fun b h=>h) (glob_of hL) rfl (fun t d ht=>?_)).mono ?_
 · match t,ht with
   | 0,ht=>cases ht;exact ⟨v0,rfl,r0⟩
   | 1,ht=>cases ht;exact ⟨v1,rfl,r1⟩
 · rintro e W' ⟨v,I',rfl,_,_,hsame,_,hwo,hres⟩
   have hres:v = .bool true:=hres
   subst hres
   exact ⟨_,rfl,law_post Tryz.laidOut und4 rfl (by kernel_rfl) rfl rfl hW' hsame hwo⟩
theorem copyWord_holds:Rows.CopyWordSaid :=
 OpenClaim.holds_of_wide 5 Tryz.f5 rfl rfl rfl rfl rfl rfl rfl ⟨rfl,rfl,rfl,rfl,rfl⟩ rfl rfl rfl rfl rfl (by kernel_rfl) Tryz.func5 (by kernel_rfl)
  (of_decide_eq_true (by kernel_rfl)) (by unfold Func.isWrapper;first | (rw [if_pos (by decide +kernel)];kernel_rfl) | (rw [if_neg (by decide +kernel)];exact ⟨rfl,rfl⟩))
  (fun os started H enc _=>copyWord_lifted os started H enc)
theorem copyWord_card_holds:Rows.CopyWordCardSaid :=
 Claim7.holds_tied_plain_at .later [] [.data,.data,.data,.data,.sentinel,.sentinel,.listed,.data,.pinned] true (true,"392f2809ce29141a90221e78f6926bbcd5efb6b440df14e3b462a590c005364a") true
  copyWord_holds (fun _ h=>by cases h) (by kernel_rfl) (fun _ h=>by cases h) copyWord_row_tie rfl ⟨rfl,rfl⟩ (by kernel_rfl) rfl
  (fun f fn hf hfn=>by
   obtain rfl:f=5:=Option.some.inj ((show Tryz.prog.funcNamed "lapwing/lapwinglaw23.CopyWord" = some 5 by kernel_rfl).symm.trans hf) |>.symm
   obtain rfl:fn=Tryz.f5:=(Option.some.inj (Tryz.func5.symm.trans hfn)).symm
   exact ⟨by kernel_rfl,fun j t ht=>by
    rw [Tryz.params5] at ht
    have hm:t∈[22,3]:=by simpa using Array.mem_of_getElem? ht
    have hall:([22,3].all fun u=>!Tryz.prog.wantsStandIn u)=true:=by kernel_rfl
    exact (show Tryz.prog.wantsStandIn t=false by simpa using List.all_eq_true.1 hall t hm)⟩)
  (by kernel_rfl)
end Go.Proofs.YtmbgnnedjgmhmaaGreatDoor
