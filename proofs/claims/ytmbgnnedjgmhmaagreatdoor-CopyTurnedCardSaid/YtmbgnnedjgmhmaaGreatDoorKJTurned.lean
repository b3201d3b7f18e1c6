/- The law CopyTurned holds of the given program: for every input the call answers true, and each argument reads as it did. The condition: the listed variables of Go's library hold what the program's text lays, which the card ties to that text. No other condition. -/
import Derived.Test.YtmbgnnedjgmhmaaGreatDoorKWalkL3
import Derived.Test.YtmbgnnedjgmhmaaGreatDoorKLTurn
import Derived.Test.YtmbgnnedjgmhmaaGreatDoorKJoin
import Derived.Test.YtmbgnnedjgmhmaaGreatDoorCards
set_option linter.all false
namespace Go.Proofs.YtmbgnnedjgmhmaaGreatDoor
open Go Go.Vx Go.ChangeShapes Go.WideShapes Go.ChangeAt Go.RowKit
set_option maxRecDepth 100000
theorem und24:Tryz.prog.underlying 24=some (.struct (fsOf 24)):=by kernel_rfl
theorem opens24:Z42 Tryz.prog 24 Y5 2 (fun x j=>Xt nvS x j) (fun x=>inR .i64 x.fX):=by
 intro H enc w base sp held fuel cs x h
 obtain ⟨a,_,ha⟩:=Xu und24 h 0 (ft:=3) (off:=0) (by kernel_rfl) c3 Z64
 obtain ⟨b,wb,hb⟩:=Xu und24 h 1 (ft:=3) (off:=1) (by kernel_rfl) c3 Z64
 refine ⟨(Z7u und24 h).trans (by kernel_rfl),⟨a,b⟩,wb,fun j hj=>?_⟩
 match j,hj with
 | 0,_=>exact ha 0 (by omega)
 | 1,_=>exact hb 0 (by omega)
theorem copyTurned_lifted (os:Os) (started:os.Started) (H:Type) (enc:TypeId × Value→H) :
  ReturnsInHanded {} Tryz.checked os 3 .any (fun w args=>(Rows.copyTurnedSpec.pre enc Tryz.prog Tryz.f3 Rows.copyTurnedRow.domain false w args∧laidMetH Tryz.prog Rows.copyTurnedRow.laid w)∧sizedMet enc Tryz.prog Tryz.f3 (OpenSpec.ofChange Rows.copyTurnedSpec) false w args)
   (Rows.copyTurnedSpec.post enc Tryz.prog Tryz.f3 false true false false):=by
 refine returnsInHanded_of_change_and (C:=Tryz.checked) (X:=fun w _=>laidMetH Tryz.prog Rows.copyTurnedRow.laid w) (fun _ _ _ hh h=>h.of_heap hh) Tryz.own started (by kernel_rfl) Tryz.func3
  (ChangeSpec.witness_shaped (enc:=enc) (C:=Tryz.checked) (os:=os) (X:=fun w _=>laidMetH Tryz.prog Rows.copyTurnedRow.laid w) false (World.laidAll Tryz.prog os laidL) #[.slice none 0 0,.agg #[.int .i64 0,.int .i64 0],.agg #[.int .i64 0,.int .i64 0]] 8 (World.laidAll_os _ _ _)
   (wit_shaped os) (by kernel_rfl) (by kernel_rfl) (by kernel_rfl) (wit_met os _)) ?_
 intro W base args ds gs before hval0 hW _ _ hL _
 have hval : ∀ (j:Nat) t v,Tryz.f3.params[j]? = some t→args[j]? = some v→Value.okWide Tryz.prog W .any base t v:=hval0
 have hW':=hW
 obtain ⟨p,q,hA0,hV,rfl,hfz,hnd⟩:=hW
 have hA:DataW.TrodAll enc Tryz.prog W 0 (fun _=>true) true Tryz.f3.params.toList args.toList ds p:=hA0
 rw [Tryz.params3] at hA hval
 obtain ⟨v0,vs0,d0,ds0,p0,q0,ha0,rfl,rfl,h0,hA⟩:=trodAll_cons hA
 obtain ⟨v1,vs1,d1,ds1,p1,q1,ha1,rfl,rfl,h1,hA⟩:=trodAll_cons hA
 obtain ⟨v2,vs2,d2,ds2,p2,q2,ha2,rfl,rfl,h2,hA⟩:=trodAll_cons hA
 obtain ⟨rfl,rfl,rfl⟩:=trodAll_nil hA
 obtain ⟨rfl,rfl⟩:=trodVars_none hV
 have ha:args = #[v0,v1,v2]:=by cases args;simp_all
 subst ha
 obtain ⟨x0,w0,r0⟩:=open_one opens22 (cells_slice und22 (hval 0 22 v0 rfl rfl)) h0
 obtain ⟨cs1,hv1,_⟩:=okWide_struct und24 (hval 1 24 v1 rfl rfl)
 obtain ⟨x1,w1,r1⟩:=open_agg opens24 hv1 h1
 obtain ⟨cs2,hv2,_⟩:=okWide_struct und24 (hval 2 24 v2 rfl rfl)
 obtain ⟨x2,w2,r2⟩:=open_agg opens24 hv2 h2
 refine ((Z4w x0 x1 x2 true (copyTurned_true x0 x1 x2 w1 w2)).2 W (fun b=>b < W.heap.size) 1 [v0,v1,v2] (by decide) (fun b h=>h) (glob_of hL) rfl (fun t d ht=>?_)).mono ?_
 · match t,ht with
   | 0,ht=>cases ht;exact ⟨v0,rfl,r0⟩
   | 1,ht=>cases ht;exact ⟨v1,rfl,r1⟩
   | 2,ht=>cases ht;exact ⟨v2,rfl,r2⟩
 · rintro e W' ⟨v,I',rfl,_,_,hsame,_,hwo,hres⟩
   have hres:v = .bool true:=hres
   subst hres
   exact ⟨_,rfl,law_post Tryz.laidOut und4 rfl (by kernel_rfl) rfl rfl hW' hsame hwo⟩
theorem copyTurned_holds:Rows.CopyTurnedSaid :=
 OpenClaim.holds_of_wide 3 Tryz.f3 rfl rfl rfl rfl rfl rfl rfl ⟨rfl,rfl,rfl,rfl,rfl⟩ rfl rfl rfl rfl rfl (by kernel_rfl) Tryz.func3 (by kernel_rfl)
  (of_decide_eq_true (by kernel_rfl)) (by unfold Func.isWrapper;first | (rw [if_pos (by decide +kernel)];kernel_rfl) | (rw [if_neg (by decide +kernel)];exact ⟨rfl,rfl⟩))
  (fun os started H enc _=>copyTurned_lifted os started H enc)
theorem copyTurned_card_holds:Rows.CopyTurnedCardSaid :=
 Claim7.holds_tied_plain_at .later [] [.data,.data,.data,.data,.sentinel,.sentinel,.listed,.data,.pinned] true (true,"392f2809ce29141a90221e78f6926bbcd5efb6b440df14e3b462a590c005364a") true
  copyTurned_holds (fun _ h=>by cases h) (by kernel_rfl) (fun _ h=>by cases h) copyTurned_row_tie rfl ⟨rfl,rfl⟩ (by kernel_rfl) rfl
  (fun f fn hf hfn=>by
   obtain rfl:f=3:=Option.some.inj ((show Tryz.prog.funcNamed "lapwing/lapwinglaw23.CopyTurned" = some 3 by kernel_rfl).symm.trans hf) |>.symm
   obtain rfl:fn=Tryz.f3:=(Option.some.inj (Tryz.func3.symm.trans hfn)).symm
   exact ⟨by kernel_rfl,fun j t ht=>by
    rw [Tryz.params3] at ht
    have hm:t∈[22,24,24]:=by simpa using Array.mem_of_getElem? ht
    have hall:([22,24,24].all fun u=>!Tryz.prog.wantsStandIn u)=true:=by kernel_rfl
    exact (show Tryz.prog.wantsStandIn t=false by simpa using List.all_eq_true.1 hall t hm)⟩)
  (by kernel_rfl)
end Go.Proofs.YtmbgnnedjgmhmaaGreatDoor
