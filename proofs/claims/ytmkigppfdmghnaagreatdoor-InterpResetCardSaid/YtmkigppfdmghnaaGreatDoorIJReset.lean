/- The law InterpReset holds of the given program: for every input the call answers true, and each argument reads as it did. The condition: the listed variables of Go's library hold what the program's text lays, which the card ties to that text. No other condition. -/
import Derived.Test.YtmkigppfdmghnaaGreatDoorIWalkZ
import Derived.Test.YtmkigppfdmghnaaGreatDoorIP3
import Derived.Test.YtmkigppfdmghnaaGreatDoorIJoin
import Derived.Test.YtmkigppfdmghnaaGreatDoorCards
set_option linter.all false
namespace Go.Proofs.YtmkigppfdmghnaaGreatDoor
open Go Go.Vx Go.ChangeShapes Go.WideShapes Go.ChangeAt Go.RowKit
set_option maxRecDepth 100000
set_option maxHeartbeats 16000000 in
theorem interpReset_lifted (os:Os) (started:os.Started) (H:Type) (enc:TypeId × Value→H) :
  ReturnsInHanded {} Tryz.checked os 4 .any (fun w args=>(Rows.interpResetSpec.pre enc Tryz.prog Tryz.f4 Rows.interpResetRow.domain false w args∧laidMetH Tryz.prog Rows.interpResetRow.laid w)∧sizedMet enc Tryz.prog Tryz.f4 (OpenSpec.ofChange Rows.interpResetSpec) false w args)
   (Rows.interpResetSpec.post enc Tryz.prog Tryz.f4 false true false false):=by
 refine returnsInHanded_of_change_and (C:=Tryz.checked) (X:=fun w _=>laidMetH Tryz.prog Rows.interpResetRow.laid w) (fun _ _ _ hh h=>h.of_heap hh) Tryz.own started (by kernel_rfl) Tryz.func4
  (ChangeSpec.witness_shaped (enc:=enc) (C:=Tryz.checked) (os:=os) (X:=fun w _=>laidMetH Tryz.prog Rows.interpResetRow.laid w) false (World.laidAll Tryz.prog os laidL) #[.agg #[.slice none 0 0,.int .i64 0,.int .i64 0,.bool false,.bool false,.int .i64 0,.int .i64 0,.int .i64 0,.int .u8 0,.int .u8 0,.int .u8 0,.int .u8 0,.int .i64 0,.int .i64 0,.int .i64 0,.int .i64 0,.int .i64 0,.int .i64 0,.int .i64 0,.slice none 0 0,.int .i64 0,.slice none 0 0,.int .i64 0,.int .i64 0,.bool false,.slice none 0 0,.int .i64 0,.int .i64 0,.bool false,.bool false,.int .i64 0,.int .i64 0,.int .i64 0,.int .u8 0,.int .u8 0,.int .u8 0,.int .u8 0,.int .i64 0,.int .i64 0,.int .i64 0,.int .i64 0,.int .i64 0,.int .i64 0,.int .i64 0,.slice none 0 0,.int .i64 0,.slice none 0 0,.int .i64 0,.int .i64 0,.bool false,.bool false,.int .i64 0,.int .i64 0,.int .i64 0,.bool false,.bool false,.int .i64 0,.int .i64 0,.int .i64 0,.int .u8 0,.int .u8 0,.int .u8 0,.int .u8 0,.int .i64 0,.int .i64 0,.int .i64 0,.int .i64 0,.int .i64 0,.bool false,.bool false,.int .i64 0,.int .i64 0,.int .i64 0,.int .u8 0,.int .u8 0,.int .u8 0,.int .u8 0,.int .i64 0,.int .i64 0,.int .i64 0,.slice none 0 0,.string ⟨#[]⟩,.int .i64 0]] 8 (World.laidAll_os _ _ _)
   (wit_shaped os) (by kernel_rfl) (by kernel_rfl) (by kernel_rfl) (wit_met os _)) ?_
 intro W base args ds gs before hval0 hW _ _ hL _
 have hval : ∀ (j:Nat) t v,Tryz.f4.params[j]? = some t→args[j]? = some v→Value.okWide Tryz.prog W .any base t v:=hval0
 have hW':=hW
 obtain ⟨p,q,hA0,hV,rfl,hfz,hnd⟩:=hW
 have hA:DataW.TrodAll enc Tryz.prog W 0 (fun _=>true) true Tryz.f4.params.toList args.toList ds p:=hA0
 rw [Tryz.params4] at hA hval
 obtain ⟨v0,vs0,d0,ds0,p0,q0,ha0,rfl,rfl,h0,hA⟩:=trodAll_cons hA
 obtain ⟨rfl,rfl,rfl⟩:=trodAll_nil hA
 obtain ⟨rfl,rfl⟩:=trodVars_none hV
 have ha:args = #[v0]:=by cases args;simp_all
 subst ha
 obtain ⟨cs0,hv0,_⟩:=okWide_struct und46 (hval 0 46 v0 rfl rfl)
 obtain ⟨x0,w0,r0⟩:=open_agg opens46 hv0 h0
 refine ((lapwinglaw16_InterpReset_ok x0 true (interpReset_true x0)).2 W (fun b=>b < W.heap.size) 1 [v0] (by decide) (fun b h=>h) (glob_of hL) rfl (fun t d ht=>?_)).mono ?_
 · match t,ht with
   | 0,ht=>cases ht;exact ⟨v0,rfl,r0⟩
 · rintro e W' ⟨v,I',rfl,_,_,hsame,_,hwo,hres⟩
   have hres:v = .bool true:=hres
   subst hres
   exact ⟨_,rfl,law_post Tryz.laidOut und4 rfl (by kernel_rfl) rfl rfl hW' hsame hwo⟩
theorem jfact4 {a b c d e:Bool} (h:a=true) (k:(b && c && d && e)=true):(a && b && c && d && e)=true:=by
 subst h
 simpa using k
theorem jf0_4:(Rows.interpResetRow.wf (OpenSpec.ofChange Rows.interpResetSpec) && laidOutB Tryz.prog && mapsRowed Tryz.prog && Tryz.f4.params.all (Tryz.prog.readableRec ·))=true:=by kernel_rfl
theorem jf1_4:(namedTie Tryz.prog Rows.interpResetRow.named Rows.interpResetSpec.vars && (Rows.interpResetRow.stops == []) && (Tryz.prog.stops == []) && (Rows.interpResetRow.knobs == []))=true:=by kernel_rfl
theorem jf2_4:((Tryz.prog.stopKnobs == []) && (Rows.interpResetRow.inPlace == Tryz.prog.inPlace 4) && (Rows.interpResetRow.unfollowed == Tryz.prog.unfollowed 4) && (Rows.interpResetRow.recurses == Tryz.prog.recurses 4))=true:=by kernel_rfl
theorem jf3_4:((Rows.interpResetRow.named == Tryz.prog.varsNamed 4) && (Rows.interpResetRow.maps == (Tryz.f4.params.toList++Rows.interpResetSpec.plain.varTypes Tryz.prog).any (Tryz.prog.mapsRec ·)) && (Rows.interpResetRow.ifaces == (Tryz.f4.params.toList++Rows.interpResetSpec.plain.varTypes Tryz.prog).any (Tryz.prog.ifacesRec ·)) && (Rows.interpResetRow.mapsOut == Tryz.prog.mapsAmong Tryz.f4.resultTypes.toList))=true:=by kernel_rfl
theorem jf4_4:((Rows.interpResetRow.loops == (Tryz.f4.params.toList++Rows.interpResetSpec.plain.varTypes Tryz.prog).any (Tryz.prog.loopsFrom ·)) && (Rows.interpResetRow.wideKeys == (Tryz.f4.params.toList++Rows.interpResetSpec.plain.varTypes Tryz.prog++Tryz.f4.resultTypes.toList).any (Tryz.prog.wideKeysFrom ·)) && Rows.interpResetSpec.vars.all (Tryz.prog.varReadable ·) && Tryz.f4.resultTypes.all (fun t=>Tryz.prog.readableRec t && decide (t < Tryz.prog.types.size)))=true:=by kernel_rfl
theorem jf5_4:((Rows.interpResetRow.ifacesOut == Tryz.f4.resultTypes.toList.any (Tryz.prog.ifacesRec ·)) && (Rows.interpResetRow.loopsOut == Tryz.f4.resultTypes.toList.any (Tryz.prog.loopsFrom ·)) && (Rows.interpResetRow.plainKeys == Tryz.prog.plainKeys) && Rows.interpResetRow.shortTexts.isNone)=true:=by kernel_rfl
theorem jf6_4:(Tryz.prog.stopsHeard && Tryz.prog.mayEnter && (Rows.interpResetRow.lifted == Tryz.prog.liftsFinal) && (Tryz.prog.make == some Rows.interpResetRow.make))=true:=by kernel_rfl
theorem jf7_4:((Rows.interpResetRow.kinds == (if Rows.interpResetRow.domain.isEmpty then [] else Tryz.f4.params.toList.map fun t=>match Tryz.prog.underlying t with | some (.int k)=>some k | _=>none)) && (Rows.interpResetRow.pinned == Rows.interpResetRow.pinnedBy) && (Rows.interpResetRow.veiled == (Tryz.f4.params.toList++Rows.interpResetSpec.plain.varTypes Tryz.prog++Tryz.f4.resultTypes.toList).any (Tryz.prog.veiledRec ·)) && Rows.interpResetRow.veiledFits Tryz.prog Tryz.f4.params.toList (Tryz.f4.params.toList++Rows.interpResetSpec.plain.varTypes Tryz.prog++Tryz.f4.resultTypes.toList))=true:=by kernel_rfl
theorem closed4:joinedFacts Tryz.prog 4 Tryz.f4 Rows.interpResetSpec Rows.interpResetRow=true:=jfact4 (jfact4 (jfact4 (jfact4 (jfact4 (jfact4 (jfact4 (jf0_4) jf1_4) jf2_4) jf3_4) jf4_4) jf5_4) jf6_4) jf7_4
theorem interpReset_holds:Rows.InterpResetSaid :=
 OpenClaim.holds_of_wide 4 Tryz.f4 rfl rfl rfl rfl rfl rfl rfl ⟨rfl,rfl,rfl,rfl,rfl⟩ rfl rfl rfl rfl rfl (by kernel_rfl) Tryz.func4 closed4
  (of_decide_eq_true (by kernel_rfl)) (by unfold Func.isWrapper;first | (rw [if_pos (by decide +kernel)];kernel_rfl) | (rw [if_neg (by decide +kernel)];exact ⟨rfl,rfl⟩))
  (fun os started H enc _=>interpReset_lifted os started H enc)
theorem interpReset_card_holds:Rows.InterpResetCardSaid :=
 Claim7.holds_tied_plain_at .later [] [.data,.data,.data,.data,.data,.data,.sentinel,.sentinel,.data,.data,.listed,.data,.pinned] true (true,"72516a5a8f27df97f279d334320d7f24efa3cb163a94a36c539b54fe4b844bb5") true
  interpReset_holds (fun _ h=>by cases h) (by kernel_rfl) (fun _ h=>by cases h) interpReset_row_tie rfl ⟨rfl,rfl⟩ (by kernel_rfl) rfl
  (fun f fn hf hfn=>by
   obtain rfl:f=4:=Option.some.inj ((show Tryz.prog.funcNamed "lapwing/lapwinglaw16.InterpReset" = some 4 by kernel_rfl).symm.trans hf) |>.symm
   obtain rfl:fn=Tryz.f4:=(Option.some.inj (Tryz.func4.symm.trans hfn)).symm
   exact ⟨by kernel_rfl,fun j t ht=>by
    rw [Tryz.params4] at ht
    have hm:t∈[46]:=by simpa using Array.mem_of_getElem? ht
    have hall:([46].all fun u=>!Tryz.prog.wantsStandIn u)=true:=by kernel_rfl
    exact (show Tryz.prog.wantsStandIn t=false by simpa using List.all_eq_true.1 hall t hm)⟩)
  (by kernel_rfl)
end Go.Proofs.YtmkigppfdmghnaaGreatDoor
