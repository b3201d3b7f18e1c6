/- The law InterpOther holds of the given program: for every input the call answers true, and each argument reads as it did. The condition: the listed variables of Go's library hold what the program's text lays, which the card ties to that text. No other condition. -/
import Derived.Test.YtmkigppfdmghnaaGreatDoorIWb13
import Derived.Test.YtmkigppfdmghnaaGreatDoorS9
import Derived.Test.YtmkigppfdmghnaaGreatDoorIJoin
import Derived.Test.YtmkigppfdmghnaaGreatDoorCards
set_option linter.all false
namespace Go.Proofs.YtmkigppfdmghnaaGreatDoor
open Go Go.Vx Go.ChangeShapes Go.WideShapes Go.ChangeAt Go.RowKit
set_option maxRecDepth 100000
set_option maxHeartbeats 16000000 in
theorem interpOther_lifted (os:Os) (started:os.Started) (H:Type) (enc:TypeId × Value→H) :
  ReturnsInHanded {} Tryz.checked os 6 .any (fun w args=>(Rows.interpOtherSpec.pre enc Tryz.prog Tryz.f6 Rows.interpOtherRow.domain false w args∧laidMetH Tryz.prog Rows.interpOtherRow.laid w)∧sizedMet enc Tryz.prog Tryz.f6 (OpenSpec.ofChange Rows.interpOtherSpec) false w args)
   (Rows.interpOtherSpec.post enc Tryz.prog Tryz.f6 false true false false):=by
 refine returnsInHanded_of_change_and (C:=Tryz.checked) (X:=fun w _=>laidMetH Tryz.prog Rows.interpOtherRow.laid w) (fun _ _ _ hh h=>h.of_heap hh) Tryz.own started (by kernel_rfl) Tryz.func6
  (ChangeSpec.witness_shaped (enc:=enc) (C:=Tryz.checked) (os:=os) (X:=fun w _=>laidMetH Tryz.prog Rows.interpOtherRow.laid w) false (World.laidAll Tryz.prog os laidL) #[.agg #[.slice none 0 0,.int .i64 0,.int .i64 0,.bool false,.bool false,.int .i64 0,.int .i64 0,.int .i64 0,.int .u8 0,.int .u8 0,.int .u8 0,.int .u8 0,.int .i64 0,.int .i64 0,.int .i64 0,.int .i64 0,.int .i64 0,.int .i64 0,.int .i64 0,.slice none 0 0,.int .i64 0,.slice none 0 0,.int .i64 0,.int .i64 0,.bool false,.slice none 0 0,.int .i64 0,.int .i64 0,.bool false,.bool false,.int .i64 0,.int .i64 0,.int .i64 0,.int .u8 0,.int .u8 0,.int .u8 0,.int .u8 0,.int .i64 0,.int .i64 0,.int .i64 0,.int .i64 0,.int .i64 0,.int .i64 0,.int .i64 0,.slice none 0 0,.int .i64 0,.slice none 0 0,.int .i64 0,.int .i64 0,.bool false,.bool false,.int .i64 0,.int .i64 0,.int .i64 0,.bool false,.bool false,.int .i64 0,.int .i64 0,.int .i64 0,.int .u8 0,.int .u8 0,.int .u8 0,.int .u8 0,.int .i64 0,.int .i64 0,.int .i64 0,.int .i64 0,.int .i64 0,.bool false,.bool false,.int .i64 0,.int .i64 0,.int .i64 0,.int .u8 0,.int .u8 0,.int .u8 0,.int .u8 0,.int .i64 0,.int .i64 0,.int .i64 0,.slice none 0 0,.string ⟨#[]⟩,.int .i64 0],.slice none 0 0] 8 (World.laidAll_os _ _ _)
   (wit_shaped os) (by kernel_rfl) (by kernel_rfl) (by kernel_rfl) (wit_met os _)) ?_
 intro W base args ds gs before hval0 hW _ _ hL _
 have hval : ∀ (j:Nat) t v,Tryz.f6.params[j]? = some t→args[j]? = some v→Value.okWide Tryz.prog W .any base t v:=hval0
 have hW':=hW
 obtain ⟨p,q,hA0,hV,rfl,hfz,hnd⟩:=hW
 have hA:DataW.TrodAll enc Tryz.prog W 0 (fun _=>true) true Tryz.f6.params.toList args.toList ds p:=hA0
 rw [Tryz.params6] at hA hval
 obtain ⟨v0,vs0,d0,ds0,p0,q0,ha0,rfl,rfl,h0,hA⟩:=trodAll_cons hA
 obtain ⟨v1,vs1,d1,ds1,p1,q1,ha1,rfl,rfl,h1,hA⟩:=trodAll_cons hA
 obtain ⟨rfl,rfl,rfl⟩:=trodAll_nil hA
 obtain ⟨rfl,rfl⟩:=trodVars_none hV
 have ha:args = #[v0,v1]:=by cases args;simp_all
 subst ha
 obtain ⟨cs0,hv0,_⟩:=okWide_struct und46 (hval 0 46 v0 rfl rfl)
 obtain ⟨x0,w0,r0⟩:=open_agg opens46 hv0 h0
 obtain ⟨x1,w1,r1⟩:=open_one opens34 (cells_slice und34 (hval 1 34 v1 rfl rfl)) h1
 refine ((lapwinglaw16_InterpOther_ok x0 x1 true (interpOther_true x0 x1)).2 W (fun b=>b < W.heap.size) 1 [v0,v1] (by decide) (fun b h=>h) (glob_of hL) rfl (fun t d ht=>?_)).mono ?_
 · match t,ht with
   | 0,ht=>cases ht;exact ⟨v0,rfl,r0⟩
   | 1,ht=>cases ht;exact ⟨v1,rfl,r1⟩
 · rintro e W' ⟨v,I',rfl,_,_,hsame,_,hwo,hres⟩
   have hres:v = .bool true:=hres
   subst hres
   exact ⟨_,rfl,law_post Tryz.laidOut und4 rfl (by kernel_rfl) rfl rfl hW' hsame hwo⟩
theorem jfact4 {a b c d e:Bool} (h:a=true) (k:(b && c && d && e)=true):(a && b && c && d && e)=true:=by
 subst h
 simpa using k
theorem jf0_6:(Rows.interpOtherRow.wf (OpenSpec.ofChange Rows.interpOtherSpec) && laidOutB Tryz.prog && mapsRowed Tryz.prog && Tryz.f6.params.all (Tryz.prog.readableRec ·))=true:=by kernel_rfl
theorem jf1_6:(namedTie Tryz.prog Rows.interpOtherRow.named Rows.interpOtherSpec.vars && (Rows.interpOtherRow.stops == []) && (Tryz.prog.stops == []) && (Rows.interpOtherRow.knobs == []))=true:=by kernel_rfl
theorem jf2_6:((Tryz.prog.stopKnobs == []) && (Rows.interpOtherRow.inPlace == Tryz.prog.inPlace 6) && (Rows.interpOtherRow.unfollowed == Tryz.prog.unfollowed 6) && (Rows.interpOtherRow.recurses == Tryz.prog.recurses 6))=true:=by kernel_rfl
theorem jf3_6:((Rows.interpOtherRow.named == Tryz.prog.varsNamed 6) && (Rows.interpOtherRow.maps == (Tryz.f6.params.toList++Rows.interpOtherSpec.plain.varTypes Tryz.prog).any (Tryz.prog.mapsRec ·)) && (Rows.interpOtherRow.ifaces == (Tryz.f6.params.toList++Rows.interpOtherSpec.plain.varTypes Tryz.prog).any (Tryz.prog.ifacesRec ·)) && (Rows.interpOtherRow.mapsOut == Tryz.prog.mapsAmong Tryz.f6.resultTypes.toList))=true:=by kernel_rfl
theorem jf4_6:((Rows.interpOtherRow.loops == (Tryz.f6.params.toList++Rows.interpOtherSpec.plain.varTypes Tryz.prog).any (Tryz.prog.loopsFrom ·)) && (Rows.interpOtherRow.wideKeys == (Tryz.f6.params.toList++Rows.interpOtherSpec.plain.varTypes Tryz.prog++Tryz.f6.resultTypes.toList).any (Tryz.prog.wideKeysFrom ·)) && Rows.interpOtherSpec.vars.all (Tryz.prog.varReadable ·) && Tryz.f6.resultTypes.all (fun t=>Tryz.prog.readableRec t && decide (t < Tryz.prog.types.size)))=true:=by kernel_rfl
theorem jf5_6:((Rows.interpOtherRow.ifacesOut == Tryz.f6.resultTypes.toList.any (Tryz.prog.ifacesRec ·)) && (Rows.interpOtherRow.loopsOut == Tryz.f6.resultTypes.toList.any (Tryz.prog.loopsFrom ·)) && (Rows.interpOtherRow.plainKeys == Tryz.prog.plainKeys) && Rows.interpOtherRow.shortTexts.isNone)=true:=by kernel_rfl
theorem jf6_6:(Tryz.prog.stopsHeard && Tryz.prog.mayEnter && (Rows.interpOtherRow.lifted == Tryz.prog.liftsFinal) && (Tryz.prog.make == some Rows.interpOtherRow.make))=true:=by kernel_rfl
theorem jf7_6:((Rows.interpOtherRow.kinds == (if Rows.interpOtherRow.domain.isEmpty then [] else Tryz.f6.params.toList.map fun t=>match Tryz.prog.underlying t with | some (.int k)=>some k | _=>none)) && (Rows.interpOtherRow.pinned == Rows.interpOtherRow.pinnedBy) && (Rows.interpOtherRow.veiled == (Tryz.f6.params.toList++Rows.interpOtherSpec.plain.varTypes Tryz.prog++Tryz.f6.resultTypes.toList).any (Tryz.prog.veiledRec ·)) && Rows.interpOtherRow.veiledFits Tryz.prog Tryz.f6.params.toList (Tryz.f6.params.toList++Rows.interpOtherSpec.plain.varTypes Tryz.prog++Tryz.f6.resultTypes.toList))=true:=by kernel_rfl
theorem closed6:joinedFacts Tryz.prog 6 Tryz.f6 Rows.interpOtherSpec Rows.interpOtherRow=true:=jfact4 (jfact4 (jfact4 (jfact4 (jfact4 (jfact4 (jfact4 (jf0_6) jf1_6) jf2_6) jf3_6) jf4_6) jf5_6) jf6_6) jf7_6
theorem interpOther_holds:Rows.InterpOtherSaid :=
 OpenClaim.holds_of_wide 6 Tryz.f6 rfl rfl rfl rfl rfl rfl rfl ⟨rfl,rfl,rfl,rfl,rfl⟩ rfl rfl rfl rfl rfl (by kernel_rfl) Tryz.func6 closed6
  (of_decide_eq_true (by kernel_rfl)) (by unfold Func.isWrapper;first | (rw [if_pos (by decide +kernel)];kernel_rfl) | (rw [if_neg (by decide +kernel)];exact ⟨rfl,rfl⟩))
  (fun os started H enc _=>interpOther_lifted os started H enc)
theorem interpOther_card_holds:Rows.InterpOtherCardSaid :=
 Claim7.holds_tied_plain_at .later [] [.data,.data,.data,.data,.data,.data,.sentinel,.sentinel,.data,.data,.listed,.data,.pinned] true (true,"72516a5a8f27df97f279d334320d7f24efa3cb163a94a36c539b54fe4b844bb5") true
  interpOther_holds (fun _ h=>by cases h) (by kernel_rfl) (fun _ h=>by cases h) interpOther_row_tie rfl ⟨rfl,rfl⟩ (by kernel_rfl) rfl
  (fun f fn hf hfn=>by
   obtain rfl:f=6:=Option.some.inj ((show Tryz.prog.funcNamed "lapwing/lapwinglaw16.InterpOther" = some 6 by kernel_rfl).symm.trans hf) |>.symm
   obtain rfl:fn=Tryz.f6:=(Option.some.inj (Tryz.func6.symm.trans hfn)).symm
   exact ⟨by kernel_rfl,fun j t ht=>by
    rw [Tryz.params6] at ht
    have hm:t∈[46,34]:=by simpa using Array.mem_of_getElem? ht
    have hall:([46,34].all fun u=>!Tryz.prog.wantsStandIn u)=true:=by kernel_rfl
    exact (show Tryz.prog.wantsStandIn t=false by simpa using List.all_eq_true.1 hall t hm)⟩)
  (by kernel_rfl)
end Go.Proofs.YtmkigppfdmghnaaGreatDoor
