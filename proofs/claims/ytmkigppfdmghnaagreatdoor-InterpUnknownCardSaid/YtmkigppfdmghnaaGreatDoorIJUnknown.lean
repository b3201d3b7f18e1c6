/- The law InterpUnknown holds of the given program: for every input the call answers true, and each argument reads as it did. The condition: the listed variables of Go's library hold what the program's text lays, which the card ties to that text. No other condition. -/
import Derived.Test.YtmkigppfdmghnaaGreatDoorIWalkZ
import Derived.Test.YtmkigppfdmghnaaGreatDoorIP2
import Derived.Test.YtmkigppfdmghnaaGreatDoorIJoin
import Derived.Test.YtmkigppfdmghnaaGreatDoorCards
set_option linter.all false
namespace Go.Proofs.YtmkigppfdmghnaaGreatDoor
open Go Go.Vx Go.ChangeShapes Go.WideShapes Go.ChangeAt Go.RowKit
set_option maxRecDepth 100000
set_option maxHeartbeats 16000000 in
theorem interpUnknown_lifted (os:Os) (started:os.Started) (H:Type) (enc:TypeId × Value→H) :
  ReturnsInHanded {} Tryz.checked os 3 .any (fun w args=>(Rows.interpUnknownSpec.pre enc Tryz.prog Tryz.f3 Rows.interpUnknownRow.domain false w args∧laidMetH Tryz.prog Rows.interpUnknownRow.laid w)∧sizedMet enc Tryz.prog Tryz.f3 (OpenSpec.ofChange Rows.interpUnknownSpec) false w args)
   (Rows.interpUnknownSpec.post enc Tryz.prog Tryz.f3 false true false false):=by
 refine returnsInHanded_of_change_and (C:=Tryz.checked) (X:=fun w _=>laidMetH Tryz.prog Rows.interpUnknownRow.laid w) (fun _ _ _ hh h=>h.of_heap hh) Tryz.own started (by kernel_rfl) Tryz.func3
  (ChangeSpec.witness_shaped (enc:=enc) (C:=Tryz.checked) (os:=os) (X:=fun w _=>laidMetH Tryz.prog Rows.interpUnknownRow.laid w) false (World.laidAll Tryz.prog os laidL) #[.agg #[.slice none 0 0,.int .i64 0,.int .i64 0,.bool false,.bool false,.int .i64 0,.int .i64 0,.int .i64 0,.int .u8 0,.int .u8 0,.int .u8 0,.int .u8 0,.int .i64 0,.int .i64 0,.int .i64 0,.int .i64 0,.int .i64 0,.int .i64 0,.int .i64 0,.slice none 0 0,.int .i64 0,.slice none 0 0,.int .i64 0,.int .i64 0,.bool false,.slice none 0 0,.int .i64 0,.int .i64 0,.bool false,.bool false,.int .i64 0,.int .i64 0,.int .i64 0,.int .u8 0,.int .u8 0,.int .u8 0,.int .u8 0,.int .i64 0,.int .i64 0,.int .i64 0,.int .i64 0,.int .i64 0,.int .i64 0,.int .i64 0,.slice none 0 0,.int .i64 0,.slice none 0 0,.int .i64 0,.int .i64 0,.bool false,.bool false,.int .i64 0,.int .i64 0,.int .i64 0,.bool false,.bool false,.int .i64 0,.int .i64 0,.int .i64 0,.int .u8 0,.int .u8 0,.int .u8 0,.int .u8 0,.int .i64 0,.int .i64 0,.int .i64 0,.int .i64 0,.int .i64 0,.bool false,.bool false,.int .i64 0,.int .i64 0,.int .i64 0,.int .u8 0,.int .u8 0,.int .u8 0,.int .u8 0,.int .i64 0,.int .i64 0,.int .i64 0,.slice none 0 0,.string ⟨#[]⟩,.int .i64 0],.agg #[.int .i64 0,.int .i64 0,.int .u8 0,.string ⟨#[]⟩,.slice none 0 0,.string ⟨#[]⟩]] 8 (World.laidAll_os _ _ _)
   (wit_shaped os) (by kernel_rfl) (by kernel_rfl) (by kernel_rfl) (wit_met os _)) ?_
 intro W base args ds gs before hval0 hW _ _ hL _
 have hval : ∀ (j:Nat) t v,Tryz.f3.params[j]? = some t→args[j]? = some v→Value.okWide Tryz.prog W .any base t v:=hval0
 have hW':=hW
 obtain ⟨p,q,hA0,hV,rfl,hfz,hnd⟩:=hW
 have hA:DataW.TrodAll enc Tryz.prog W 0 (fun _=>true) true Tryz.f3.params.toList args.toList ds p:=hA0
 rw [Tryz.params3] at hA hval
 obtain ⟨v0,vs0,d0,ds0,p0,q0,ha0,rfl,rfl,h0,hA⟩:=trodAll_cons hA
 obtain ⟨v1,vs1,d1,ds1,p1,q1,ha1,rfl,rfl,h1,hA⟩:=trodAll_cons hA
 obtain ⟨rfl,rfl,rfl⟩:=trodAll_nil hA
 obtain ⟨rfl,rfl⟩:=trodVars_none hV
 have ha:args = #[v0,v1]:=by cases args;simp_all
 subst ha
 obtain ⟨cs0,hv0,_⟩:=okWide_struct und46 (hval 0 46 v0 rfl rfl)
 obtain ⟨x0,w0,r0⟩:=open_agg opens46 hv0 h0
 obtain ⟨cs1,hv1,_⟩:=okWide_struct und49 (hval 1 49 v1 rfl rfl)
 obtain ⟨x1,w1,r1⟩:=open_agg opens49 hv1 h1
 refine ((lapwinglaw16_InterpUnknown_ok x0 x1 true (interpUnknown_true x0 x1)).2 W (fun b=>b < W.heap.size) 1 [v0,v1] (by decide) (fun b h=>h) (glob_of hL) rfl (fun t d ht=>?_)).mono ?_
 · match t,ht with
   | 0,ht=>cases ht;exact ⟨v0,rfl,r0⟩
   | 1,ht=>cases ht;exact ⟨v1,rfl,r1⟩
 · rintro e W' ⟨v,I',rfl,_,_,hsame,_,hwo,hres⟩
   have hres:v = .bool true:=hres
   subst hres
   exact ⟨_,rfl,law_post Tryz.laidOut und4 rfl (by kernel_rfl) rfl rfl hW' hsame hwo⟩
theorem jfact4 {a b c d e:Bool} (h:a=true) (k:(b && c && d && e)=true):(a && b && c && d && e)=true:=by
 subst h
 simpa using k
theorem jf0_3:(Rows.interpUnknownRow.wf (OpenSpec.ofChange Rows.interpUnknownSpec) && laidOutB Tryz.prog && mapsRowed Tryz.prog && Tryz.f3.params.all (Tryz.prog.readableRec ·))=true:=by kernel_rfl
theorem jf1_3:(namedTie Tryz.prog Rows.interpUnknownRow.named Rows.interpUnknownSpec.vars && (Rows.interpUnknownRow.stops == []) && (Tryz.prog.stops == []) && (Rows.interpUnknownRow.knobs == []))=true:=by kernel_rfl
theorem jf2_3:((Tryz.prog.stopKnobs == []) && (Rows.interpUnknownRow.inPlace == Tryz.prog.inPlace 3) && (Rows.interpUnknownRow.unfollowed == Tryz.prog.unfollowed 3) && (Rows.interpUnknownRow.recurses == Tryz.prog.recurses 3))=true:=by kernel_rfl
theorem jf3_3:((Rows.interpUnknownRow.named == Tryz.prog.varsNamed 3) && (Rows.interpUnknownRow.maps == (Tryz.f3.params.toList++Rows.interpUnknownSpec.plain.varTypes Tryz.prog).any (Tryz.prog.mapsRec ·)) && (Rows.interpUnknownRow.ifaces == (Tryz.f3.params.toList++Rows.interpUnknownSpec.plain.varTypes Tryz.prog).any (Tryz.prog.ifacesRec ·)) && (Rows.interpUnknownRow.mapsOut == Tryz.prog.mapsAmong Tryz.f3.resultTypes.toList))=true:=by kernel_rfl
theorem jf4_3:((Rows.interpUnknownRow.loops == (Tryz.f3.params.toList++Rows.interpUnknownSpec.plain.varTypes Tryz.prog).any (Tryz.prog.loopsFrom ·)) && (Rows.interpUnknownRow.wideKeys == (Tryz.f3.params.toList++Rows.interpUnknownSpec.plain.varTypes Tryz.prog++Tryz.f3.resultTypes.toList).any (Tryz.prog.wideKeysFrom ·)) && Rows.interpUnknownSpec.vars.all (Tryz.prog.varReadable ·) && Tryz.f3.resultTypes.all (fun t=>Tryz.prog.readableRec t && decide (t < Tryz.prog.types.size)))=true:=by kernel_rfl
theorem jf5_3:((Rows.interpUnknownRow.ifacesOut == Tryz.f3.resultTypes.toList.any (Tryz.prog.ifacesRec ·)) && (Rows.interpUnknownRow.loopsOut == Tryz.f3.resultTypes.toList.any (Tryz.prog.loopsFrom ·)) && (Rows.interpUnknownRow.plainKeys == Tryz.prog.plainKeys) && Rows.interpUnknownRow.shortTexts.isNone)=true:=by kernel_rfl
theorem jf6_3:(Tryz.prog.stopsHeard && Tryz.prog.mayEnter && (Rows.interpUnknownRow.lifted == Tryz.prog.liftsFinal) && (Tryz.prog.make == some Rows.interpUnknownRow.make))=true:=by kernel_rfl
theorem jf7_3:((Rows.interpUnknownRow.kinds == (if Rows.interpUnknownRow.domain.isEmpty then [] else Tryz.f3.params.toList.map fun t=>match Tryz.prog.underlying t with | some (.int k)=>some k | _=>none)) && (Rows.interpUnknownRow.pinned == Rows.interpUnknownRow.pinnedBy) && (Rows.interpUnknownRow.veiled == (Tryz.f3.params.toList++Rows.interpUnknownSpec.plain.varTypes Tryz.prog++Tryz.f3.resultTypes.toList).any (Tryz.prog.veiledRec ·)) && Rows.interpUnknownRow.veiledFits Tryz.prog Tryz.f3.params.toList (Tryz.f3.params.toList++Rows.interpUnknownSpec.plain.varTypes Tryz.prog++Tryz.f3.resultTypes.toList))=true:=by kernel_rfl
theorem closed3:joinedFacts Tryz.prog 3 Tryz.f3 Rows.interpUnknownSpec Rows.interpUnknownRow=true:=jfact4 (jfact4 (jfact4 (jfact4 (jfact4 (jfact4 (jfact4 (jf0_3) jf1_3) jf2_3) jf3_3) jf4_3) jf5_3) jf6_3) jf7_3
theorem interpUnknown_holds:Rows.InterpUnknownSaid :=
 OpenClaim.holds_of_wide 3 Tryz.f3 rfl rfl rfl rfl rfl rfl rfl ⟨rfl,rfl,rfl,rfl,rfl⟩ rfl rfl rfl rfl rfl (by kernel_rfl) Tryz.func3 closed3
  (of_decide_eq_true (by kernel_rfl)) (by unfold Func.isWrapper;first | (rw [if_pos (by decide +kernel)];kernel_rfl) | (rw [if_neg (by decide +kernel)];exact ⟨rfl,rfl⟩))
  (fun os started H enc _=>interpUnknown_lifted os started H enc)
theorem interpUnknown_card_holds:Rows.InterpUnknownCardSaid :=
 Claim7.holds_tied_plain_at .later [] [.data,.data,.data,.data,.data,.data,.sentinel,.sentinel,.data,.data,.listed,.data,.pinned] true (true,"72516a5a8f27df97f279d334320d7f24efa3cb163a94a36c539b54fe4b844bb5") true
  interpUnknown_holds (fun _ h=>by cases h) (by kernel_rfl) (fun _ h=>by cases h) interpUnknown_row_tie rfl ⟨rfl,rfl⟩ (by kernel_rfl) rfl
  (fun f fn hf hfn=>by
   obtain rfl:f=3:=Option.some.inj ((show Tryz.prog.funcNamed "lapwing/lapwinglaw16.InterpUnknown" = some 3 by kernel_rfl).symm.trans hf) |>.symm
   obtain rfl:fn=Tryz.f3:=(Option.some.inj (Tryz.func3.symm.trans hfn)).symm
   exact ⟨by kernel_rfl,fun j t ht=>by
    rw [Tryz.params3] at ht
    have hm:t∈[46,49]:=by simpa using Array.mem_of_getElem? ht
    have hall:([46,49].all fun u=>!Tryz.prog.wantsStandIn u)=true:=by kernel_rfl
    exact (show Tryz.prog.wantsStandIn t=false by simpa using List.all_eq_true.1 hall t hm)⟩)
  (by kernel_rfl)
end Go.Proofs.YtmkigppfdmghnaaGreatDoor
