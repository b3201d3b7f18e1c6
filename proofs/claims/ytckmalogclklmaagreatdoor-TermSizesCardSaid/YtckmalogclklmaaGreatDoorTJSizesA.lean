/- The law TermSizes holds of the given program: for every input the call answers true, and each argument reads as it did. The condition: the listed variables of Go's library hold what the program's text lays, which the card ties to that text. No other condition. -/
import Derived.Test.YtckmalogclklmaaGreatDoorTWb20
import Derived.Test.YtckmalogclklmaaGreatDoorTR7
import Derived.Test.YtckmalogclklmaaGreatDoorTJoin
import Derived.Test.YtckmalogclklmaaGreatDoorTk5
import Derived.Test.YtckmalogclklmaaGreatDoorCards
set_option linter.all false
namespace Go.Proofs.YtckmalogclklmaaGreatDoor
open Go Go.Vx Go.ChangeShapes Go.WideShapes Go.ChangeAt Go.RowKit
set_option maxRecDepth 100000
set_option maxHeartbeats 16000000 in
theorem TM (os:Os) (started:os.Started) (H:Type) (enc:TypeId × Value→H) :
  ReturnsInHanded {} Tryz.checked os 3 .any (fun w args=>(Rows.termSizesSpec.pre enc Tryz.prog Tryz.f3 Rows.termSizesRow.domain false w args∧laidMetH Tryz.prog Rows.termSizesRow.laid w)∧sizedMet enc Tryz.prog Tryz.f3 (OpenSpec.ofChange Rows.termSizesSpec) false w args)
   (Rows.termSizesSpec.post enc Tryz.prog Tryz.f3 false true false false):=by
 refine returnsInHanded_of_change_and (C:=Tryz.checked) (X:=fun w _=>laidMetH Tryz.prog Rows.termSizesRow.laid w) (fun _ _ _ hh h=>h.of_heap hh) Tryz.own started (by kernel_rfl) Tryz.func3
  (ChangeSpec.witness_shaped (enc:=enc) (C:=Tryz.checked) (os:=os) (X:=fun w _=>laidMetH Tryz.prog Rows.termSizesRow.laid w) false (World.laidAll Tryz.prog os Ls) #[.agg #[.slice none 0 0,.int .i64 0,.string ⟨#[]⟩,.bool false,.slice none 0 0,.bool false,.string ⟨#[]⟩,.int .u8 0,.slice none 0 0,.int .i64 0,.int .i64 0,.bool false,.bool false,.int .i64 0,.int .i64 0,.int .i64 0,.int .u8 0,.int .u8 0,.int .u8 0,.int .u8 0,.int .i64 0,.int .i64 0,.int .i64 0,.int .i64 0,.int .i64 0,.int .i64 0,.int .i64 0,.slice none 0 0,.int .i64 0,.slice none 0 0,.int .i64 0,.int .i64 0,.bool false,.slice none 0 0,.int .i64 0,.int .i64 0,.bool false,.bool false,.int .i64 0,.int .i64 0,.int .i64 0,.int .u8 0,.int .u8 0,.int .u8 0,.int .u8 0,.int .i64 0,.int .i64 0,.int .i64 0,.int .i64 0,.int .i64 0,.int .i64 0,.int .i64 0,.slice none 0 0,.int .i64 0,.slice none 0 0,.int .i64 0,.int .i64 0,.bool false,.bool false,.int .i64 0,.int .i64 0,.int .i64 0,.bool false,.bool false,.int .i64 0,.int .i64 0,.int .i64 0,.int .u8 0,.int .u8 0,.int .u8 0,.int .u8 0,.int .i64 0,.int .i64 0,.int .i64 0,.int .i64 0,.int .i64 0,.bool false,.bool false,.int .i64 0,.int .i64 0,.int .i64 0,.int .u8 0,.int .u8 0,.int .u8 0,.int .u8 0,.int .i64 0,.int .i64 0,.int .i64 0,.slice none 0 0,.string ⟨#[]⟩,.int .i64 0,.int .i64 0],.int .i64 0,.int .i64 0] 8 (World.laidAll_os _ _ _)
   (acB os) (by kernel_rfl) (by kernel_rfl) (by kernel_rfl) (ahI os _)) ?_
 intro W base args ds gs before hval0 hW _ _ hL _
 have hval : ∀ (j:Nat) t v,Tryz.f3.params[j]? = some t→args[j]? = some v→Value.okWide Tryz.prog W .any base t v:=hval0
 have hW':=hW
 obtain ⟨p,q,hA0,hV,rfl,hfz,hnd⟩:=hW
 have hA:DataW.TrodAll enc Tryz.prog W 0 (fun _=>true) true Tryz.f3.params.toList args.toList ds p:=hA0
 rw [Tryz.params3] at hA hval
 obtain ⟨v0,vs0,d0,ds0,p0,q0,ha0,rfl,rfl,h0,hA⟩:=trodAll_cons hA
 obtain ⟨v1,vs1,d1,ds1,p1,q1,ha1,rfl,rfl,h1,hA⟩:=trodAll_cons hA
 obtain ⟨v2,vs2,d2,ds2,p2,q2,ha2,rfl,rfl,h2,hA⟩:=trodAll_cons hA
 obtain ⟨rfl,rfl,rfl⟩:=trodAll_nil hA
 obtain ⟨rfl,rfl⟩:=trodVars_none hV
 have ha:args = #[v0,v1,v2]:=by cases args;simp_all
 subst ha
 obtain ⟨cs0,hv0,_⟩:=okWide_struct Rx (hval 0 55 v0 rfl rfl)
 obtain ⟨x0,w0,r0⟩:=afs ahJ hv0 h0
 obtain ⟨x1,w1,r1⟩:=Zl jk (X5 acC (hval 1 3 v1 rfl rfl)) h1
 obtain ⟨x2,w2,r2⟩:=Zl jk (X5 acC (hval 2 3 v2 rfl rfl)) h2
 refine ((EU x0 x1 x2 true (WU x0 x1 x2)).2 W (fun b=>b < W.heap.size) 1 [v0,v1,v2] (by decide) (fun b h=>h) (ahK hL) rfl (fun t d ht=>?_)).mono ?_
 · match t,ht with
   | 0,ht=>cases ht;exact ⟨v0,rfl,r0⟩
   | 1,ht=>cases ht;exact ⟨v1,rfl,r1⟩
   | 2,ht=>cases ht;exact ⟨v2,rfl,r2⟩
 · rintro e W' ⟨v,I',rfl,_,_,hsame,_,hwo,hres⟩
   have hres:v = .bool true:=hres
   subst hres
   exact ⟨_,rfl,aft Tryz.laidOut afu rfl (by kernel_rfl) rfl rfl hW' hsame hwo⟩
theorem F8 {a b c d e:Bool} (h:a=true) (k:(b && c && d && e)=true):(a && b && c && d && e)=true:=by
 subst h
 simpa using k
theorem al5:(Rows.termSizesRow.wf (OpenSpec.ofChange Rows.termSizesSpec) && laidOutB Tryz.prog && mapsRowed Tryz.prog && Tryz.f3.params.all (Tryz.prog.readableRec ·))=true:=by kernel_rfl
theorem al6:(namedTie Tryz.prog Rows.termSizesRow.named Rows.termSizesSpec.vars && (Rows.termSizesRow.stops == []) && (Tryz.prog.stops == []) && (Rows.termSizesRow.knobs == []))=true:=by kernel_rfl
theorem al7:((Tryz.prog.stopKnobs == []) && (Rows.termSizesRow.inPlace == Tryz.prog.inPlace 3) && (Rows.termSizesRow.unfollowed == Tryz.prog.unfollowed 3) && (Rows.termSizesRow.recurses == Tryz.prog.recurses 3))=true:=by kernel_rfl
theorem al8:((Rows.termSizesRow.named == Tryz.prog.varsNamed 3) && (Rows.termSizesRow.maps == (Tryz.f3.params.toList++Rows.termSizesSpec.plain.varTypes Tryz.prog).any (Tryz.prog.mapsRec ·)) && (Rows.termSizesRow.ifaces == (Tryz.f3.params.toList++Rows.termSizesSpec.plain.varTypes Tryz.prog).any (Tryz.prog.ifacesRec ·)) && (Rows.termSizesRow.mapsOut == Tryz.prog.mapsAmong Tryz.f3.resultTypes.toList))=true:=by kernel_rfl
theorem al9:((Rows.termSizesRow.loops == (Tryz.f3.params.toList++Rows.termSizesSpec.plain.varTypes Tryz.prog).any (Tryz.prog.loopsFrom ·)) && (Rows.termSizesRow.wideKeys == (Tryz.f3.params.toList++Rows.termSizesSpec.plain.varTypes Tryz.prog++Tryz.f3.resultTypes.toList).any (Tryz.prog.wideKeysFrom ·)) && Rows.termSizesSpec.vars.all (Tryz.prog.varReadable ·) && Tryz.f3.resultTypes.all (fun t=>Tryz.prog.readableRec t && decide (t < Tryz.prog.types.size)))=true:=by kernel_rfl
theorem ama:((Rows.termSizesRow.ifacesOut == Tryz.f3.resultTypes.toList.any (Tryz.prog.ifacesRec ·)) && (Rows.termSizesRow.loopsOut == Tryz.f3.resultTypes.toList.any (Tryz.prog.loopsFrom ·)) && (Rows.termSizesRow.plainKeys == Tryz.prog.plainKeys) && Rows.termSizesRow.shortTexts.isNone)=true:=by kernel_rfl
theorem amb:(Tryz.prog.stopsHeard && Tryz.prog.mayEnter && (Rows.termSizesRow.lifted == Tryz.prog.liftsFinal) && (Tryz.prog.make == some Rows.termSizesRow.make))=true:=by kernel_rfl
theorem amc:((Rows.termSizesRow.kinds == (if Rows.termSizesRow.domain.isEmpty then [] else Tryz.f3.params.toList.map fun t=>match Tryz.prog.underlying t with | some (.int k)=>some k | _=>none)) && (Rows.termSizesRow.pinned == Rows.termSizesRow.pinnedBy) && (Rows.termSizesRow.veiled == (Tryz.f3.params.toList++Rows.termSizesSpec.plain.varTypes Tryz.prog++Tryz.f3.resultTypes.toList).any (Tryz.prog.veiledRec ·)) && Rows.termSizesRow.veiledFits Tryz.prog Tryz.f3.params.toList (Tryz.f3.params.toList++Rows.termSizesSpec.plain.varTypes Tryz.prog++Tryz.f3.resultTypes.toList))=true:=by kernel_rfl
theorem ahL:joinedFacts Tryz.prog 3 Tryz.f3 Rows.termSizesSpec Rows.termSizesRow=true:=F8 (F8 (F8 (F8 (F8 (F8 (F8 (al5) al6) al7) al8) al9) ama) amb) amc
theorem Vj:Rows.TermSizesSaid :=
 OpenClaim.holds_of_wide 3 Tryz.f3 rfl rfl rfl rfl rfl rfl rfl ⟨rfl,rfl,rfl,rfl,rfl⟩ rfl rfl rfl rfl rfl (by kernel_rfl) Tryz.func3 ahL
  (of_decide_eq_true (by kernel_rfl)) (by unfold Func.isWrapper;first | (rw [if_pos (by decide +kernel)];kernel_rfl) | (rw [if_neg (by decide +kernel)];exact ⟨rfl,rfl⟩))
  (fun os started H enc _=>TM os started H enc)
end Go.Proofs.YtckmalogclklmaaGreatDoor
