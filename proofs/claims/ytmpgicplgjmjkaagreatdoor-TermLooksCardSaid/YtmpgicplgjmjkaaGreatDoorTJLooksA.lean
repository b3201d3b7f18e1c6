/- The law TermLooks holds of the given program: for every input the call answers true, and each argument reads as it did. The condition: the listed variables of Go's library hold what the program's text lays, which the card ties to that text. No other condition. -/
import Derived.Test.YtmpgicplgjmjkaaGreatDoorTLTermLooks
import Derived.Test.YtmpgicplgjmjkaaGreatDoorSLooks
import Derived.Test.YtmpgicplgjmjkaaGreatDoorTJoin
import Derived.Test.YtmpgicplgjmjkaaGreatDoorTk5
import Derived.Test.YtmpgicplgjmjkaaGreatDoorCards
set_option linter.all false
namespace Go.Proofs.YtmpgicplgjmjkaaGreatDoor
open Go Go.Vx Go.ChangeShapes Go.WideShapes Go.ChangeAt Go.RowKit
set_option maxRecDepth 100000
set_option maxHeartbeats 16000000 in
theorem ab3(os:Os)(started:os.Started)(H:Type)(enc:TypeId×Value->H) :
    ReturnsInHanded {} Tryz.checked os 5 .any (λw args=>(Rows.termLooksSpec.pre enc Tryz.prog Tryz.f5 Rows.termLooksRow.domain false w args/\laidMetH Tryz.prog Rows.termLooksRow.laid w)/\sizedMet enc Tryz.prog Tryz.f5 (OpenSpec.ofChange Rows.termLooksSpec) false w args)
      (Rows.termLooksSpec.post enc Tryz.prog Tryz.f5 false true false false):=by
  refine returnsInHanded_of_change_and (C:=Tryz.checked) (X:=λw _=>laidMetH Tryz.prog Rows.termLooksRow.laid w) (λ_ _ _ hh h=>h.of_heap hh) Tryz.own started (by kernel_rfl) Tryz.func5
    (ChangeSpec.witness_shaped (enc:=enc) (C:=Tryz.checked) (os:=os) (X:=λw _=>laidMetH Tryz.prog Rows.termLooksRow.laid w) false (World.laidAll Tryz.prog os Oi) #[.agg #[.slice none 0 0,.int .i64 0,.string ⟨#[]⟩,.bool false,.slice none 0 0,.bool false,.string ⟨#[]⟩,.int .u8 0,.slice none 0 0,.int .i64 0,.int .i64 0,.bool false,.bool false,.int .i64 0,.int .i64 0,.int .i64 0,.int .u8 0,.int .u8 0,.int .u8 0,.int .u8 0,.int .i64 0,.int .i64 0,.int .i64 0,.int .i64 0,.int .i64 0,.int .i64 0,.int .i64 0,.slice none 0 0,.int .i64 0,.slice none 0 0,.int .i64 0,.int .i64 0,.bool false,.slice none 0 0,.int .i64 0,.int .i64 0,.bool false,.bool false,.int .i64 0,.int .i64 0,.int .i64 0,.int .u8 0,.int .u8 0,.int .u8 0,.int .u8 0,.int .i64 0,.int .i64 0,.int .i64 0,.int .i64 0,.int .i64 0,.int .i64 0,.int .i64 0,.slice none 0 0,.int .i64 0,.slice none 0 0,.int .i64 0,.int .i64 0,.bool false,.bool false,.int .i64 0,.int .i64 0,.int .i64 0,.bool false,.bool false,.int .i64 0,.int .i64 0,.int .i64 0,.int .u8 0,.int .u8 0,.int .u8 0,.int .u8 0,.int .i64 0,.int .i64 0,.int .i64 0,.int .i64 0,.int .i64 0,.bool false,.bool false,.int .i64 0,.int .i64 0,.int .i64 0,.int .u8 0,.int .u8 0,.int .u8 0,.int .u8 0,.int .i64 0,.int .i64 0,.int .i64 0,.slice none 0 0,.string ⟨#[]⟩,.int .i64 0,.int .i64 0],.int .i64 0,.slice none 0 0] 8 (World.laidAll_os _ _ _)
      (V4 os) (by kernel_rfl) (by kernel_rfl) (by kernel_rfl) (afa os _)) ?_
  intro W base args ds gs before hval0 hW _ _ hL _;have hval : ∀ (j:Nat) t v,Tryz.f5.params[j]? = some t->args[j]? = some v->Value.okWide Tryz.prog W .any base t v:=hval0;have hW':=hW;obtain⟨p,q,hA0,hV,rfl,hfz,hnd⟩:=hW;have hA:DataW.TrodAll enc Tryz.prog W 0 (λ_=>true) true Tryz.f5.params.toList args.toList ds p:=hA0;rw[Tryz.params5] at hA hval;obtain⟨v0,vs0,d0,ds0,p0,q0,ha0,rfl,rfl,h0,hA⟩:=trodAll_cons hA;obtain⟨v1,vs1,d1,ds1,p1,q1,ha1,rfl,rfl,h1,hA⟩:=trodAll_cons hA;obtain⟨v2,vs2,d2,ds2,p2,q2,ha2,rfl,rfl,h2,hA⟩:=trodAll_cons hA;obtain⟨rfl,rfl,rfl⟩:=trodAll_nil hA;obtain⟨rfl,rfl⟩:=trodVars_none hV;have ha:args = #[v0,v1,v2]:=by cases args;simp_all
  subst ha;obtain⟨cs0,hv0,_⟩:=okWide_struct V5 (hval 0 86 v0 rfl rfl);obtain⟨x0,w0,r0⟩:=aiB akZ hv0 h0;obtain⟨x1,w1,r1⟩:=GI lM (YM aiy (hval 1 3 v1 rfl rfl)) h1;obtain⟨x2,w2,r2⟩:=GI UD (LC aht (hval 2 22 v2 rfl rfl)) h2;refine((Oj x0 x1 x2 true (ae2 x0 x1 x2)).2 W (λb=>b<W.heap.size) 1 [v0,v1,v2] (by decide) (λb h=>h) (afc hL) rfl (λt d ht=>?_)).mono ?_
  . match t,ht with
    | 0,ht=>cases ht;exact⟨v0,rfl,r0⟩
    | 1,ht=>cases ht;exact⟨v1,rfl,r1⟩
    | 2,ht=>cases ht;exact⟨v2,rfl,r2⟩
  rintro e W' ⟨v,I',rfl,_,_,hsame,_,hwo,hres⟩;have hres:v = .bool true:=hres;subst hres;exact⟨_,rfl,ab2 Tryz.laidOut aiz rfl (by kernel_rfl) rfl rfl hW' hsame hwo⟩

theorem nE{a b c d e:Bool}(h:a=true)(k:(b&&c&&d&&e)=true):(a&&b&&c&&d&&e)=true:=by
  subst h;simpa using k
theorem av8:(Rows.termLooksRow.wf (OpenSpec.ofChange Rows.termLooksSpec)&&laidOutB Tryz.prog&&mapsRowed Tryz.prog&&Tryz.f5.params.all (Tryz.prog.readableRec ·))=true:=by kernel_rfl
theorem av9:(namedTie Tryz.prog Rows.termLooksRow.named Rows.termLooksSpec.vars&&(Rows.termLooksRow.stops == [])&&(Tryz.prog.stops == [])&&(Rows.termLooksRow.knobs == []))=true:=by kernel_rfl
theorem awc:((Tryz.prog.stopKnobs == [])&&(Rows.termLooksRow.inPlace==Tryz.prog.inPlace 5)&&(Rows.termLooksRow.unfollowed==Tryz.prog.unfollowed 5)&&(Rows.termLooksRow.recurses==Tryz.prog.recurses 5))=true:=by kernel_rfl
theorem awd:((Rows.termLooksRow.named==Tryz.prog.varsNamed 5)&&(Rows.termLooksRow.maps==(Tryz.f5.params.toList++Rows.termLooksSpec.plain.varTypes Tryz.prog).any (Tryz.prog.mapsRec ·))&&(Rows.termLooksRow.ifaces==(Tryz.f5.params.toList++Rows.termLooksSpec.plain.varTypes Tryz.prog).any (Tryz.prog.ifacesRec ·))&&(Rows.termLooksRow.mapsOut==Tryz.prog.mapsAmong Tryz.f5.resultTypes.toList))=true:=by kernel_rfl
theorem awe:((Rows.termLooksRow.loops==(Tryz.f5.params.toList++Rows.termLooksSpec.plain.varTypes Tryz.prog).any (Tryz.prog.loopsFrom ·))&&(Rows.termLooksRow.wideKeys==(Tryz.f5.params.toList++Rows.termLooksSpec.plain.varTypes Tryz.prog++Tryz.f5.resultTypes.toList).any (Tryz.prog.wideKeysFrom ·))&&Rows.termLooksSpec.vars.all (Tryz.prog.varReadable ·)&&Tryz.f5.resultTypes.all (λt=>Tryz.prog.readableRec t&&decide (t<Tryz.prog.types.size)))=true:=by kernel_rfl
theorem awf:((Rows.termLooksRow.ifacesOut==Tryz.f5.resultTypes.toList.any (Tryz.prog.ifacesRec ·))&&(Rows.termLooksRow.loopsOut==Tryz.f5.resultTypes.toList.any (Tryz.prog.loopsFrom ·))&&(Rows.termLooksRow.plainKeys==Tryz.prog.plainKeys)&&Rows.termLooksRow.shortTexts.isNone)=true:=by kernel_rfl
theorem awg:(Tryz.prog.stopsHeard&&Tryz.prog.mayEnter&&(Rows.termLooksRow.lifted==Tryz.prog.liftsFinal)&&(Tryz.prog.make==some Rows.termLooksRow.make))=true:=by kernel_rfl
theorem awh:((Rows.termLooksRow.kinds==(if Rows.termLooksRow.domain.isEmpty then [] else Tryz.f5.params.toList.map λt=>match Tryz.prog.underlying t with|some (.int k)=>some k|_=>none))&&(Rows.termLooksRow.pinned==Rows.termLooksRow.pinnedBy)&&(Rows.termLooksRow.veiled==(Tryz.f5.params.toList++Rows.termLooksSpec.plain.varTypes Tryz.prog++Tryz.f5.resultTypes.toList).any (Tryz.prog.veiledRec ·))&&Rows.termLooksRow.veiledFits Tryz.prog Tryz.f5.params.toList (Tryz.f5.params.toList++Rows.termLooksSpec.plain.varTypes Tryz.prog++Tryz.f5.resultTypes.toList))=true:=by kernel_rfl
theorem arY:joinedFacts Tryz.prog 5 Tryz.f5 Rows.termLooksSpec Rows.termLooksRow=true:=nE (nE (nE (nE (nE (nE (nE (av8) av9) awc) awd) awe) awf) awg) awh
theorem adA:Rows.TermLooksSaid :=
  OpenClaim.holds_of_wide 5 Tryz.f5 rfl rfl rfl rfl rfl rfl rfl ⟨rfl,rfl,rfl,rfl,rfl⟩ rfl rfl rfl rfl rfl (by kernel_rfl) Tryz.func5 arY
    (of_decide_eq_true (by kernel_rfl)) (by unfold Func.isWrapper;first|(rw[if_pos (by decide +kernel)];kernel_rfl)|(rw[if_neg (by decide +kernel)];exact⟨rfl,rfl⟩))
    (λos started H enc _=>ab3 os started H enc)
end Go.Proofs.YtmpgicplgjmjkaaGreatDoor
