/- The law TermCuts holds of the given program: for every input the call answers true, and each argument reads as it did. The condition: the listed variables of Go's library hold what the program's text lays, which the card ties to that text. No other condition. -/
import Derived.Test.YtmpgicplgjmjkaaGreatDoorTLTermCuts
import Derived.Test.YtmpgicplgjmjkaaGreatDoorSCuts
import Derived.Test.YtmpgicplgjmjkaaGreatDoorTJoin
import Derived.Test.YtmpgicplgjmjkaaGreatDoorTk5
import Derived.Test.YtmpgicplgjmjkaaGreatDoorCards
set_option linter.all false
namespace Go.Proofs.YtmpgicplgjmjkaaGreatDoor
open Go Go.Vx Go.ChangeShapes Go.WideShapes Go.ChangeAt Go.RowKit
set_option maxRecDepth 100000
set_option maxHeartbeats 16000000 in
theorem adz(os:Os)(started:os.Started)(H:Type)(enc:TypeId×Value->H) :
    ReturnsInHanded {} Tryz.checked os 3 .any (λw args=>(Rows.termCutsSpec.pre enc Tryz.prog Tryz.f3 Rows.termCutsRow.domain false w args/\laidMetH Tryz.prog Rows.termCutsRow.laid w)/\sizedMet enc Tryz.prog Tryz.f3 (OpenSpec.ofChange Rows.termCutsSpec) false w args)
      (Rows.termCutsSpec.post enc Tryz.prog Tryz.f3 false true false false):=by
  refine returnsInHanded_of_change_and (C:=Tryz.checked) (X:=λw _=>laidMetH Tryz.prog Rows.termCutsRow.laid w) (λ_ _ _ hh h=>h.of_heap hh) Tryz.own started (by kernel_rfl) Tryz.func3
    (ChangeSpec.witness_shaped (enc:=enc) (C:=Tryz.checked) (os:=os) (X:=λw _=>laidMetH Tryz.prog Rows.termCutsRow.laid w) false (World.laidAll Tryz.prog os Oi) #[.int .i64 0,.int .i64 0,.slice none 0 0,.slice none 0 0] 8 (World.laidAll_os _ _ _)
      (V4 os) (by kernel_rfl) (by kernel_rfl) (by kernel_rfl) (afa os _)) ?_
  intro W base args ds gs before hval0 hW _ _ hL _;have hval : ∀ (j:Nat) t v,Tryz.f3.params[j]? = some t->args[j]? = some v->Value.okWide Tryz.prog W .any base t v:=hval0;have hW':=hW;obtain⟨p,q,hA0,hV,rfl,hfz,hnd⟩:=hW;have hA:DataW.TrodAll enc Tryz.prog W 0 (λ_=>true) true Tryz.f3.params.toList args.toList ds p:=hA0;rw[Tryz.params3] at hA hval;obtain⟨v0,vs0,d0,ds0,p0,q0,ha0,rfl,rfl,h0,hA⟩:=trodAll_cons hA;obtain⟨v1,vs1,d1,ds1,p1,q1,ha1,rfl,rfl,h1,hA⟩:=trodAll_cons hA;obtain⟨v2,vs2,d2,ds2,p2,q2,ha2,rfl,rfl,h2,hA⟩:=trodAll_cons hA;obtain⟨v3,vs3,d3,ds3,p3,q3,ha3,rfl,rfl,h3,hA⟩:=trodAll_cons hA;obtain⟨rfl,rfl,rfl⟩:=trodAll_nil hA;obtain⟨rfl,rfl⟩:=trodVars_none hV;have ha:args = #[v0,v1,v2,v3]:=by cases args;simp_all
  subst ha;obtain⟨x0,w0,r0⟩:=GI lM (YM aiy (hval 0 3 v0 rfl rfl)) h0;obtain⟨x1,w1,r1⟩:=GI lM (YM aiy (hval 1 3 v1 rfl rfl)) h1;obtain⟨x2,w2,r2⟩:=GI UD (LC aht (hval 2 22 v2 rfl rfl)) h2;obtain⟨x3,w3,r3⟩:=GI afb (LC aqF (hval 3 23 v3 rfl rfl)) h3;refine((PI x0 x1 x2 x3 true (agZ x0 x1 x2 x3)).2 W (λb=>b<W.heap.size) 1 [v0,v1,v2,v3] (by decide) (λb h=>h) (afc hL) rfl (λt d ht=>?_)).mono ?_
  . match t,ht with
    | 0,ht=>cases ht;exact⟨v0,rfl,r0⟩
    | 1,ht=>cases ht;exact⟨v1,rfl,r1⟩
    | 2,ht=>cases ht;exact⟨v2,rfl,r2⟩
    | 3,ht=>cases ht;exact⟨v3,rfl,r3⟩
  rintro e W' ⟨v,I',rfl,_,_,hsame,_,hwo,hres⟩;have hres:v = .bool true:=hres;subst hres;exact⟨_,rfl,ab2 Tryz.laidOut aiz rfl (by kernel_rfl) rfl rfl hW' hsame hwo⟩

theorem nE{a b c d e:Bool}(h:a=true)(k:(b&&c&&d&&e)=true):(a&&b&&c&&d&&e)=true:=by
  subst h;simpa using k
theorem av0:(Rows.termCutsRow.wf (OpenSpec.ofChange Rows.termCutsSpec)&&laidOutB Tryz.prog&&mapsRowed Tryz.prog&&Tryz.f3.params.all (Tryz.prog.readableRec ·))=true:=by kernel_rfl
theorem av1:(namedTie Tryz.prog Rows.termCutsRow.named Rows.termCutsSpec.vars&&(Rows.termCutsRow.stops == [])&&(Tryz.prog.stops == [])&&(Rows.termCutsRow.knobs == []))=true:=by kernel_rfl
theorem av2:((Tryz.prog.stopKnobs == [])&&(Rows.termCutsRow.inPlace==Tryz.prog.inPlace 3)&&(Rows.termCutsRow.unfollowed==Tryz.prog.unfollowed 3)&&(Rows.termCutsRow.recurses==Tryz.prog.recurses 3))=true:=by kernel_rfl
theorem av3:((Rows.termCutsRow.named==Tryz.prog.varsNamed 3)&&(Rows.termCutsRow.maps==(Tryz.f3.params.toList++Rows.termCutsSpec.plain.varTypes Tryz.prog).any (Tryz.prog.mapsRec ·))&&(Rows.termCutsRow.ifaces==(Tryz.f3.params.toList++Rows.termCutsSpec.plain.varTypes Tryz.prog).any (Tryz.prog.ifacesRec ·))&&(Rows.termCutsRow.mapsOut==Tryz.prog.mapsAmong Tryz.f3.resultTypes.toList))=true:=by kernel_rfl
theorem av4:((Rows.termCutsRow.loops==(Tryz.f3.params.toList++Rows.termCutsSpec.plain.varTypes Tryz.prog).any (Tryz.prog.loopsFrom ·))&&(Rows.termCutsRow.wideKeys==(Tryz.f3.params.toList++Rows.termCutsSpec.plain.varTypes Tryz.prog++Tryz.f3.resultTypes.toList).any (Tryz.prog.wideKeysFrom ·))&&Rows.termCutsSpec.vars.all (Tryz.prog.varReadable ·)&&Tryz.f3.resultTypes.all (λt=>Tryz.prog.readableRec t&&decide (t<Tryz.prog.types.size)))=true:=by kernel_rfl
theorem av5:((Rows.termCutsRow.ifacesOut==Tryz.f3.resultTypes.toList.any (Tryz.prog.ifacesRec ·))&&(Rows.termCutsRow.loopsOut==Tryz.f3.resultTypes.toList.any (Tryz.prog.loopsFrom ·))&&(Rows.termCutsRow.plainKeys==Tryz.prog.plainKeys)&&Rows.termCutsRow.shortTexts.isNone)=true:=by kernel_rfl
theorem av6:(Tryz.prog.stopsHeard&&Tryz.prog.mayEnter&&(Rows.termCutsRow.lifted==Tryz.prog.liftsFinal)&&(Tryz.prog.make==some Rows.termCutsRow.make))=true:=by kernel_rfl
theorem av7:((Rows.termCutsRow.kinds==(if Rows.termCutsRow.domain.isEmpty then [] else Tryz.f3.params.toList.map λt=>match Tryz.prog.underlying t with|some (.int k)=>some k|_=>none))&&(Rows.termCutsRow.pinned==Rows.termCutsRow.pinnedBy)&&(Rows.termCutsRow.veiled==(Tryz.f3.params.toList++Rows.termCutsSpec.plain.varTypes Tryz.prog++Tryz.f3.resultTypes.toList).any (Tryz.prog.veiledRec ·))&&Rows.termCutsRow.veiledFits Tryz.prog Tryz.f3.params.toList (Tryz.f3.params.toList++Rows.termCutsSpec.plain.varTypes Tryz.prog++Tryz.f3.resultTypes.toList))=true:=by kernel_rfl
theorem arX:joinedFacts Tryz.prog 3 Tryz.f3 Rows.termCutsSpec Rows.termCutsRow=true:=nE (nE (nE (nE (nE (nE (nE (av0) av1) av2) av3) av4) av5) av6) av7
theorem afd:Rows.TermCutsSaid :=
  OpenClaim.holds_of_wide 3 Tryz.f3 rfl rfl rfl rfl rfl rfl rfl ⟨rfl,rfl,rfl,rfl,rfl⟩ rfl rfl rfl rfl rfl (by kernel_rfl) Tryz.func3 arX
    (of_decide_eq_true (by kernel_rfl)) (by unfold Func.isWrapper;first|(rw[if_pos (by decide +kernel)];kernel_rfl)|(rw[if_neg (by decide +kernel)];exact⟨rfl,rfl⟩))
    (λos started H enc _=>adz os started H enc)
end Go.Proofs.YtmpgicplgjmjkaaGreatDoor
