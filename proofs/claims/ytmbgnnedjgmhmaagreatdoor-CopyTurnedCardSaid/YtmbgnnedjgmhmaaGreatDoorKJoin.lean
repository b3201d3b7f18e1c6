/- What the joins of this seat share: the listed variables' condition gives the one table that the walks read; the witness meets it. -/
import Derived.Test.YtmbgnnedjgmhmaaGreatDoorVxOpen
import Derived.Test.YtmbgnnedjgmhmaaGreatDoorKHead
import Derived.Test.YtmbgnnedjgmhmaaGreatDoorRows
import Derived.Test.YtmbgnnedjgmhmaaGreatDoorTie
import Derived.ProofKit
import Derived.OpenShut
import Derived.LaidMore
import Derived.Lay
import Derived.SevenTiedAt
import Derived.Stop.Joined
import Derived.Lib.LaidTab
set_option linter.all false
namespace Go.Proofs.YtmbgnnedjgmhmaaGreatDoor
open Go Go.Vx Go.ChangeShapes Go.WideShapes Go.ChangeAt Go.RowKit
set_option maxRecDepth 100000
theorem Tryz.own:ownKnob Tryz.prog.godebug=none:=by kernel_rfl
theorem Tryz.laidOut:laidOutB Tryz.prog=true:=by kernel_rfl
theorem und3:Tryz.prog.underlying 3=some (.int .i64):=by kernel_rfl
theorem und4:Tryz.prog.underlying 4=some .bool:=by kernel_rfl
theorem und22:Tryz.prog.underlying 22=some (.slice 49):=by kernel_rfl
theorem und47:Tryz.prog.underlying 47=some (.slice 63):=by kernel_rfl
theorem und59:Tryz.prog.underlying 59=some (.array 2 3):=by kernel_rfl
noncomputable def fsOf (t:TypeId):Array Field:=match Tryz.prog.underlying t with | some (.struct fs)=>fs | _=>#[]
theorem und49:Tryz.prog.underlying 49=some (.struct (fsOf 49)):=by kernel_rfl
theorem und63:Tryz.prog.underlying 63=some (.struct (fsOf 63)):=by kernel_rfl
theorem und61:Tryz.prog.underlying 61=some (.struct (fsOf 61)):=by kernel_rfl
theorem c3:Tryz.prog.cellsOf 3=1:=by kernel_rfl
theorem c4:Tryz.prog.cellsOf 4=1:=by kernel_rfl
theorem Z64:Z42 Tryz.prog 3 Int 1 (fun x _=>.v (.int .i64 x)) (fun x=>IntKind.min .i64≤x∧x≤IntKind.max .i64):=opens_int und3
theorem opens4:Z42 Tryz.prog 4 Bool 1 (fun x _=>.v (.bool x)) (fun _=>True):=opens_bool und4
theorem Xu {P:Program} {t:TypeId} {fs:Array Field} (ht:P.underlying t=some (.struct fs)) {H:Type} {enc:TypeId × Value→H} {w:World} {base:Nat} {sp:Nat→Bool} {held:Bool} {fuel:Nat} {cs:List Value} {x:DataW H × List MemPlace}
  (h:DataW.trod enc P w base sp held fuel t cs=some x) (i:Nat) {ft off:Nat} (hf:(fs[i]?).map (fun f=>(f.type,f.offset))=some (ft,off)) {T:Type} {sz:Nat} {rd:T→Nat→D} {wf:T→Prop} (hc:P.cellsOf ft=sz) (ho:Z42 P ft T sz rd wf) :
  ∃ y:T,wf y∧∀ j,j < sz→∃ z,cs[off+j]? = some z∧z.oneCell'=true∧Rd w.heap (fun b=>b < w.heap.size) (fun _=>none) [] 1 (rd y j) z:=by
 obtain ⟨f,hfi,he⟩:=Option.map_eq_some_iff.1 hf
 cases he
 obtain ⟨xs,n,_,_,_,hlen,hel⟩:=DataW.trod_struct ht h
 have h1:=hel i f hfi
 have hi:i < xs.length:=by rw [hlen];exact (Array.getElem?_eq_some_iff.1 hfi).1
 rw [List.getElem?_eq_getElem hi] at h1
 obtain ⟨_,y,h2,h3⟩:=ho h1
 refine ⟨y,h2,fun j hj=>?_⟩
 obtain ⟨z,z1,z2⟩:=h3 j hj
 refine ⟨z,?_,z2⟩
 rw [hc,List.getElem?_take,if_pos hj,List.getElem?_drop] at z1
 exact z1
theorem Z7u {P:Program} {t:TypeId} {fs:Array Field} (ht:P.underlying t=some (.struct fs)) {H:Type} {enc:TypeId × Value→H} {w:World} {base:Nat} {sp:Nat→Bool} {held:Bool} {fuel:Nat} {cs:List Value} {x:DataW H × List MemPlace}
  (h:DataW.trod enc P w base sp held fuel t cs=some x):cs.length=P.cellsOf t:=by
 obtain ⟨_,_,_,_,hl,_,_⟩:=DataW.trod_struct ht h
 exact hl
theorem opens59:Z42 Tryz.prog 59 Zx 2 (fun x j=>Xk nvS x j) (fun _=>True):=by
 intro H enc w base sp held fuel cs x h
 obtain ⟨xs,m,_,_,hl,hlen,hel⟩:=DataW.trod_array und59 h
 have hc:Tryz.prog.cellsOf 59=2:=by kernel_rfl
 have one : ∀ i,i < 2→∃ y:Int,∃ z,cs[i]? = some z∧z.oneCell'=true∧Rd w.heap (fun b=>b < w.heap.size) (fun _=>none) [] 1 (.v (.int .i64 y)) z:=by
  intro i hi
  have h1:=hel i hi
  rw [List.getElem?_eq_getElem (by rw [hlen];exact hi),c3] at h1
  obtain ⟨_,y,_,h3⟩:=Z64 h1
  obtain ⟨z,z1,z2⟩:=h3 0 (by omega)
  refine ⟨y,z,?_,z2⟩
  rw [List.getElem?_take,if_pos (by omega),List.getElem?_drop] at z1
  simpa using z1
 obtain ⟨a,ha⟩:=one 0 (by omega)
 obtain ⟨b,hb⟩:=one 1 (by omega)
 refine ⟨hl.trans hc,⟨a,b⟩,trivial,fun j hj=>?_⟩
 match j,hj with
 | 0,_=>exact ha
 | 1,_=>exact hb
theorem opens61:Z42 Tryz.prog 61 Z0s 3 (fun x j=>Z7t nvS x j) (fun _=>True):=by
 intro H enc w base sp held fuel cs x h
 obtain ⟨a,_,ha⟩:=Xu und61 h 0 (ft:=3) (off:=0) (by kernel_rfl) c3 Z64
 obtain ⟨b,_,hb⟩:=Xu und61 h 1 (ft:=3) (off:=1) (by kernel_rfl) c3 Z64
 obtain ⟨c,_,hc⟩:=Xu und61 h 2 (ft:=3) (off:=2) (by kernel_rfl) c3 Z64
 refine ⟨(Z7u und61 h).trans (by kernel_rfl),⟨a,b,c⟩,trivial,fun j hj=>?_⟩
 match j,hj with
 | 0,_=>exact ha 0 (by omega)
 | 1,_=>exact hb 0 (by omega)
 | 2,_=>exact hc 0 (by omega)
theorem opens63:Z42 Tryz.prog 63 Zi 7 (fun x j=>Q7 nvS x j) (fun _=>True):=by
 intro H enc w base sp held fuel cs x h
 obtain ⟨a,_,ha⟩:=Xu und63 h 0 (ft:=3) (off:=0) (by kernel_rfl) c3 Z64
 obtain ⟨b,_,hb⟩:=Xu und63 h 1 (ft:=59) (off:=1) (by kernel_rfl) (by kernel_rfl) opens59
 obtain ⟨c,_,hc⟩:=Xu und63 h 2 (ft:=3) (off:=3) (by kernel_rfl) c3 Z64
 obtain ⟨d,_,hd⟩:=Xu und63 h 3 (ft:=61) (off:=4) (by kernel_rfl) (by kernel_rfl) opens61
 refine ⟨(Z7u und63 h).trans (by kernel_rfl),⟨a,b,c,d⟩,trivial,fun j hj=>?_⟩
 match j,hj with
 | 0,_=>exact ha 0 (by omega)
 | 1,_=>exact hb 0 (by omega)
 | 2,_=>exact hb 1 (by omega)
 | 3,_=>exact hc 0 (by omega)
 | 4,_=>exact hd 0 (by omega)
 | 5,_=>exact hd 1 (by omega)
 | 6,_=>exact hd 2 (by omega)
theorem opens47:Z42 Tryz.prog 47 (List Zi) 1 (fun xs _=>.sl 7 (nvS.len xs) false (fun i j=>Q7 nvS (nvS.get Z4 xs i) j)) (fun xs=>Z0 xs≤maxLen∧∀ i:Int,0≤i→i < Z0 xs→True) :=
 opens_slice Z4 und47 (by kernel_rfl) (by omega) opens63
theorem opens49:Z42 Tryz.prog 49 Z5 4 (fun x j=>Yq nvS x j) (fun _=>True):=by
 intro H enc w base sp held fuel cs x h
 obtain ⟨a,_,ha⟩:=Xu und49 h 0 (ft:=47) (off:=0) (by kernel_rfl) (by kernel_rfl) opens47
 obtain ⟨b,_,hb⟩:=Xu und49 h 1 (ft:=4) (off:=1) (by kernel_rfl) c4 opens4
 obtain ⟨c,_,hc⟩:=Xu und49 h 2 (ft:=3) (off:=2) (by kernel_rfl) c3 Z64
 obtain ⟨d,_,hd⟩:=Xu und49 h 3 (ft:=4) (off:=3) (by kernel_rfl) c4 opens4
 refine ⟨(Z7u und49 h).trans (by kernel_rfl),⟨a,b,c,d⟩,trivial,fun j hj=>?_⟩
 match j,hj with
 | 0,_=>exact ha 0 (by omega)
 | 1,_=>exact hb 0 (by omega)
 | 2,_=>exact hc 0 (by omega)
 | 3,_=>exact hd 0 (by omega)
theorem opens22:Z42 Tryz.prog 22 (List Z5) 1 (fun xs _=>.sl 4 (nvS.len xs) false (fun i j=>Yq nvS (nvS.get Z3 xs i) j)) (fun xs=>Z0 xs≤maxLen∧∀ i:Int,0≤i→i < Z0 xs→True) :=
 opens_slice Z3 und22 (by kernel_rfl) (by omega) opens49
abbrev laidL:List (String × DataW Unit):=Rows.copyAllRow.laid
theorem laid_plain (w:World):laidMetH Tryz.prog laidL w=laidMet Tryz.prog laidL w:=MakeChecks.laidMetH_plain _ _ _ (by kernel_rfl)
theorem laidVars_at {P:Program} {w:World} : ∀ {laid:List (String × DataW Unit)} {ps:List MemPlace},DataW.LaidVars P w laid ps→∀ x∈laid,
  ∃ g t cs fuel p,P.globalNamed x.1=some g∧(P.globals[g]?).map (·.type)=some t∧w.var? P x.1=some cs∧DataW.trod (fun _=>()) P w 0 (fun _=>true) false fuel t cs.toList=some (x.2,p)
 | [],_,_,x,hx=>by cases hx
 | (n,d) :: r,ps,h,x,hx=>by
  obtain ⟨g,t,cs,fuel,p,q,h1,h2,h3,h4,h5,_⟩:=h
  rcases List.mem_cons.1 hx with rfl | hx
  · exact ⟨g,t,cs,fuel,p,h1,h2,h3,h4⟩
  · exact laidVars_at h5 x hx
def spaceZ:List Int:=(List.range 256).map fun i=>gtabS 0 (i:Nat)
theorem space_is:Rows.laid_strings_asciiSpace=(Go.Lib.tabData .u8 spaceZ:DataW Unit):=by kernel_rfl
theorem glob_of {W:World} (h:laidMetH Tryz.prog laidL W):GlobOk W.heap (fun b=>b < W.heap.size):=by
 rw [laid_plain] at h
 obtain ⟨ps,hl,_⟩:=h
 obtain ⟨g,t,cs,fuel,p,hg,ht,hv,hd⟩:=laidVars_at hl ("strings.asciiSpace",Rows.laid_strings_asciiSpace) (by
  show _∈[_,_,_,_,_,_,_,_,_]
  exact .tail _ (.tail _ (.tail _ (.tail _ (.tail _ (.tail _ (.tail _ (.head _))))))))
 obtain rfl:=Option.some.inj ((show Tryz.prog.globalNamed "strings.asciiSpace" = some 0 by kernel_rfl).symm.trans hg)
 obtain ⟨t',ht',ha⟩ : ∃ t',(Tryz.prog.globals[0]?).map (·.type)=some t'∧Tryz.prog.underlying t'=some (.array 256 5)∧Tryz.prog.underlying 5=some (.int .u8)∧Tryz.prog.cellsOf 5=1∧Tryz.prog.cellsOf t'=256:=⟨_,rfl,by kernel_rfl,by kernel_rfl,by kernel_rfl,by kernel_rfl⟩
 obtain rfl:=Option.some.inj (ht'.symm.trans ht)
 rw [space_is] at hd
 have e:=Go.Lib.cells_of_tab ha.1 ha.2.1 ha.2.2.1 ha.2.2.2 hd
 intro g' n k hk
 unfold gKind at hk
 split at hk
 · rename_i h0
   obtain ⟨rfl⟩:(0:Nat)=g':=(Nat.eq_of_beq_eq_true h0).symm
   cases hk
   simp only [World.var?,hg,Option.bind_some] at hv
   split at hv
   · rename_i c e' fr hc
     cases hv
     refine ⟨by decide,?_,cs,e',fr,hc,fun i hi=>?_⟩
     · exact Array.getElem?_eq_some_iff.1 hc |>.1
     · have:cs.toList[i]? = some (.int .u8 (gtabS 0 i)):=by
        rw [e]
        simp [spaceZ,hi]
       simpa using this
   · cases hv
 · cases hk
theorem wit_shaped (os:Os):(World.laidAll Tryz.prog os laidL).Shaped Tryz.prog:=World.shaped_of_ZipB (by kernel_rfl) (by kernel_rfl)
theorem wit_met (os:Os) (args:Array Value):laidMetH Tryz.prog laidL ((World.laidAll Tryz.prog os laidL).forCall (fun _ _=>0) ⟨#[],args,[]⟩).memory:=by
 rw [laid_plain];exact laidMet_laidAll _ (by kernel_rfl) (by kernel_rfl)
end Go.Proofs.YtmbgnnedjgmhmaaGreatDoor
