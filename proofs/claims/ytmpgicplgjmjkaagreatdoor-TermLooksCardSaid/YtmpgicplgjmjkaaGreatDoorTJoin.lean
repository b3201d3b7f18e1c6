/- What the joins of this seat share: the listed variables' condition gives the one table that the walks read; the witness meets it. -/
import Derived.Test.YtmpgicplgjmjkaaGreatDoorVxOpen
import Derived.Test.YtmpgicplgjmjkaaGreatDoorTHead
import Derived.Test.YtmpgicplgjmjkaaGreatDoorRows
import Derived.LaidByTextLater
import Derived.SevenTiedAt
import Derived.OpenShut
import Derived.LaidMore
import Derived.Lay
import Derived.Stop.Joined
import Derived.Lib.LaidTab
set_option linter.all false
namespace Go.Proofs.YtmpgicplgjmjkaaGreatDoor
open Go Go.Vx Go.ChangeShapes Go.WideShapes Go.ChangeAt Go.RowKit
set_option maxRecDepth 100000
theorem Tryz.own:ownKnob Tryz.prog.godebug=none:=by kernel_rfl
theorem Tryz.laidOut:laidOutB Tryz.prog=true:=by kernel_rfl
noncomputable def Av(t:TypeId):Array Field:=match Tryz.prog.underlying t with|some (.struct fs)=>fs|_=>#[]
theorem Opens.weak{P:Program}{t:TypeId}{T:Type}{sz:Nat}{rd:T->Nat->D}{wf:T->Prop}(h:Opens P t T sz rd wf):Opens P t T sz rd (λ_=>True):=by
 intro H enc w base sp held fuel cs x hh;obtain⟨a,y,_,c⟩:=h hh;exact⟨a,y,trivial,c⟩
theorem bV{P:Program}{t:TypeId}{fs:Array Field}(ht:P.underlying t=some (.struct fs)){H:Type}{enc:TypeId×Value->H}{w:World}{base:Nat}{sp:Nat->Bool}{held:Bool}{fuel:Nat}{cs:List Value}{x:DataW H×List MemPlace}
  (h:DataW.trod enc P w base sp held fuel t cs=some x) (i:Nat) {ft off:Nat} (hf:(fs[i]?).map (λf=>(f.type,f.offset))=some (ft,off)) {T:Type} {sz:Nat} {rd:T->Nat->D} {wf:T->Prop} (hc:P.cellsOf ft=sz) (ho:Opens P ft T sz rd wf) :
  ∃ y:T,wf y/\∀ j,j<sz->∃ z,cs[off+j]? = some z/\z.oneCell'=true/\Rd w.heap (λb=>b<w.heap.size) (λ_=>none) [] 1 (rd y j) z:=by
 obtain⟨f,hfi,he⟩:=Option.map_eq_some_iff.1 hf;cases he;obtain⟨xs,n,_,_,_,hlen,hel⟩:=DataW.trod_struct ht h;have h1:=hel i f hfi;have hi:i<xs.length:=by rw[hlen];exact(Array.getElem?_eq_some_iff.1 hfi).1
 rw[List.getElem?_eq_getElem hi] at h1;obtain⟨_,y,h2,h3⟩:=ho h1;refine⟨y,h2,λj hj=>?_⟩;obtain⟨z,z1,z2⟩:=h3 j hj;refine⟨z,?_,z2⟩;rw[hc,List.getElem?_take,if_pos hj,List.getElem?_drop] at z1;exact z1
theorem mQ{P:Program}{t:TypeId}{fs:Array Field}(ht:P.underlying t=some (.struct fs)){H:Type}{enc:TypeId×Value->H}{w:World}{base:Nat}{sp:Nat->Bool}{held:Bool}{fuel:Nat}{cs:List Value}{x:DataW H×List MemPlace}
  (h:DataW.trod enc P w base sp held fuel t cs=some x):cs.length=P.cellsOf t:=by
 obtain⟨_,_,_,_,hl,_,_⟩:=DataW.trod_struct ht h;exact hl
theorem aiy:Tryz.prog.underlying 3=some (.int .i64):=by kernel_rfl
theorem c3:Tryz.prog.cellsOf 3=1:=by kernel_rfl
theorem lM:Opens Tryz.prog 3 Int 1 (λx _=>(.v (.int .i64 x))) (λ_=>True):=Opens.weak (agu aiy)
theorem aiz:Tryz.prog.underlying 4=some .bool:=by kernel_rfl
theorem c4:Tryz.prog.cellsOf 4=1:=by kernel_rfl
theorem MP:Opens Tryz.prog 4 Bool 1 (λx _=>(.v (.bool x))) (λ_=>True):=Opens.weak (alT aiz)
theorem ayC:Tryz.prog.underlying 5=some (.int .u8):=by kernel_rfl
theorem c5:Tryz.prog.cellsOf 5=1:=by kernel_rfl
theorem aiC:Opens Tryz.prog 5 Int 1 (λx _=>(.v (.int .u8 x))) (λ_=>True):=Opens.weak (agu ayC)
theorem aht:Tryz.prog.underlying 22=some (.slice 5):=by kernel_rfl
theorem c22:Tryz.prog.cellsOf 22=1:=by kernel_rfl
theorem UD:Opens Tryz.prog 22 (List Int) 1 (λx _=>(.sl 1 (aj.len x) false (λix jx=>(.v (.int .u8 (aj.get 0 x ix)))))) (λ_=>True):=Opens.weak (FQ 0 aht c5 (by omega) aiC)
theorem aqF:Tryz.prog.underlying 23=some (.slice 3):=by kernel_rfl
theorem c23:Tryz.prog.cellsOf 23=1:=by kernel_rfl
theorem afb:Opens Tryz.prog 23 (List Int) 1 (λx _=>(.sl 1 (aj.len x) false (λix jx=>(.v (.int .i64 (aj.get 0 x ix)))))) (λ_=>True):=Opens.weak (FQ 0 aqF c3 (by omega) lM)
theorem aqG:Tryz.prog.underlying 68=some (.struct (Av 68)):=by kernel_rfl
theorem c68:Tryz.prog.cellsOf 68=1:=by kernel_rfl
theorem ar0:Opens Tryz.prog 68 l8 1 (λx j=>(Ak aj x j)) (λ_=>True):=by
 intro H enc w base sp held fuel cs x h;obtain⟨a0,_,h0⟩:=bV aqG h 0 (ft:=22) (off:=0) (by kernel_rfl) c22 UD;refine⟨(mQ aqG h).trans c68,⟨a0⟩,trivial,λj hj=>?_⟩
 match j,hj with
 | 0,_=>exact h0 0 (by omega)
 | j+1,hj=>exact absurd hj (by omega)
theorem ayD:Tryz.prog.underlying 9=some .string:=by kernel_rfl
theorem c9:Tryz.prog.cellsOf 9=1:=by kernel_rfl
theorem aiD:Opens Tryz.prog 9 ByteArray 1 (λx _=>(.v (.string x))) (λ_=>True):=Opens.weak (aiE ayD)
theorem awq:Tryz.prog.underlying 35=some (.slice 23):=by kernel_rfl
theorem c35:Tryz.prog.cellsOf 35=1:=by kernel_rfl
theorem ar1:Opens Tryz.prog 35 (List (List Int)) 1 (λx _=>(.sl 1 (aj.len x) false (λix jx=>(.sl 1 (aj.len (aj.get [] x ix)) false (λlW zS=>(.v (.int .i64 (aj.get 0 (aj.get [] x ix) lW)))))))) (λ_=>True):=Opens.weak (FQ [] awq c23 (by omega) afb)
theorem alU:Tryz.prog.underlying 69=some (.struct (Av 69)):=by kernel_rfl
theorem c69:Tryz.prog.cellsOf 69=2:=by kernel_rfl
theorem ar2:Opens Tryz.prog 69 mU 2 (λx j=>(BZ aj x j)) (λ_=>True):=by
 intro H enc w base sp held fuel cs x h;obtain⟨a0,_,h0⟩:=bV alU h 0 (ft:=35) (off:=0) (by kernel_rfl) c35 ar1;obtain⟨a1,_,h1⟩:=bV alU h 1 (ft:=4) (off:=1) (by kernel_rfl) c4 MP;refine⟨(mQ alU h).trans c69,⟨a0,a1⟩,trivial,λj hj=>?_⟩
 match j,hj with
 | 0,_=>exact h0 0 (by omega)
 | 1,_=>exact h1 0 (by omega)
 | j+2,hj=>exact absurd hj (by omega)
theorem V6:Tryz.prog.underlying 71=some (.struct (Av 71)):=by kernel_rfl
theorem c71:Tryz.prog.cellsOf 71=7:=by kernel_rfl
theorem ar3:Opens Tryz.prog 71 jw 7 (λx j=>(qp aj x j)) (λ_=>True):=by
 intro H enc w base sp held fuel cs x h;obtain⟨a0,_,h0⟩:=bV V6 h 0 (ft:=3) (off:=0) (by kernel_rfl) c3 lM;obtain⟨a1,_,h1⟩:=bV V6 h 1 (ft:=9) (off:=1) (by kernel_rfl) c9 aiD;obtain⟨a2,_,h2⟩:=bV V6 h 2 (ft:=4) (off:=2) (by kernel_rfl) c4 MP;obtain⟨a3,_,h3⟩:=bV V6 h 3 (ft:=69) (off:=3) (by kernel_rfl) c69 ar2;obtain⟨a4,_,h4⟩:=bV V6 h 4 (ft:=9) (off:=5) (by kernel_rfl) c9 aiD;obtain⟨a5,_,h5⟩:=bV V6 h 5 (ft:=5) (off:=6) (by kernel_rfl) c5 aiC;refine⟨(mQ V6 h).trans c71,⟨a0,a1,a2,a3,a4,a5⟩,trivial,λj hj=>?_⟩
 match j,hj with
 | 0,_=>exact h0 0 (by omega)
 | 1,_=>exact h1 0 (by omega)
 | 2,_=>exact h2 0 (by omega)
 | 3,_=>exact h3 0 (by omega)
 | 4,_=>exact h3 1 (by omega)
 | 5,_=>exact h4 0 (by omega)
 | 6,_=>exact h5 0 (by omega)
 | j+7,hj=>exact absurd hj (by omega)
theorem atJ:Tryz.prog.underlying 308=some (.array 2 3):=by kernel_rfl
theorem atK:Tryz.prog.cellsOf 308=2:=by kernel_rfl
theorem apo:Opens Tryz.prog 308 kR 2 (λx j=>(Ej aj x j)) (λ_=>True):=by
 intro H enc w base sp held fuel cs x h;obtain⟨xs,m,_,_,hl,hlen,hel⟩:=DataW.trod_array atJ h;have one : ∀ i,i<2->∃ y:Int,∀ j,j<1->∃ z,cs[i*1+j]? = some z/\z.oneCell'=true/\Rd w.heap (λb=>b<w.heap.size) (λ_=>none) [] 1 ((λx _=>(.v (.int .i64 x))) y j) z:=by
  intro i hi;have h1:=hel i hi;rw[List.getElem?_eq_getElem (by rw[hlen];exact hi),c3] at h1;obtain⟨_,y,_,h3⟩:=lM h1;refine⟨y,λj hj=>?_⟩;obtain⟨z,z1,z2⟩:=h3 j hj;refine⟨z,?_,z2⟩;rw[List.getElem?_take,if_pos hj,List.getElem?_drop] at z1;first|exact z1|simpa using z1
 obtain⟨a0,h0⟩:=one 0 (by omega);obtain⟨a1,h1⟩:=one 1 (by omega);refine⟨hl.trans atK,⟨a0,a1⟩,trivial,λj hj=>?_⟩
 match j,hj with
 | 0,_=>exact h0 0 (by omega)
 | 1,_=>exact h1 0 (by omega)
 | j+2,hj=>exact absurd hj (by omega)
theorem ahu:Tryz.prog.underlying 44=some (.struct (Av 44)):=by kernel_rfl
theorem c44:Tryz.prog.cellsOf 44=3:=by kernel_rfl
theorem ak0:Opens Tryz.prog 44 bU 3 (λx j=>(QN aj x j)) (λ_=>True):=by
 intro H enc w base sp held fuel cs x h;obtain⟨a0,_,h0⟩:=bV ahu h 0 (ft:=3) (off:=0) (by kernel_rfl) c3 lM;obtain⟨a1,_,h1⟩:=bV ahu h 1 (ft:=3) (off:=1) (by kernel_rfl) c3 lM;obtain⟨a2,_,h2⟩:=bV ahu h 2 (ft:=3) (off:=2) (by kernel_rfl) c3 lM;refine⟨(mQ ahu h).trans c44,⟨a0,a1,a2⟩,trivial,λj hj=>?_⟩
 match j,hj with
 | 0,_=>exact h0 0 (by omega)
 | 1,_=>exact h1 0 (by omega)
 | 2,_=>exact h2 0 (by omega)
 | j+3,hj=>exact absurd hj (by omega)
theorem YN:Tryz.prog.underlying 310=some (.struct (Av 310)):=by kernel_rfl
theorem atM:Tryz.prog.cellsOf 310=7:=by kernel_rfl
theorem apq:Opens Tryz.prog 310 bY 7 (λx j=>(qj aj x j)) (λ_=>True):=by
 intro H enc w base sp held fuel cs x h;obtain⟨a0,_,h0⟩:=bV YN h 0 (ft:=3) (off:=0) (by kernel_rfl) c3 lM;obtain⟨a1,_,h1⟩:=bV YN h 1 (ft:=308) (off:=1) (by kernel_rfl) atK apo;obtain⟨a2,_,h2⟩:=bV YN h 2 (ft:=3) (off:=3) (by kernel_rfl) c3 lM;obtain⟨a3,_,h3⟩:=bV YN h 3 (ft:=44) (off:=4) (by kernel_rfl) c44 ak0;refine⟨(mQ YN h).trans atM,⟨a0,a1,a2,a3⟩,trivial,λj hj=>?_⟩
 match j,hj with
 | 0,_=>exact h0 0 (by omega)
 | 1,_=>exact h1 0 (by omega)
 | 2,_=>exact h1 1 (by omega)
 | 3,_=>exact h2 0 (by omega)
 | 4,_=>exact h3 0 (by omega)
 | 5,_=>exact h3 1 (by omega)
 | 6,_=>exact h3 2 (by omega)
 | j+7,hj=>exact absurd hj (by omega)
theorem atN:Tryz.prog.underlying 131=some (.slice 310):=by kernel_rfl
theorem c131:Tryz.prog.cellsOf 131=1:=by kernel_rfl
theorem apr:Opens Tryz.prog 131 (List bY) 1 (λx _=>(.sl 7 (aj.len x) false (λix jx=>(qj aj (aj.get bq x ix) jx)))) (λ_=>True):=Opens.weak (FQ bq atN atM (by omega) apq)
theorem YO:Tryz.prog.underlying 177=some (.struct (Av 177)):=by kernel_rfl
theorem atO:Tryz.prog.cellsOf 177=4:=by kernel_rfl
theorem aps:Opens Tryz.prog 177 aR 4 (λx j=>(gB aj x j)) (λ_=>True):=by
 intro H enc w base sp held fuel cs x h;obtain⟨a0,_,h0⟩:=bV YO h 0 (ft:=131) (off:=0) (by kernel_rfl) c131 apr;obtain⟨a1,_,h1⟩:=bV YO h 1 (ft:=4) (off:=1) (by kernel_rfl) c4 MP;obtain⟨a2,_,h2⟩:=bV YO h 2 (ft:=3) (off:=2) (by kernel_rfl) c3 lM;obtain⟨a3,_,h3⟩:=bV YO h 3 (ft:=4) (off:=3) (by kernel_rfl) c4 MP;refine⟨(mQ YO h).trans atO,⟨a0,a1,a2,a3⟩,trivial,λj hj=>?_⟩
 match j,hj with
 | 0,_=>exact h0 0 (by omega)
 | 1,_=>exact h1 0 (by omega)
 | 2,_=>exact h2 0 (by omega)
 | 3,_=>exact h3 0 (by omega)
 | j+4,hj=>exact absurd hj (by omega)
theorem awr:Tryz.prog.underlying 40=some (.slice 177):=by kernel_rfl
theorem c40:Tryz.prog.cellsOf 40=1:=by kernel_rfl
theorem ak1:Opens Tryz.prog 40 (List aR) 1 (λx _=>(.sl 4 (aj.len x) false (λix jx=>(gB aj (aj.get aH x ix) jx)))) (λ_=>True):=Opens.weak (FQ aH awr atO (by omega) aps)
theorem aqH:Tryz.prog.underlying 72=some (.struct (Av 72)):=by kernel_rfl
theorem c72:Tryz.prog.cellsOf 72=1:=by kernel_rfl
theorem ar4:Opens Tryz.prog 72 mR 1 (λx j=>(BX aj x j)) (λ_=>True):=by
 intro H enc w base sp held fuel cs x h;obtain⟨a0,_,h0⟩:=bV aqH h 0 (ft:=40) (off:=0) (by kernel_rfl) c40 ak1;refine⟨(mQ aqH h).trans c72,⟨a0⟩,trivial,λj hj=>?_⟩
 match j,hj with
 | 0,_=>exact h0 0 (by omega)
 | j+1,hj=>exact absurd hj (by omega)
theorem aws:Tryz.prog.underlying 45=some (.array 4 5):=by kernel_rfl
theorem c45:Tryz.prog.cellsOf 45=4:=by kernel_rfl
theorem ar5:Opens Tryz.prog 45 mP 4 (λx j=>(YA aj x j)) (λ_=>True):=by
 intro H enc w base sp held fuel cs x h;obtain⟨xs,m,_,_,hl,hlen,hel⟩:=DataW.trod_array aws h;have one : ∀ i,i<4->∃ y:Int,∀ j,j<1->∃ z,cs[i*1+j]? = some z/\z.oneCell'=true/\Rd w.heap (λb=>b<w.heap.size) (λ_=>none) [] 1 ((λx _=>(.v (.int .u8 x))) y j) z:=by
  intro i hi;have h1:=hel i hi;rw[List.getElem?_eq_getElem (by rw[hlen];exact hi),c5] at h1;obtain⟨_,y,_,h3⟩:=aiC h1;refine⟨y,λj hj=>?_⟩;obtain⟨z,z1,z2⟩:=h3 j hj;refine⟨z,?_,z2⟩;rw[List.getElem?_take,if_pos hj,List.getElem?_drop] at z1;first|exact z1|simpa using z1
 obtain⟨a0,h0⟩:=one 0 (by omega);obtain⟨a1,h1⟩:=one 1 (by omega);obtain⟨a2,h2⟩:=one 2 (by omega);obtain⟨a3,h3⟩:=one 3 (by omega);refine⟨hl.trans c45,⟨a0,a1,a2,a3⟩,trivial,λj hj=>?_⟩
 match j,hj with
 | 0,_=>exact h0 0 (by omega)
 | 1,_=>exact h1 0 (by omega)
 | 2,_=>exact h2 0 (by omega)
 | 3,_=>exact h3 0 (by omega)
 | j+4,hj=>exact absurd hj (by omega)
theorem adC:Tryz.prog.underlying 73=some (.struct (Av 73)):=by kernel_rfl
theorem c73:Tryz.prog.cellsOf 73=7:=by kernel_rfl
theorem ar6:Opens Tryz.prog 73 l6 7 (λx j=>(uV aj x j)) (λ_=>True):=by
 intro H enc w base sp held fuel cs x h;obtain⟨a0,_,h0⟩:=bV adC h 0 (ft:=45) (off:=0) (by kernel_rfl) c45 ar5;obtain⟨a1,_,h1⟩:=bV adC h 1 (ft:=3) (off:=4) (by kernel_rfl) c3 lM;obtain⟨a2,_,h2⟩:=bV adC h 2 (ft:=3) (off:=5) (by kernel_rfl) c3 lM;obtain⟨a3,_,h3⟩:=bV adC h 3 (ft:=3) (off:=6) (by kernel_rfl) c3 lM;refine⟨(mQ adC h).trans c73,⟨a0,a1,a2,a3⟩,trivial,λj hj=>?_⟩
 match j,hj with
 | 0,_=>exact h0 0 (by omega)
 | 1,_=>exact h0 1 (by omega)
 | 2,_=>exact h0 2 (by omega)
 | 3,_=>exact h0 3 (by omega)
 | 4,_=>exact h1 0 (by omega)
 | 5,_=>exact h2 0 (by omega)
 | 6,_=>exact h3 0 (by omega)
 | j+7,hj=>exact absurd hj (by omega)
theorem V7:Tryz.prog.underlying 75=some (.struct (Av 75)):=by kernel_rfl
theorem c75:Tryz.prog.cellsOf 75=14:=by kernel_rfl
theorem ak2:Opens Tryz.prog 75 iq 14 (λx j=>(ni aj x j)) (λ_=>True):=by
 intro H enc w base sp held fuel cs x h;obtain⟨a0,_,h0⟩:=bV V7 h 0 (ft:=3) (off:=0) (by kernel_rfl) c3 lM;obtain⟨a1,_,h1⟩:=bV V7 h 1 (ft:=3) (off:=1) (by kernel_rfl) c3 lM;obtain⟨a2,_,h2⟩:=bV V7 h 2 (ft:=4) (off:=2) (by kernel_rfl) c4 MP;obtain⟨a3,_,h3⟩:=bV V7 h 3 (ft:=4) (off:=3) (by kernel_rfl) c4 MP;obtain⟨a4,_,h4⟩:=bV V7 h 4 (ft:=44) (off:=4) (by kernel_rfl) c44 ak0;obtain⟨a5,_,h5⟩:=bV V7 h 5 (ft:=73) (off:=7) (by kernel_rfl) c73 ar6;refine⟨(mQ V7 h).trans c75,⟨a0,a1,a2,a3,a4,a5⟩,trivial,λj hj=>?_⟩
 match j,hj with
 | 0,_=>exact h0 0 (by omega)
 | 1,_=>exact h1 0 (by omega)
 | 2,_=>exact h2 0 (by omega)
 | 3,_=>exact h3 0 (by omega)
 | 4,_=>exact h4 0 (by omega)
 | 5,_=>exact h4 1 (by omega)
 | 6,_=>exact h4 2 (by omega)
 | 7,_=>exact h5 0 (by omega)
 | 8,_=>exact h5 1 (by omega)
 | 9,_=>exact h5 2 (by omega)
 | 10,_=>exact h5 3 (by omega)
 | 11,_=>exact h5 4 (by omega)
 | 12,_=>exact h5 5 (by omega)
 | 13,_=>exact h5 6 (by omega)
 | j+14,hj=>exact absurd hj (by omega)
theorem adD:Tryz.prog.underlying 76=some (.struct (Av 76)):=by kernel_rfl
theorem c76:Tryz.prog.cellsOf 76=4:=by kernel_rfl
theorem ar7:Opens Tryz.prog 76 lJ 4 (λx j=>(zx aj x j)) (λ_=>True):=by
 intro H enc w base sp held fuel cs x h;obtain⟨a0,_,h0⟩:=bV adD h 0 (ft:=3) (off:=0) (by kernel_rfl) c3 lM;obtain⟨a1,_,h1⟩:=bV adD h 1 (ft:=3) (off:=1) (by kernel_rfl) c3 lM;obtain⟨a2,_,h2⟩:=bV adD h 2 (ft:=3) (off:=2) (by kernel_rfl) c3 lM;obtain⟨a3,_,h3⟩:=bV adD h 3 (ft:=3) (off:=3) (by kernel_rfl) c3 lM;refine⟨(mQ adD h).trans c76,⟨a0,a1,a2,a3⟩,trivial,λj hj=>?_⟩
 match j,hj with
 | 0,_=>exact h0 0 (by omega)
 | 1,_=>exact h1 0 (by omega)
 | 2,_=>exact h2 0 (by omega)
 | 3,_=>exact h3 0 (by omega)
 | j+4,hj=>exact absurd hj (by omega)
theorem alV:Tryz.prog.underlying 77=some (.struct (Av 77)):=by kernel_rfl
theorem c77:Tryz.prog.cellsOf 77=2:=by kernel_rfl
theorem ar8:Opens Tryz.prog 77 iZ 2 (λx j=>(uW aj x j)) (λ_=>True):=by
 intro H enc w base sp held fuel cs x h;obtain⟨a0,_,h0⟩:=bV alV h 0 (ft:=23) (off:=0) (by kernel_rfl) c23 afb;obtain⟨a1,_,h1⟩:=bV alV h 1 (ft:=3) (off:=1) (by kernel_rfl) c3 lM;refine⟨(mQ alV h).trans c77,⟨a0,a1⟩,trivial,λj hj=>?_⟩
 match j,hj with
 | 0,_=>exact h0 0 (by omega)
 | 1,_=>exact h1 0 (by omega)
 | j+2,hj=>exact absurd hj (by omega)
theorem alW:Tryz.prog.underlying 78=some (.struct (Av 78)):=by kernel_rfl
theorem c78:Tryz.prog.cellsOf 78=2:=by kernel_rfl
theorem ar9:Opens Tryz.prog 78 jJ 2 (λx j=>(wK aj x j)) (λ_=>True):=by
 intro H enc w base sp held fuel cs x h;obtain⟨a0,_,h0⟩:=bV alW h 0 (ft:=40) (off:=0) (by kernel_rfl) c40 ak1;obtain⟨a1,_,h1⟩:=bV alW h 1 (ft:=3) (off:=1) (by kernel_rfl) c3 lM;refine⟨(mQ alW h).trans c78,⟨a0,a1⟩,trivial,λj hj=>?_⟩
 match j,hj with
 | 0,_=>exact h0 0 (by omega)
 | 1,_=>exact h1 0 (by omega)
 | j+2,hj=>exact absurd hj (by omega)
theorem QY:Tryz.prog.underlying 80=some (.struct (Av 80)):=by kernel_rfl
theorem c80:Tryz.prog.cellsOf 80=25:=by kernel_rfl
theorem ak3:Opens Tryz.prog 80 dZ 25 (λx j=>(pI aj x j)) (λ_=>True):=by
 intro H enc w base sp held fuel cs x h;obtain⟨a0,_,h0⟩:=bV QY h 0 (ft:=72) (off:=0) (by kernel_rfl) c72 ar4;obtain⟨a1,_,h1⟩:=bV QY h 1 (ft:=75) (off:=1) (by kernel_rfl) c75 ak2;obtain⟨a2,_,h2⟩:=bV QY h 2 (ft:=76) (off:=15) (by kernel_rfl) c76 ar7;obtain⟨a3,_,h3⟩:=bV QY h 3 (ft:=77) (off:=19) (by kernel_rfl) c77 ar8;obtain⟨a4,_,h4⟩:=bV QY h 4 (ft:=78) (off:=21) (by kernel_rfl) c78 ar9;obtain⟨a5,_,h5⟩:=bV QY h 5 (ft:=3) (off:=23) (by kernel_rfl) c3 lM;obtain⟨a6,_,h6⟩:=bV QY h 6 (ft:=4) (off:=24) (by kernel_rfl) c4 MP;refine⟨(mQ QY h).trans c80,⟨a0,a1,a2,a3,a4,a5,a6⟩,trivial,λj hj=>?_⟩
 match j,hj with
 | 0,_=>exact h0 0 (by omega)
 | 1,_=>exact h1 0 (by omega)
 | 2,_=>exact h1 1 (by omega)
 | 3,_=>exact h1 2 (by omega)
 | 4,_=>exact h1 3 (by omega)
 | 5,_=>exact h1 4 (by omega)
 | 6,_=>exact h1 5 (by omega)
 | 7,_=>exact h1 6 (by omega)
 | 8,_=>exact h1 7 (by omega)
 | 9,_=>exact h1 8 (by omega)
 | 10,_=>exact h1 9 (by omega)
 | 11,_=>exact h1 10 (by omega)
 | 12,_=>exact h1 11 (by omega)
 | 13,_=>exact h1 12 (by omega)
 | 14,_=>exact h1 13 (by omega)
 | 15,_=>exact h2 0 (by omega)
 | 16,_=>exact h2 1 (by omega)
 | 17,_=>exact h2 2 (by omega)
 | 18,_=>exact h2 3 (by omega)
 | 19,_=>exact h3 0 (by omega)
 | 20,_=>exact h3 1 (by omega)
 | 21,_=>exact h4 0 (by omega)
 | 22,_=>exact h4 1 (by omega)
 | 23,_=>exact h5 0 (by omega)
 | 24,_=>exact h6 0 (by omega)
 | j+25,hj=>exact absurd hj (by omega)
theorem aqI:Tryz.prog.underlying 81=some (.struct (Av 81)):=by kernel_rfl
theorem c81:Tryz.prog.cellsOf 81=1:=by kernel_rfl
theorem asa:Opens Tryz.prog 81 l7 1 (λx j=>(Aj aj x j)) (λ_=>True):=by
 intro H enc w base sp held fuel cs x h;obtain⟨a0,_,h0⟩:=bV aqI h 0 (ft:=3) (off:=0) (by kernel_rfl) c3 lM;refine⟨(mQ aqI h).trans c81,⟨a0⟩,trivial,λj hj=>?_⟩
 match j,hj with
 | 0,_=>exact h0 0 (by omega)
 | j+1,hj=>exact absurd hj (by omega)
theorem awt:Tryz.prog.underlying 82=some (.array 2 75):=by kernel_rfl
theorem c82:Tryz.prog.cellsOf 82=28:=by kernel_rfl
theorem asb:Opens Tryz.prog 82 jM 28 (λx j=>(oP aj x j)) (λ_=>True):=by
 intro H enc w base sp held fuel cs x h;obtain⟨xs,m,_,_,hl,hlen,hel⟩:=DataW.trod_array awt h;have one : ∀ i,i<2->∃ y:iq,∀ j,j<14->∃ z,cs[i*14+j]? = some z/\z.oneCell'=true/\Rd w.heap (λb=>b<w.heap.size) (λ_=>none) [] 1 ((λx j=>(ni aj x j)) y j) z:=by
  intro i hi;have h1:=hel i hi;rw[List.getElem?_eq_getElem (by rw[hlen];exact hi),c75] at h1;obtain⟨_,y,_,h3⟩:=ak2 h1;refine⟨y,λj hj=>?_⟩;obtain⟨z,z1,z2⟩:=h3 j hj;refine⟨z,?_,z2⟩;rw[List.getElem?_take,if_pos hj,List.getElem?_drop] at z1;first|exact z1|simpa using z1
 obtain⟨a0,h0⟩:=one 0 (by omega);obtain⟨a1,h1⟩:=one 1 (by omega);refine⟨hl.trans c82,⟨a0,a1⟩,trivial,λj hj=>?_⟩
 match j,hj with
 | 0,_=>exact h0 0 (by omega)
 | 1,_=>exact h0 1 (by omega)
 | 2,_=>exact h0 2 (by omega)
 | 3,_=>exact h0 3 (by omega)
 | 4,_=>exact h0 4 (by omega)
 | 5,_=>exact h0 5 (by omega)
 | 6,_=>exact h0 6 (by omega)
 | 7,_=>exact h0 7 (by omega)
 | 8,_=>exact h0 8 (by omega)
 | 9,_=>exact h0 9 (by omega)
 | 10,_=>exact h0 10 (by omega)
 | 11,_=>exact h0 11 (by omega)
 | 12,_=>exact h0 12 (by omega)
 | 13,_=>exact h0 13 (by omega)
 | 14,_=>exact h1 0 (by omega)
 | 15,_=>exact h1 1 (by omega)
 | 16,_=>exact h1 2 (by omega)
 | 17,_=>exact h1 3 (by omega)
 | 18,_=>exact h1 4 (by omega)
 | 19,_=>exact h1 5 (by omega)
 | 20,_=>exact h1 6 (by omega)
 | 21,_=>exact h1 7 (by omega)
 | 22,_=>exact h1 8 (by omega)
 | 23,_=>exact h1 9 (by omega)
 | 24,_=>exact h1 10 (by omega)
 | 25,_=>exact h1 11 (by omega)
 | 26,_=>exact h1 12 (by omega)
 | 27,_=>exact h1 13 (by omega)
 | j+28,hj=>exact absurd hj (by omega)
theorem Om:Tryz.prog.underlying 84=some (.struct (Av 84)):=by kernel_rfl
theorem c84:Tryz.prog.cellsOf 84=83:=by kernel_rfl
theorem asc:Opens Tryz.prog 84 gV 83 (λx j=>(qo aj x j)) (λ_=>True):=by
 intro H enc w base sp held fuel cs x h;obtain⟨a0,_,h0⟩:=bV Om h 0 (ft:=80) (off:=0) (by kernel_rfl) c80 ak3;obtain⟨a1,_,h1⟩:=bV Om h 1 (ft:=80) (off:=25) (by kernel_rfl) c80 ak3;obtain⟨a2,_,h2⟩:=bV Om h 2 (ft:=4) (off:=50) (by kernel_rfl) c4 MP;obtain⟨a3,_,h3⟩:=bV Om h 3 (ft:=81) (off:=51) (by kernel_rfl) c81 asa;obtain⟨a4,_,h4⟩:=bV Om h 4 (ft:=82) (off:=52) (by kernel_rfl) c82 asb;obtain⟨a5,_,h5⟩:=bV Om h 5 (ft:=22) (off:=80) (by kernel_rfl) c22 UD;obtain⟨a6,_,h6⟩:=bV Om h 6 (ft:=9) (off:=81) (by kernel_rfl) c9 aiD;obtain⟨a7,_,h7⟩:=bV Om h 7 (ft:=3) (off:=82) (by kernel_rfl) c3 lM;refine⟨(mQ Om h).trans c84,⟨a0,a1,a2,a3,a4,a5,a6,a7⟩,trivial,λj hj=>?_⟩
 match j,hj with
 | 0,_=>exact h0 0 (by omega)
 | 1,_=>exact h0 1 (by omega)
 | 2,_=>exact h0 2 (by omega)
 | 3,_=>exact h0 3 (by omega)
 | 4,_=>exact h0 4 (by omega)
 | 5,_=>exact h0 5 (by omega)
 | 6,_=>exact h0 6 (by omega)
 | 7,_=>exact h0 7 (by omega)
 | 8,_=>exact h0 8 (by omega)
 | 9,_=>exact h0 9 (by omega)
 | 10,_=>exact h0 10 (by omega)
 | 11,_=>exact h0 11 (by omega)
 | 12,_=>exact h0 12 (by omega)
 | 13,_=>exact h0 13 (by omega)
 | 14,_=>exact h0 14 (by omega)
 | 15,_=>exact h0 15 (by omega)
 | 16,_=>exact h0 16 (by omega)
 | 17,_=>exact h0 17 (by omega)
 | 18,_=>exact h0 18 (by omega)
 | 19,_=>exact h0 19 (by omega)
 | 20,_=>exact h0 20 (by omega)
 | 21,_=>exact h0 21 (by omega)
 | 22,_=>exact h0 22 (by omega)
 | 23,_=>exact h0 23 (by omega)
 | 24,_=>exact h0 24 (by omega)
 | 25,_=>exact h1 0 (by omega)
 | 26,_=>exact h1 1 (by omega)
 | 27,_=>exact h1 2 (by omega)
 | 28,_=>exact h1 3 (by omega)
 | 29,_=>exact h1 4 (by omega)
 | 30,_=>exact h1 5 (by omega)
 | 31,_=>exact h1 6 (by omega)
 | 32,_=>exact h1 7 (by omega)
 | 33,_=>exact h1 8 (by omega)
 | 34,_=>exact h1 9 (by omega)
 | 35,_=>exact h1 10 (by omega)
 | 36,_=>exact h1 11 (by omega)
 | 37,_=>exact h1 12 (by omega)
 | 38,_=>exact h1 13 (by omega)
 | 39,_=>exact h1 14 (by omega)
 | 40,_=>exact h1 15 (by omega)
 | 41,_=>exact h1 16 (by omega)
 | 42,_=>exact h1 17 (by omega)
 | 43,_=>exact h1 18 (by omega)
 | 44,_=>exact h1 19 (by omega)
 | 45,_=>exact h1 20 (by omega)
 | 46,_=>exact h1 21 (by omega)
 | 47,_=>exact h1 22 (by omega)
 | 48,_=>exact h1 23 (by omega)
 | 49,_=>exact h1 24 (by omega)
 | 50,_=>exact h2 0 (by omega)
 | 51,_=>exact h3 0 (by omega)
 | 52,_=>exact h4 0 (by omega)
 | 53,_=>exact h4 1 (by omega)
 | 54,_=>exact h4 2 (by omega)
 | 55,_=>exact h4 3 (by omega)
 | 56,_=>exact h4 4 (by omega)
 | 57,_=>exact h4 5 (by omega)
 | 58,_=>exact h4 6 (by omega)
 | 59,_=>exact h4 7 (by omega)
 | 60,_=>exact h4 8 (by omega)
 | 61,_=>exact h4 9 (by omega)
 | 62,_=>exact h4 10 (by omega)
 | 63,_=>exact h4 11 (by omega)
 | 64,_=>exact h4 12 (by omega)
 | 65,_=>exact h4 13 (by omega)
 | 66,_=>exact h4 14 (by omega)
 | 67,_=>exact h4 15 (by omega)
 | 68,_=>exact h4 16 (by omega)
 | 69,_=>exact h4 17 (by omega)
 | 70,_=>exact h4 18 (by omega)
 | 71,_=>exact h4 19 (by omega)
 | 72,_=>exact h4 20 (by omega)
 | 73,_=>exact h4 21 (by omega)
 | 74,_=>exact h4 22 (by omega)
 | 75,_=>exact h4 23 (by omega)
 | 76,_=>exact h4 24 (by omega)
 | 77,_=>exact h4 25 (by omega)
 | 78,_=>exact h4 26 (by omega)
 | 79,_=>exact h4 27 (by omega)
 | 80,_=>exact h5 0 (by omega)
 | 81,_=>exact h6 0 (by omega)
 | 82,_=>exact h7 0 (by omega)
 | j+83,hj=>exact absurd hj (by omega)
theorem V5:Tryz.prog.underlying 86=some (.struct (Av 86)):=by kernel_rfl
theorem c86:Tryz.prog.cellsOf 86=92:=by kernel_rfl
theorem akZ:Opens Tryz.prog 86 fI 92 (λx j=>(rC aj x j)) (λ_=>True):=by
 intro H enc w base sp held fuel cs x h;obtain⟨a0,_,h0⟩:=bV V5 h 0 (ft:=68) (off:=0) (by kernel_rfl) c68 ar0;obtain⟨a1,_,h1⟩:=bV V5 h 1 (ft:=71) (off:=1) (by kernel_rfl) c71 ar3;obtain⟨a2,_,h2⟩:=bV V5 h 2 (ft:=84) (off:=8) (by kernel_rfl) c84 asc;obtain⟨a3,_,h3⟩:=bV V5 h 3 (ft:=3) (off:=91) (by kernel_rfl) c3 lM;refine⟨(mQ V5 h).trans c86,⟨a0,a1,a2,a3⟩,trivial,λj hj=>?_⟩
 match j,hj with
 | 0,_=>exact h0 0 (by omega)
 | 1,_=>exact h1 0 (by omega)
 | 2,_=>exact h1 1 (by omega)
 | 3,_=>exact h1 2 (by omega)
 | 4,_=>exact h1 3 (by omega)
 | 5,_=>exact h1 4 (by omega)
 | 6,_=>exact h1 5 (by omega)
 | 7,_=>exact h1 6 (by omega)
 | 8,_=>exact h2 0 (by omega)
 | 9,_=>exact h2 1 (by omega)
 | 10,_=>exact h2 2 (by omega)
 | 11,_=>exact h2 3 (by omega)
 | 12,_=>exact h2 4 (by omega)
 | 13,_=>exact h2 5 (by omega)
 | 14,_=>exact h2 6 (by omega)
 | 15,_=>exact h2 7 (by omega)
 | 16,_=>exact h2 8 (by omega)
 | 17,_=>exact h2 9 (by omega)
 | 18,_=>exact h2 10 (by omega)
 | 19,_=>exact h2 11 (by omega)
 | 20,_=>exact h2 12 (by omega)
 | 21,_=>exact h2 13 (by omega)
 | 22,_=>exact h2 14 (by omega)
 | 23,_=>exact h2 15 (by omega)
 | 24,_=>exact h2 16 (by omega)
 | 25,_=>exact h2 17 (by omega)
 | 26,_=>exact h2 18 (by omega)
 | 27,_=>exact h2 19 (by omega)
 | 28,_=>exact h2 20 (by omega)
 | 29,_=>exact h2 21 (by omega)
 | 30,_=>exact h2 22 (by omega)
 | 31,_=>exact h2 23 (by omega)
 | 32,_=>exact h2 24 (by omega)
 | 33,_=>exact h2 25 (by omega)
 | 34,_=>exact h2 26 (by omega)
 | 35,_=>exact h2 27 (by omega)
 | 36,_=>exact h2 28 (by omega)
 | 37,_=>exact h2 29 (by omega)
 | 38,_=>exact h2 30 (by omega)
 | 39,_=>exact h2 31 (by omega)
 | 40,_=>exact h2 32 (by omega)
 | 41,_=>exact h2 33 (by omega)
 | 42,_=>exact h2 34 (by omega)
 | 43,_=>exact h2 35 (by omega)
 | 44,_=>exact h2 36 (by omega)
 | 45,_=>exact h2 37 (by omega)
 | 46,_=>exact h2 38 (by omega)
 | 47,_=>exact h2 39 (by omega)
 | 48,_=>exact h2 40 (by omega)
 | 49,_=>exact h2 41 (by omega)
 | 50,_=>exact h2 42 (by omega)
 | 51,_=>exact h2 43 (by omega)
 | 52,_=>exact h2 44 (by omega)
 | 53,_=>exact h2 45 (by omega)
 | 54,_=>exact h2 46 (by omega)
 | 55,_=>exact h2 47 (by omega)
 | 56,_=>exact h2 48 (by omega)
 | 57,_=>exact h2 49 (by omega)
 | 58,_=>exact h2 50 (by omega)
 | 59,_=>exact h2 51 (by omega)
 | 60,_=>exact h2 52 (by omega)
 | 61,_=>exact h2 53 (by omega)
 | 62,_=>exact h2 54 (by omega)
 | 63,_=>exact h2 55 (by omega)
 | 64,_=>exact h2 56 (by omega)
 | 65,_=>exact h2 57 (by omega)
 | 66,_=>exact h2 58 (by omega)
 | 67,_=>exact h2 59 (by omega)
 | 68,_=>exact h2 60 (by omega)
 | 69,_=>exact h2 61 (by omega)
 | 70,_=>exact h2 62 (by omega)
 | 71,_=>exact h2 63 (by omega)
 | 72,_=>exact h2 64 (by omega)
 | 73,_=>exact h2 65 (by omega)
 | 74,_=>exact h2 66 (by omega)
 | 75,_=>exact h2 67 (by omega)
 | 76,_=>exact h2 68 (by omega)
 | 77,_=>exact h2 69 (by omega)
 | 78,_=>exact h2 70 (by omega)
 | 79,_=>exact h2 71 (by omega)
 | 80,_=>exact h2 72 (by omega)
 | 81,_=>exact h2 73 (by omega)
 | 82,_=>exact h2 74 (by omega)
 | 83,_=>exact h2 75 (by omega)
 | 84,_=>exact h2 76 (by omega)
 | 85,_=>exact h2 77 (by omega)
 | 86,_=>exact h2 78 (by omega)
 | 87,_=>exact h2 79 (by omega)
 | 88,_=>exact h2 80 (by omega)
 | 89,_=>exact h2 81 (by omega)
 | 90,_=>exact h2 82 (by omega)
 | 91,_=>exact h3 0 (by omega)
 | j+92,hj=>exact absurd hj (by omega)
abbrev Oi:List (String×DataW Unit):=Rows.termCutsRow.laid
theorem adE(w:World):laidMetH Tryz.prog Oi w=laidMet Tryz.prog Oi w:=MakeChecks.laidMetH_plain _ _ _ (by kernel_rfl)
theorem yF{P:Program}{w:World} : ∀ {laid:List (String×DataW Unit)} {ps:List MemPlace},DataW.LaidVars P w laid ps->∀ x∈laid,
  ∃ g t cs fuel p,P.globalNamed x.1=some g/\(P.globals[g]?).map (·.type)=some t/\w.var? P x.1=some cs/\DataW.trod (λ_=>()) P w 0 (λ_=>true) false fuel t cs.toList=some (x.2,p)
 | [],_,_,x,hx=>by cases hx
 | (n,d)::r,ps,h,x,hx=>by
  obtain⟨g,t,cs,fuel,p,q,h1,h2,h3,h4,h5,_⟩:=h;rcases List.mem_cons.1 hx with rfl|hx
  . exact⟨g,t,cs,fuel,p,h1,h2,h3,h4⟩
  exact yF h5 x hx
theorem atP:Tryz.prog.underlying 276=some (.struct (Av 276)):=by kernel_rfl
theorem atQ:Tryz.prog.underlying 277=some (.array 24 276):=by kernel_rfl
theorem ayE:Tryz.prog.cellsOf 276=2:=by kernel_rfl
theorem row_of{w:World}{base:Nat}{sp:Nat->Bool}{held:Bool}{fuel:Nat}{c2:List Value}{b:Bool}{n:Int}{p:List MemPlace}(h:DataW.trod (λ_=>()) Tryz.prog w base sp held fuel 276 c2=some (.agg [.lit (.bool b),.lit (.int .i64 n)],p)):c2[0]? = some (.bool b)/\c2[1]? = some (.int .i64 n):=by
 obtain⟨xs,m,_,hx,_,hlen,hel⟩:=DataW.trod_struct atP h;have hf0:((Av 276)[0]?).map (λf=>(f.type,f.offset))=some (4,0):=by kernel_rfl
 have hf1:((Av 276)[1]?).map (λf=>(f.type,f.offset))=some (3,1):=by kernel_rfl
 obtain⟨f0,g0,e0⟩:=Option.map_eq_some_iff.1 hf0;obtain⟨f1,g1,e1⟩:=Option.map_eq_some_iff.1 hf1;have h0:=hel 0 f0 g0;have h1:=hel 1 f1 g1;simp only[Prod.mk.injEq] at e0 e1;rw[e0.1,e0.2,c4] at h0;rw[e1.1,e1.2,c3] at h1;simp only[Prod.mk.injEq,DataW.agg.injEq] at hx
 match xs,hx.1 with
 | [x0,x1],hx=>
  simp only[List.map_cons,List.map_nil,List.cons.injEq] at hx;obtain⟨b',q1,q2⟩:=DataW.trod_bool aiz (by rw[h0];rfl);obtain⟨n',r1,r2,_⟩:=DataW.trod_int aiy (by rw[h1];rfl);rw[q2] at hx;rw[r2] at hx;obtain⟨u1,u2,_⟩:=hx;cases u1;cases u2;constructor
  . have:=congrArg (λl=>l[0]?) q1;simpa using this
  have:=congrArg (λl=>l[0]?) r1;simpa[List.getElem?_take,List.getElem?_drop] using this
def aav:List (Bool×Int):=(List.range 24).map λi=>(match (zA 1).bind (λx=>some (x.2 (2*i))) with
 | some (.bool b)=>b
 | _=>false,match (zA 1).bind (λx=>some (x.2 (2*i+1))) with
 | some (.int _ n)=>n
 | _=>0)
theorem apt:Rows.laid_lapwing_modes_table=(DataW.agg (aav.map λx=>DataW.agg [.lit (.bool x.1),.lit (.int .i64 x.2)]):DataW Unit):=by kernel_rfl
def V8(k:Nat):Value:=if k%2=0 then .bool (aav.getD (k/2) (false,0)).1 else .int .i64 (aav.getD (k/2) (false,0)).2
theorem ab5 : ∀ k,k<48->∀ n f,zA 1=some (n,f)->n=48/\f k=V8 k/\(f k).oneCell'=true/\Es (f k) = .v (f k):=by
 intro k hk n f h;obtain⟨rfl,rfl⟩:n=48/\f=((zA 1).get (by kernel_rfl)).2:=by
  have e:zA 1=some (48,((zA 1).get (by kernel_rfl)).2):=by kernel_rfl
  rw[e] at h;cases h;exact⟨rfl,rfl⟩
 refine⟨rfl,?_⟩;have hall : ∀ k,k<48->((zA 1).get (by kernel_rfl)).2 k=V8 k/\(((zA 1).get (by kernel_rfl)).2 k).oneCell'=true/\Es (((zA 1).get (by kernel_rfl)).2 k) = .v (((zA 1).get (by kernel_rfl)).2 k):=by
  repeat' first|exact GD|refine GH ?_ ?_
  all_goals exact⟨by kernel_rfl,by kernel_rfl,by kernel_rfl⟩
 exact hall k hk
theorem akd{w:World}{base:Nat}{sp:Nat->Bool}{held:Bool}{fuel:Nat}{cs:List Value}{p:List MemPlace}(h:DataW.trod (λ_=>()) Tryz.prog w base sp held fuel 277 cs=some (Rows.laid_lapwing_modes_table,p)) : ∀ k,k<48->cs[k]? = some (V8 k):=by
 rw[apt] at h;obtain⟨xs,m,_,hx,_,hlen,hel⟩:=DataW.trod_array atQ h;simp only[Prod.mk.injEq,DataW.agg.injEq] at hx;intro k hk;have hi:k/2<24:=by omega
 have h1:=hel (k/2) hi;have hml:aav.length=24:=by kernel_rfl
 have hx1:(xs[k/2]?).map (·.1)=some (DataW.agg [.lit (.bool (aav.getD (k/2) (false,0)).1),.lit (.int .i64 (aav.getD (k/2) (false,0)).2)]):=by
  rw[← List.getElem?_map,← hx.1,List.getElem?_map,List.getD_eq_getElem?_getD,List.getElem?_eq_getElem (by omega)];rfl
 obtain⟨y,y1,y2⟩:=Option.map_eq_some_iff.1 hx1;obtain⟨y0,yp⟩:=y;simp only at y2;subst y2;rw[y1,ayE] at h1;obtain⟨z0,z1⟩:=row_of h1;rw[List.getElem?_take,if_pos (by omega),List.getElem?_drop] at z0 z1;unfold V8;split
 . have:k=k/2*2+0:=by omega
   rw[this];rw[show(k/2*2+0)/2=k/2 by omega];exact z0
 have:k=k/2*2+1:=by omega
 rw[this];rw[show(k/2*2+1)/2=k/2 by omega];exact z1
def apu(g n:Nat):List Int:=(List.range n).map λi=>xA g (i:Nat)
theorem YP{W:World}{nm:String}{g' g t n:Nat}{k:IntKind}{e:TypeId}{cs:Array Value}{base:Nat}{sp:Nat->Bool}{held:Bool}{fuel:Nat}{dt:DataW Unit}{p:List MemPlace}(hg:Tryz.prog.globalNamed nm=some g)(hg':Tryz.prog.globalNamed nm=some g')
  (ht:(Tryz.prog.globals[g]?).map (·.type)=some t) (hv:W.var? Tryz.prog nm=some cs) (hd:DataW.trod (λ_=>()) Tryz.prog W base sp held fuel t cs.toList=some (dt,p)) (hdt:dt=Go.Lib.tabData k (apu g' n)) (hn:0<n)
  (ty : ∃ t',(Tryz.prog.globals[g']?).map (·.type)=some t'/\Tryz.prog.underlying t'=some (.array n e)/\Tryz.prog.underlying e=some (.int k)/\Tryz.prog.cellsOf e=1/\Tryz.prog.cellsOf t'=n) :
  0<n/\g'<W.heap.size/\∃ c e fr,W.heap[g']? = some (.cells c e fr)/\c.size=n/\∀ i:Nat,i<n->c[i]? = some (.int k (xA g' i)):=by
 obtain rfl:=Option.some.inj (hg'.symm.trans hg);obtain⟨t',ht',ha⟩:=ty;obtain rfl:=Option.some.inj (ht'.symm.trans ht);subst hdt;have e1:=Go.Lib.cells_of_tab ha.1 ha.2.1 ha.2.2.1 ha.2.2.2 hd;simp only[World.var?,hg,Option.bind_some] at hv;split at hv
 . rename_i c e' fr hc;cases hv;refine⟨hn,Array.getElem?_eq_some_iff.1 hc |>.1,cs,e',fr,hc,by have:=congrArg List.length e1;simpa[apu] using this,λi hi=>?_⟩;have:cs.toList[i]? = some (.int k (xA g' i)):=by
    rw[e1];simp[apu,hi]
   simpa using this
 cases hv
theorem afc{W:World}(h:laidMetH Tryz.prog Oi W):PK W.heap (λb=>b<W.heap.size):=by
 rw[adE] at h;obtain⟨ps,hl,_⟩:=h;refine⟨λg' n k hk=>?_,λg' n f hk=>?_⟩
 . unfold alX at hk;split at hk
   . rename_i h0;obtain⟨rfl⟩:(0:Nat)=g':=(Nat.eq_of_beq_eq_true h0).symm;cases hk;obtain⟨g,t,cs,fuel,p,hg,ht,hv,hd⟩:=yF hl ("strings.asciiSpace",Rows.laid_strings_asciiSpace) (by
      show _∈[_,_,_,_,_,_,_,_,_,_,_,_,_];exact .tail _ (.tail _ (.tail _ (.tail _ (.tail _ (.tail _ (.tail _ (.head _))))))))
     exact YP (e:=5) hg (by kernel_rfl) ht hv hd (by kernel_rfl) (by decide) ⟨_,rfl,by kernel_rfl,by kernel_rfl,by kernel_rfl,by kernel_rfl⟩
   skip
   split at hk
   . rename_i h0;obtain⟨rfl⟩:(4:Nat)=g':=(Nat.eq_of_beq_eq_true h0).symm;cases hk;obtain⟨g,t,cs,fuel,p,hg,ht,hv,hd⟩:=yF hl ("lapwing/charset.graphics",Rows.laid_lapwing_charset_graphics) (by
      show _∈[_,_,_,_,_,_,_,_,_,_,_,_,_];exact .tail _ (.tail _ (.tail _ (.tail _ (.tail _ (.tail _ (.tail _ (.tail _ (.tail _ (.tail _ (.head _)))))))))))
     exact YP (e:=3) hg (by kernel_rfl) ht hv hd (by kernel_rfl) (by decide) ⟨_,rfl,by kernel_rfl,by kernel_rfl,by kernel_rfl,by kernel_rfl⟩
   skip
   split at hk
   . rename_i h0;obtain⟨rfl⟩:(8:Nat)=g':=(Nat.eq_of_beq_eq_true h0).symm;cases hk;obtain⟨g,t,cs,fuel,p,hg,ht,hv,hd⟩:=yF hl ("lapwing/pen.switched",Rows.laid_lapwing_pen_switched) (by
      show _∈[_,_,_,_,_,_,_,_,_,_,_,_,_];exact .tail _ (.tail _ (.tail _ (.tail _ (.tail _ (.tail _ (.tail _ (.tail _ (.tail _ (.tail _ (.tail _ (.head _))))))))))))
     exact YP (e:=3) hg (by kernel_rfl) ht hv hd (by kernel_rfl) (by decide) ⟨_,rfl,by kernel_rfl,by kernel_rfl,by kernel_rfl,by kernel_rfl⟩
   skip
   split at hk
   . rename_i h0;obtain⟨rfl⟩:(9:Nat)=g':=(Nat.eq_of_beq_eq_true h0).symm;cases hk;obtain⟨g,t,cs,fuel,p,hg,ht,hv,hd⟩:=yF hl ("lapwing/pen.unswitched",Rows.laid_lapwing_pen_unswitched) (by
      show _∈[_,_,_,_,_,_,_,_,_,_,_,_,_];exact .tail _ (.tail _ (.tail _ (.tail _ (.tail _ (.tail _ (.tail _ (.tail _ (.tail _ (.tail _ (.tail _ (.tail _ (.head _)))))))))))))
     exact YP (e:=3) hg (by kernel_rfl) ht hv hd (by kernel_rfl) (by decide) ⟨_,rfl,by kernel_rfl,by kernel_rfl,by kernel_rfl,by kernel_rfl⟩
   skip
   split at hk
   . rename_i h0;obtain⟨rfl⟩:(12:Nat)=g':=(Nat.eq_of_beq_eq_true h0).symm;cases hk;obtain⟨g,t,cs,fuel,p,hg,ht,hv,hd⟩:=yF hl ("internal/strconv.uint64pow10",Rows.laid_internal_strconv_uint64pow10) (by
      show _∈[_,_,_,_,_,_,_,_,_,_,_,_,_];exact .tail _ (.tail _ (.tail _ (.tail _ (.head _)))))
     exact YP (e:=194) hg (by kernel_rfl) ht hv hd (by kernel_rfl) (by decide) ⟨_,rfl,by kernel_rfl,by kernel_rfl,by kernel_rfl,by kernel_rfl⟩
   skip
   cases hk
 obtain⟨g,t,cs,fuel,p,hg,ht,hv,hd⟩:=yF hl ("lapwing/modes.table",Rows.laid_lapwing_modes_table) (by
  show _∈[_,_,_,_,_,_,_,_,_,_,_,_,_];exact .tail _ (.tail _ (.tail _ (.tail _ (.tail _ (.tail _ (.tail _ (.tail _ (.tail _ (.head _))))))))))
 obtain rfl:=Option.some.inj ((show Tryz.prog.globalNamed "lapwing/modes.table" = some 1 by kernel_rfl).symm.trans hg);have ht':(Tryz.prog.globals[1]?).map (·.type)=some 277:=by kernel_rfl
 obtain rfl:=Option.some.inj (ht'.symm.trans ht);have e:=akd hd;have hg2:g'=1:=by
  unfold zA at hk;split at hk
  . rename_i h0;exact Nat.eq_of_beq_eq_true h0
  cases hk
 subst hg2;obtain⟨rfl,_⟩:=ab5 0 (by omega) n f hk;simp only[World.var?,hg,Option.bind_some] at hv;split at hv
 . rename_i c e' fr hc;cases hv;refine⟨by decide,Array.getElem?_eq_some_iff.1 hc |>.1,λj hj=>((ab5 j hj _ f hk).2).2,cs,e',fr,hc,λi hi=>?_⟩;have h1:=e i hi;rw[← ((ab5 i hi _ f hk).2).1] at h1;simpa using h1
 cases hv
theorem V4(os:Os):(World.laidAll Tryz.prog os Oi).Shaped Tryz.prog:=World.shaped_of_ZipB (by kernel_rfl) (by kernel_rfl)
theorem afa(os:Os)(args:Array Value):laidMetH Tryz.prog Oi ((World.laidAll Tryz.prog os Oi).forCall (λ_ _=>0) ⟨#[],args,[]⟩).memory:=by
 rw[adE];exact laidMet_laidAll _ (by kernel_rfl) (by kernel_rfl)
end Go.Proofs.YtmpgicplgjmjkaaGreatDoor
