/- What the joins of this seat share: the listed variables' condition gives the one table that the walks read; the witness meets it. -/
import Derived.Test.YtmkigppfdmghnaaGreatDoorVxOpen
import Derived.Test.YtmkigppfdmghnaaGreatDoorIHead
import Derived.Test.YtmkigppfdmghnaaGreatDoorRows
import Derived.Test.YtmkigppfdmghnaaGreatDoorTie
import Derived.ProofKit
import Derived.OpenShut
import Derived.LaidMore
import Derived.Lay
import Derived.SevenTiedAt
import Derived.Stop.Joined
import Derived.Lib.LaidTab
set_option linter.all false
namespace Go.Proofs.YtmkigppfdmghnaaGreatDoor
open Go Go.Vx Go.ChangeShapes Go.WideShapes Go.ChangeAt Go.RowKit
set_option maxRecDepth 100000
theorem Tryz.own:ownKnob Tryz.prog.godebug=none:=by kernel_rfl
theorem Tryz.laidOut:laidOutB Tryz.prog=true:=by kernel_rfl
noncomputable def fsOf (t:TypeId):Array Field:=match Tryz.prog.underlying t with | some (.struct fs)=>fs | _=>#[]
theorem Opens.weak {P:Program} {t:TypeId} {T:Type} {sz:Nat} {rd:T→Nat→D} {wf:T→Prop} (h:Opens P t T sz rd wf):Opens P t T sz rd (fun _=>True):=by
 intro H enc w base sp held fuel cs x hh
 obtain ⟨a,y,_,c⟩:=h hh
 exact ⟨a,y,trivial,c⟩
theorem opens_field {P:Program} {t:TypeId} {fs:Array Field} (ht:P.underlying t=some (.struct fs)) {H:Type} {enc:TypeId × Value→H} {w:World} {base:Nat} {sp:Nat→Bool} {held:Bool} {fuel:Nat} {cs:List Value} {x:DataW H × List MemPlace}
  (h:DataW.trod enc P w base sp held fuel t cs=some x) (i:Nat) {ft off:Nat} (hf:(fs[i]?).map (fun f=>(f.type,f.offset))=some (ft,off)) {T:Type} {sz:Nat} {rd:T→Nat→D} {wf:T→Prop} (hc:P.cellsOf ft=sz) (ho:Opens P ft T sz rd wf) :
  ∃ y:T,wf y∧∀ j,j < sz→∃ z,cs[off+j]? = some z∧z.oneCell'=true∧Rd w.heap (fun b=>b < w.heap.size) (fun _=>none) [] 1 (rd y j) z:=by
 obtain ⟨f,hfi,he⟩:=Option.map_eq_some_iff.1 hf
 cases he
 obtain ⟨xs,n,_,_,_,hlen,hel⟩:=DataW.trod_struct ht h
 have h1:=hel i f hfi
 have hi:i < xs.length:=by rw [hlen];exact (Array.getElem?_eq_some_iff.1 hfi).1
 rw [List.getElem?_eq_getElem hi] at h1
 obtain ⟨_,y,h2,h3⟩:=ho h1
 refine ⟨y,h2,fun j hj=>?_⟩
 obtain ⟨z,z1,z2⟩:=h3 j hj
 refine ⟨z,?_,z2⟩
 rw [hc,List.getElem?_take,if_pos hj,List.getElem?_drop] at z1
 exact z1
theorem cells_len {P:Program} {t:TypeId} {fs:Array Field} (ht:P.underlying t=some (.struct fs)) {H:Type} {enc:TypeId × Value→H} {w:World} {base:Nat} {sp:Nat→Bool} {held:Bool} {fuel:Nat} {cs:List Value} {x:DataW H × List MemPlace}
  (h:DataW.trod enc P w base sp held fuel t cs=some x):cs.length=P.cellsOf t:=by
 obtain ⟨_,_,_,_,hl,_,_⟩:=DataW.trod_struct ht h
 exact hl
theorem und3:Tryz.prog.underlying 3=some (.int .i64):=by kernel_rfl
theorem c3:Tryz.prog.cellsOf 3=1:=by kernel_rfl
theorem opens3:Opens Tryz.prog 3 Int 1 (fun x _=>(.v (.int .i64 x))) (fun _=>True):=Opens.weak (opens_int und3)
theorem und4:Tryz.prog.underlying 4=some .bool:=by kernel_rfl
theorem c4:Tryz.prog.cellsOf 4=1:=by kernel_rfl
theorem opens4:Opens Tryz.prog 4 Bool 1 (fun x _=>(.v (.bool x))) (fun _=>True):=Opens.weak (opens_bool und4)
theorem und194:Tryz.prog.underlying 194=some (.array 2 3):=by kernel_rfl
theorem c194:Tryz.prog.cellsOf 194=2:=by kernel_rfl
theorem opens194:Opens Tryz.prog 194 T_Arr2_i64 2 (fun x j=>(D_Arr2_i64 nvS x j)) (fun _=>True):=by
 intro H enc w base sp held fuel cs x h
 obtain ⟨xs,m,_,_,hl,hlen,hel⟩:=DataW.trod_array und194 h
 have one : ∀ i,i < 2→∃ y:Int,∀ j,j < 1→∃ z,cs[i*1+j]? = some z∧z.oneCell'=true∧Rd w.heap (fun b=>b < w.heap.size) (fun _=>none) [] 1 ((fun x _=>(.v (.int .i64 x))) y j) z:=by
  intro i hi
  have h1:=hel i hi
  rw [List.getElem?_eq_getElem (by rw [hlen];exact hi),c3] at h1
  obtain ⟨_,y,_,h3⟩:=opens3 h1
  refine ⟨y,fun j hj=>?_⟩
  obtain ⟨z,z1,z2⟩:=h3 j hj
  refine ⟨z,?_,z2⟩
  rw [List.getElem?_take,if_pos hj,List.getElem?_drop] at z1
  first | exact z1 | simpa using z1
 obtain ⟨a0,h0⟩:=one 0 (by omega)
 obtain ⟨a1,h1⟩:=one 1 (by omega)
 refine ⟨hl.trans c194,⟨a0,a1⟩,trivial,fun j hj=>?_⟩
 match j,hj with
 | 0,_=>exact h0 0 (by omega)
 | 1,_=>exact h1 0 (by omega)
 | j+2,hj=>exact absurd hj (by omega)
theorem und26:Tryz.prog.underlying 26=some (.struct (fsOf 26)):=by kernel_rfl
theorem c26:Tryz.prog.cellsOf 26=3:=by kernel_rfl
theorem opens26:Opens Tryz.prog 26 T_api_Pen 3 (fun x j=>(D_api_Pen nvS x j)) (fun _=>True):=by
 intro H enc w base sp held fuel cs x h
 obtain ⟨a0,_,h0⟩:=opens_field und26 h 0 (ft:=3) (off:=0) (by kernel_rfl) c3 opens3
 obtain ⟨a1,_,h1⟩:=opens_field und26 h 1 (ft:=3) (off:=1) (by kernel_rfl) c3 opens3
 obtain ⟨a2,_,h2⟩:=opens_field und26 h 2 (ft:=3) (off:=2) (by kernel_rfl) c3 opens3
 refine ⟨(cells_len und26 h).trans c26,⟨a0,a1,a2⟩,trivial,fun j hj=>?_⟩
 match j,hj with
 | 0,_=>exact h0 0 (by omega)
 | 1,_=>exact h1 0 (by omega)
 | 2,_=>exact h2 0 (by omega)
 | j+3,hj=>exact absurd hj (by omega)
theorem und196:Tryz.prog.underlying 196=some (.struct (fsOf 196)):=by kernel_rfl
theorem c196:Tryz.prog.cellsOf 196=7:=by kernel_rfl
theorem opens196:Opens Tryz.prog 196 T_api_Cell 7 (fun x j=>(D_api_Cell nvS x j)) (fun _=>True):=by
 intro H enc w base sp held fuel cs x h
 obtain ⟨a0,_,h0⟩:=opens_field und196 h 0 (ft:=3) (off:=0) (by kernel_rfl) c3 opens3
 obtain ⟨a1,_,h1⟩:=opens_field und196 h 1 (ft:=194) (off:=1) (by kernel_rfl) c194 opens194
 obtain ⟨a2,_,h2⟩:=opens_field und196 h 2 (ft:=3) (off:=3) (by kernel_rfl) c3 opens3
 obtain ⟨a3,_,h3⟩:=opens_field und196 h 3 (ft:=26) (off:=4) (by kernel_rfl) c26 opens26
 refine ⟨(cells_len und196 h).trans c196,⟨a0,a1,a2,a3⟩,trivial,fun j hj=>?_⟩
 match j,hj with
 | 0,_=>exact h0 0 (by omega)
 | 1,_=>exact h1 0 (by omega)
 | 2,_=>exact h1 1 (by omega)
 | 3,_=>exact h2 0 (by omega)
 | 4,_=>exact h3 0 (by omega)
 | 5,_=>exact h3 1 (by omega)
 | 6,_=>exact h3 2 (by omega)
 | j+7,hj=>exact absurd hj (by omega)
theorem und131:Tryz.prog.underlying 131=some (.slice 196):=by kernel_rfl
theorem c131:Tryz.prog.cellsOf 131=1:=by kernel_rfl
theorem opens131:Opens Tryz.prog 131 (List T_api_Cell) 1 (fun x _=>(.sl 7 (nvS.len x) false (fun ix jx=>(D_api_Cell nvS (nvS.get d_api_Cell x ix) jx)))) (fun _=>True):=Opens.weak (opens_slice d_api_Cell und131 c196 (by omega) opens196)
theorem und133:Tryz.prog.underlying 133=some (.struct (fsOf 133)):=by kernel_rfl
theorem c133:Tryz.prog.cellsOf 133=4:=by kernel_rfl
theorem opens133:Opens Tryz.prog 133 T_api_Row 4 (fun x j=>(D_api_Row nvS x j)) (fun _=>True):=by
 intro H enc w base sp held fuel cs x h
 obtain ⟨a0,_,h0⟩:=opens_field und133 h 0 (ft:=131) (off:=0) (by kernel_rfl) c131 opens131
 obtain ⟨a1,_,h1⟩:=opens_field und133 h 1 (ft:=4) (off:=1) (by kernel_rfl) c4 opens4
 obtain ⟨a2,_,h2⟩:=opens_field und133 h 2 (ft:=3) (off:=2) (by kernel_rfl) c3 opens3
 obtain ⟨a3,_,h3⟩:=opens_field und133 h 3 (ft:=4) (off:=3) (by kernel_rfl) c4 opens4
 refine ⟨(cells_len und133 h).trans c133,⟨a0,a1,a2,a3⟩,trivial,fun j hj=>?_⟩
 match j,hj with
 | 0,_=>exact h0 0 (by omega)
 | 1,_=>exact h1 0 (by omega)
 | 2,_=>exact h2 0 (by omega)
 | 3,_=>exact h3 0 (by omega)
 | j+4,hj=>exact absurd hj (by omega)
theorem und22:Tryz.prog.underlying 22=some (.slice 133):=by kernel_rfl
theorem c22:Tryz.prog.cellsOf 22=1:=by kernel_rfl
theorem opens22:Opens Tryz.prog 22 (List T_api_Row) 1 (fun x _=>(.sl 4 (nvS.len x) false (fun ix jx=>(D_api_Row nvS (nvS.get d_api_Row x ix) jx)))) (fun _=>True):=Opens.weak (opens_slice d_api_Row und22 c133 (by omega) opens133)
theorem und24:Tryz.prog.underlying 24=some (.struct (fsOf 24)):=by kernel_rfl
theorem c24:Tryz.prog.cellsOf 24=1:=by kernel_rfl
theorem opens24:Opens Tryz.prog 24 T_lapwingref09_Grid 1 (fun x j=>(D_lapwingref09_Grid nvS x j)) (fun _=>True):=by
 intro H enc w base sp held fuel cs x h
 obtain ⟨a0,_,h0⟩:=opens_field und24 h 0 (ft:=22) (off:=0) (by kernel_rfl) c22 opens22
 refine ⟨(cells_len und24 h).trans c24,⟨a0⟩,trivial,fun j hj=>?_⟩
 match j,hj with
 | 0,_=>exact h0 0 (by omega)
 | j+1,hj=>exact absurd hj (by omega)
theorem und5:Tryz.prog.underlying 5=some (.int .u8):=by kernel_rfl
theorem c5:Tryz.prog.cellsOf 5=1:=by kernel_rfl
theorem opens5:Opens Tryz.prog 5 Int 1 (fun x _=>(.v (.int .u8 x))) (fun _=>True):=Opens.weak (opens_int und5)
theorem und27:Tryz.prog.underlying 27=some (.array 4 5):=by kernel_rfl
theorem c27:Tryz.prog.cellsOf 27=4:=by kernel_rfl
theorem opens27:Opens Tryz.prog 27 T_Arr4_u8 4 (fun x j=>(D_Arr4_u8 nvS x j)) (fun _=>True):=by
 intro H enc w base sp held fuel cs x h
 obtain ⟨xs,m,_,_,hl,hlen,hel⟩:=DataW.trod_array und27 h
 have one : ∀ i,i < 4→∃ y:Int,∀ j,j < 1→∃ z,cs[i*1+j]? = some z∧z.oneCell'=true∧Rd w.heap (fun b=>b < w.heap.size) (fun _=>none) [] 1 ((fun x _=>(.v (.int .u8 x))) y j) z:=by
  intro i hi
  have h1:=hel i hi
  rw [List.getElem?_eq_getElem (by rw [hlen];exact hi),c5] at h1
  obtain ⟨_,y,_,h3⟩:=opens5 h1
  refine ⟨y,fun j hj=>?_⟩
  obtain ⟨z,z1,z2⟩:=h3 j hj
  refine ⟨z,?_,z2⟩
  rw [List.getElem?_take,if_pos hj,List.getElem?_drop] at z1
  first | exact z1 | simpa using z1
 obtain ⟨a0,h0⟩:=one 0 (by omega)
 obtain ⟨a1,h1⟩:=one 1 (by omega)
 obtain ⟨a2,h2⟩:=one 2 (by omega)
 obtain ⟨a3,h3⟩:=one 3 (by omega)
 refine ⟨hl.trans c27,⟨a0,a1,a2,a3⟩,trivial,fun j hj=>?_⟩
 match j,hj with
 | 0,_=>exact h0 0 (by omega)
 | 1,_=>exact h1 0 (by omega)
 | 2,_=>exact h2 0 (by omega)
 | 3,_=>exact h3 0 (by omega)
 | j+4,hj=>exact absurd hj (by omega)
theorem und29:Tryz.prog.underlying 29=some (.struct (fsOf 29)):=by kernel_rfl
theorem c29:Tryz.prog.cellsOf 29=7:=by kernel_rfl
theorem opens29:Opens Tryz.prog 29 T_lapwingref04_State 7 (fun x j=>(D_lapwingref04_State nvS x j)) (fun _=>True):=by
 intro H enc w base sp held fuel cs x h
 obtain ⟨a0,_,h0⟩:=opens_field und29 h 0 (ft:=27) (off:=0) (by kernel_rfl) c27 opens27
 obtain ⟨a1,_,h1⟩:=opens_field und29 h 1 (ft:=3) (off:=4) (by kernel_rfl) c3 opens3
 obtain ⟨a2,_,h2⟩:=opens_field und29 h 2 (ft:=3) (off:=5) (by kernel_rfl) c3 opens3
 obtain ⟨a3,_,h3⟩:=opens_field und29 h 3 (ft:=3) (off:=6) (by kernel_rfl) c3 opens3
 refine ⟨(cells_len und29 h).trans c29,⟨a0,a1,a2,a3⟩,trivial,fun j hj=>?_⟩
 match j,hj with
 | 0,_=>exact h0 0 (by omega)
 | 1,_=>exact h0 1 (by omega)
 | 2,_=>exact h0 2 (by omega)
 | 3,_=>exact h0 3 (by omega)
 | 4,_=>exact h1 0 (by omega)
 | 5,_=>exact h2 0 (by omega)
 | 6,_=>exact h3 0 (by omega)
 | j+7,hj=>exact absurd hj (by omega)
theorem und31:Tryz.prog.underlying 31=some (.struct (fsOf 31)):=by kernel_rfl
theorem c31:Tryz.prog.cellsOf 31=14:=by kernel_rfl
theorem opens31:Opens Tryz.prog 31 T_lapwingref14_Cursor 14 (fun x j=>(D_lapwingref14_Cursor nvS x j)) (fun _=>True):=by
 intro H enc w base sp held fuel cs x h
 obtain ⟨a0,_,h0⟩:=opens_field und31 h 0 (ft:=3) (off:=0) (by kernel_rfl) c3 opens3
 obtain ⟨a1,_,h1⟩:=opens_field und31 h 1 (ft:=3) (off:=1) (by kernel_rfl) c3 opens3
 obtain ⟨a2,_,h2⟩:=opens_field und31 h 2 (ft:=4) (off:=2) (by kernel_rfl) c4 opens4
 obtain ⟨a3,_,h3⟩:=opens_field und31 h 3 (ft:=4) (off:=3) (by kernel_rfl) c4 opens4
 obtain ⟨a4,_,h4⟩:=opens_field und31 h 4 (ft:=26) (off:=4) (by kernel_rfl) c26 opens26
 obtain ⟨a5,_,h5⟩:=opens_field und31 h 5 (ft:=29) (off:=7) (by kernel_rfl) c29 opens29
 refine ⟨(cells_len und31 h).trans c31,⟨a0,a1,a2,a3,a4,a5⟩,trivial,fun j hj=>?_⟩
 match j,hj with
 | 0,_=>exact h0 0 (by omega)
 | 1,_=>exact h1 0 (by omega)
 | 2,_=>exact h2 0 (by omega)
 | 3,_=>exact h3 0 (by omega)
 | 4,_=>exact h4 0 (by omega)
 | 5,_=>exact h4 1 (by omega)
 | 6,_=>exact h4 2 (by omega)
 | 7,_=>exact h5 0 (by omega)
 | 8,_=>exact h5 1 (by omega)
 | 9,_=>exact h5 2 (by omega)
 | 10,_=>exact h5 3 (by omega)
 | 11,_=>exact h5 4 (by omega)
 | 12,_=>exact h5 5 (by omega)
 | 13,_=>exact h5 6 (by omega)
 | j+14,hj=>exact absurd hj (by omega)
theorem und33:Tryz.prog.underlying 33=some (.struct (fsOf 33)):=by kernel_rfl
theorem c33:Tryz.prog.cellsOf 33=4:=by kernel_rfl
theorem opens33:Opens Tryz.prog 33 T_lapwingref14_Region 4 (fun x j=>(D_lapwingref14_Region nvS x j)) (fun _=>True):=by
 intro H enc w base sp held fuel cs x h
 obtain ⟨a0,_,h0⟩:=opens_field und33 h 0 (ft:=3) (off:=0) (by kernel_rfl) c3 opens3
 obtain ⟨a1,_,h1⟩:=opens_field und33 h 1 (ft:=3) (off:=1) (by kernel_rfl) c3 opens3
 obtain ⟨a2,_,h2⟩:=opens_field und33 h 2 (ft:=3) (off:=2) (by kernel_rfl) c3 opens3
 obtain ⟨a3,_,h3⟩:=opens_field und33 h 3 (ft:=3) (off:=3) (by kernel_rfl) c3 opens3
 refine ⟨(cells_len und33 h).trans c33,⟨a0,a1,a2,a3⟩,trivial,fun j hj=>?_⟩
 match j,hj with
 | 0,_=>exact h0 0 (by omega)
 | 1,_=>exact h1 0 (by omega)
 | 2,_=>exact h2 0 (by omega)
 | 3,_=>exact h3 0 (by omega)
 | j+4,hj=>exact absurd hj (by omega)
theorem und34:Tryz.prog.underlying 34=some (.slice 3):=by kernel_rfl
theorem c34:Tryz.prog.cellsOf 34=1:=by kernel_rfl
theorem opens34:Opens Tryz.prog 34 (List Int) 1 (fun x _=>(.sl 1 (nvS.len x) false (fun ix jx=>(.v (.int .i64 (nvS.get 0 x ix)))))) (fun _=>True):=Opens.weak (opens_slice 0 und34 c3 (by omega) opens3)
theorem und36:Tryz.prog.underlying 36=some (.struct (fsOf 36)):=by kernel_rfl
theorem c36:Tryz.prog.cellsOf 36=2:=by kernel_rfl
theorem opens36:Opens Tryz.prog 36 T_lapwingref12_Stops 2 (fun x j=>(D_lapwingref12_Stops nvS x j)) (fun _=>True):=by
 intro H enc w base sp held fuel cs x h
 obtain ⟨a0,_,h0⟩:=opens_field und36 h 0 (ft:=34) (off:=0) (by kernel_rfl) c34 opens34
 obtain ⟨a1,_,h1⟩:=opens_field und36 h 1 (ft:=3) (off:=1) (by kernel_rfl) c3 opens3
 refine ⟨(cells_len und36 h).trans c36,⟨a0,a1⟩,trivial,fun j hj=>?_⟩
 match j,hj with
 | 0,_=>exact h0 0 (by omega)
 | 1,_=>exact h1 0 (by omega)
 | j+2,hj=>exact absurd hj (by omega)
theorem und38:Tryz.prog.underlying 38=some (.struct (fsOf 38)):=by kernel_rfl
theorem c38:Tryz.prog.cellsOf 38=2:=by kernel_rfl
theorem opens38:Opens Tryz.prog 38 T_lapwingref10_Kept 2 (fun x j=>(D_lapwingref10_Kept nvS x j)) (fun _=>True):=by
 intro H enc w base sp held fuel cs x h
 obtain ⟨a0,_,h0⟩:=opens_field und38 h 0 (ft:=22) (off:=0) (by kernel_rfl) c22 opens22
 obtain ⟨a1,_,h1⟩:=opens_field und38 h 1 (ft:=3) (off:=1) (by kernel_rfl) c3 opens3
 refine ⟨(cells_len und38 h).trans c38,⟨a0,a1⟩,trivial,fun j hj=>?_⟩
 match j,hj with
 | 0,_=>exact h0 0 (by omega)
 | 1,_=>exact h1 0 (by omega)
 | j+2,hj=>exact absurd hj (by omega)
theorem und40:Tryz.prog.underlying 40=some (.struct (fsOf 40)):=by kernel_rfl
theorem c40:Tryz.prog.cellsOf 40=25:=by kernel_rfl
theorem opens40:Opens Tryz.prog 40 T_lapwingref15_Screen 25 (fun x j=>(D_lapwingref15_Screen nvS x j)) (fun _=>True):=by
 intro H enc w base sp held fuel cs x h
 obtain ⟨a0,_,h0⟩:=opens_field und40 h 0 (ft:=24) (off:=0) (by kernel_rfl) c24 opens24
 obtain ⟨a1,_,h1⟩:=opens_field und40 h 1 (ft:=31) (off:=1) (by kernel_rfl) c31 opens31
 obtain ⟨a2,_,h2⟩:=opens_field und40 h 2 (ft:=33) (off:=15) (by kernel_rfl) c33 opens33
 obtain ⟨a3,_,h3⟩:=opens_field und40 h 3 (ft:=36) (off:=19) (by kernel_rfl) c36 opens36
 obtain ⟨a4,_,h4⟩:=opens_field und40 h 4 (ft:=38) (off:=21) (by kernel_rfl) c38 opens38
 obtain ⟨a5,_,h5⟩:=opens_field und40 h 5 (ft:=3) (off:=23) (by kernel_rfl) c3 opens3
 obtain ⟨a6,_,h6⟩:=opens_field und40 h 6 (ft:=4) (off:=24) (by kernel_rfl) c4 opens4
 refine ⟨(cells_len und40 h).trans c40,⟨a0,a1,a2,a3,a4,a5,a6⟩,trivial,fun j hj=>?_⟩
 match j,hj with
 | 0,_=>exact h0 0 (by omega)
 | 1,_=>exact h1 0 (by omega)
 | 2,_=>exact h1 1 (by omega)
 | 3,_=>exact h1 2 (by omega)
 | 4,_=>exact h1 3 (by omega)
 | 5,_=>exact h1 4 (by omega)
 | 6,_=>exact h1 5 (by omega)
 | 7,_=>exact h1 6 (by omega)
 | 8,_=>exact h1 7 (by omega)
 | 9,_=>exact h1 8 (by omega)
 | 10,_=>exact h1 9 (by omega)
 | 11,_=>exact h1 10 (by omega)
 | 12,_=>exact h1 11 (by omega)
 | 13,_=>exact h1 12 (by omega)
 | 14,_=>exact h1 13 (by omega)
 | 15,_=>exact h2 0 (by omega)
 | 16,_=>exact h2 1 (by omega)
 | 17,_=>exact h2 2 (by omega)
 | 18,_=>exact h2 3 (by omega)
 | 19,_=>exact h3 0 (by omega)
 | 20,_=>exact h3 1 (by omega)
 | 21,_=>exact h4 0 (by omega)
 | 22,_=>exact h4 1 (by omega)
 | 23,_=>exact h5 0 (by omega)
 | 24,_=>exact h6 0 (by omega)
 | j+25,hj=>exact absurd hj (by omega)
theorem und42:Tryz.prog.underlying 42=some (.struct (fsOf 42)):=by kernel_rfl
theorem c42:Tryz.prog.cellsOf 42=1:=by kernel_rfl
theorem opens42:Opens Tryz.prog 42 T_lapwingref13_Modes 1 (fun x j=>(D_lapwingref13_Modes nvS x j)) (fun _=>True):=by
 intro H enc w base sp held fuel cs x h
 obtain ⟨a0,_,h0⟩:=opens_field und42 h 0 (ft:=3) (off:=0) (by kernel_rfl) c3 opens3
 refine ⟨(cells_len und42 h).trans c42,⟨a0⟩,trivial,fun j hj=>?_⟩
 match j,hj with
 | 0,_=>exact h0 0 (by omega)
 | j+1,hj=>exact absurd hj (by omega)
theorem und43:Tryz.prog.underlying 43=some (.array 2 31):=by kernel_rfl
theorem c43:Tryz.prog.cellsOf 43=28:=by kernel_rfl
theorem opens43:Opens Tryz.prog 43 T_Arr2_lapwingref14_Cursor 28 (fun x j=>(D_Arr2_lapwingref14_Cursor nvS x j)) (fun _=>True):=by
 intro H enc w base sp held fuel cs x h
 obtain ⟨xs,m,_,_,hl,hlen,hel⟩:=DataW.trod_array und43 h
 have one : ∀ i,i < 2→∃ y:T_lapwingref14_Cursor,∀ j,j < 14→∃ z,cs[i*14+j]? = some z∧z.oneCell'=true∧Rd w.heap (fun b=>b < w.heap.size) (fun _=>none) [] 1 ((fun x j=>(D_lapwingref14_Cursor nvS x j)) y j) z:=by
  intro i hi
  have h1:=hel i hi
  rw [List.getElem?_eq_getElem (by rw [hlen];exact hi),c31] at h1
  obtain ⟨_,y,_,h3⟩:=opens31 h1
  refine ⟨y,fun j hj=>?_⟩
  obtain ⟨z,z1,z2⟩:=h3 j hj
  refine ⟨z,?_,z2⟩
  rw [List.getElem?_take,if_pos hj,List.getElem?_drop] at z1
  first | exact z1 | simpa using z1
 obtain ⟨a0,h0⟩:=one 0 (by omega)
 obtain ⟨a1,h1⟩:=one 1 (by omega)
 refine ⟨hl.trans c43,⟨a0,a1⟩,trivial,fun j hj=>?_⟩
 match j,hj with
 | 0,_=>exact h0 0 (by omega)
 | 1,_=>exact h0 1 (by omega)
 | 2,_=>exact h0 2 (by omega)
 | 3,_=>exact h0 3 (by omega)
 | 4,_=>exact h0 4 (by omega)
 | 5,_=>exact h0 5 (by omega)
 | 6,_=>exact h0 6 (by omega)
 | 7,_=>exact h0 7 (by omega)
 | 8,_=>exact h0 8 (by omega)
 | 9,_=>exact h0 9 (by omega)
 | 10,_=>exact h0 10 (by omega)
 | 11,_=>exact h0 11 (by omega)
 | 12,_=>exact h0 12 (by omega)
 | 13,_=>exact h0 13 (by omega)
 | 14,_=>exact h1 0 (by omega)
 | 15,_=>exact h1 1 (by omega)
 | 16,_=>exact h1 2 (by omega)
 | 17,_=>exact h1 3 (by omega)
 | 18,_=>exact h1 4 (by omega)
 | 19,_=>exact h1 5 (by omega)
 | 20,_=>exact h1 6 (by omega)
 | 21,_=>exact h1 7 (by omega)
 | 22,_=>exact h1 8 (by omega)
 | 23,_=>exact h1 9 (by omega)
 | 24,_=>exact h1 10 (by omega)
 | 25,_=>exact h1 11 (by omega)
 | 26,_=>exact h1 12 (by omega)
 | 27,_=>exact h1 13 (by omega)
 | j+28,hj=>exact absurd hj (by omega)
theorem und44:Tryz.prog.underlying 44=some (.slice 5):=by kernel_rfl
theorem c44:Tryz.prog.cellsOf 44=1:=by kernel_rfl
theorem opens44:Opens Tryz.prog 44 (List Int) 1 (fun x _=>(.sl 1 (nvS.len x) false (fun ix jx=>(.v (.int .u8 (nvS.get 0 x ix)))))) (fun _=>True):=Opens.weak (opens_slice 0 und44 c5 (by omega) opens5)
theorem und9:Tryz.prog.underlying 9=some .string:=by kernel_rfl
theorem c9:Tryz.prog.cellsOf 9=1:=by kernel_rfl
theorem opens9:Opens Tryz.prog 9 ByteArray 1 (fun x _=>(.v (.string x))) (fun _=>True):=Opens.weak (opens_string und9)
theorem und46:Tryz.prog.underlying 46=some (.struct (fsOf 46)):=by kernel_rfl
theorem c46:Tryz.prog.cellsOf 46=83:=by kernel_rfl
theorem opens46:Opens Tryz.prog 46 T_lapwingref16_State 83 (fun x j=>(D_lapwingref16_State nvS x j)) (fun _=>True):=by
 intro H enc w base sp held fuel cs x h
 obtain ⟨a0,_,h0⟩:=opens_field und46 h 0 (ft:=40) (off:=0) (by kernel_rfl) c40 opens40
 obtain ⟨a1,_,h1⟩:=opens_field und46 h 1 (ft:=40) (off:=25) (by kernel_rfl) c40 opens40
 obtain ⟨a2,_,h2⟩:=opens_field und46 h 2 (ft:=4) (off:=50) (by kernel_rfl) c4 opens4
 obtain ⟨a3,_,h3⟩:=opens_field und46 h 3 (ft:=42) (off:=51) (by kernel_rfl) c42 opens42
 obtain ⟨a4,_,h4⟩:=opens_field und46 h 4 (ft:=43) (off:=52) (by kernel_rfl) c43 opens43
 obtain ⟨a5,_,h5⟩:=opens_field und46 h 5 (ft:=44) (off:=80) (by kernel_rfl) c44 opens44
 obtain ⟨a6,_,h6⟩:=opens_field und46 h 6 (ft:=9) (off:=81) (by kernel_rfl) c9 opens9
 obtain ⟨a7,_,h7⟩:=opens_field und46 h 7 (ft:=3) (off:=82) (by kernel_rfl) c3 opens3
 refine ⟨(cells_len und46 h).trans c46,⟨a0,a1,a2,a3,a4,a5,a6,a7⟩,trivial,fun j hj=>?_⟩
 match j,hj with
 | 0,_=>exact h0 0 (by omega)
 | 1,_=>exact h0 1 (by omega)
 | 2,_=>exact h0 2 (by omega)
 | 3,_=>exact h0 3 (by omega)
 | 4,_=>exact h0 4 (by omega)
 | 5,_=>exact h0 5 (by omega)
 | 6,_=>exact h0 6 (by omega)
 | 7,_=>exact h0 7 (by omega)
 | 8,_=>exact h0 8 (by omega)
 | 9,_=>exact h0 9 (by omega)
 | 10,_=>exact h0 10 (by omega)
 | 11,_=>exact h0 11 (by omega)
 | 12,_=>exact h0 12 (by omega)
 | 13,_=>exact h0 13 (by omega)
 | 14,_=>exact h0 14 (by omega)
 | 15,_=>exact h0 15 (by omega)
 | 16,_=>exact h0 16 (by omega)
 | 17,_=>exact h0 17 (by omega)
 | 18,_=>exact h0 18 (by omega)
 | 19,_=>exact h0 19 (by omega)
 | 20,_=>exact h0 20 (by omega)
 | 21,_=>exact h0 21 (by omega)
 | 22,_=>exact h0 22 (by omega)
 | 23,_=>exact h0 23 (by omega)
 | 24,_=>exact h0 24 (by omega)
 | 25,_=>exact h1 0 (by omega)
 | 26,_=>exact h1 1 (by omega)
 | 27,_=>exact h1 2 (by omega)
 | 28,_=>exact h1 3 (by omega)
 | 29,_=>exact h1 4 (by omega)
 | 30,_=>exact h1 5 (by omega)
 | 31,_=>exact h1 6 (by omega)
 | 32,_=>exact h1 7 (by omega)
 | 33,_=>exact h1 8 (by omega)
 | 34,_=>exact h1 9 (by omega)
 | 35,_=>exact h1 10 (by omega)
 | 36,_=>exact h1 11 (by omega)
 | 37,_=>exact h1 12 (by omega)
 | 38,_=>exact h1 13 (by omega)
 | 39,_=>exact h1 14 (by omega)
 | 40,_=>exact h1 15 (by omega)
 | 41,_=>exact h1 16 (by omega)
 | 42,_=>exact h1 17 (by omega)
 | 43,_=>exact h1 18 (by omega)
 | 44,_=>exact h1 19 (by omega)
 | 45,_=>exact h1 20 (by omega)
 | 46,_=>exact h1 21 (by omega)
 | 47,_=>exact h1 22 (by omega)
 | 48,_=>exact h1 23 (by omega)
 | 49,_=>exact h1 24 (by omega)
 | 50,_=>exact h2 0 (by omega)
 | 51,_=>exact h3 0 (by omega)
 | 52,_=>exact h4 0 (by omega)
 | 53,_=>exact h4 1 (by omega)
 | 54,_=>exact h4 2 (by omega)
 | 55,_=>exact h4 3 (by omega)
 | 56,_=>exact h4 4 (by omega)
 | 57,_=>exact h4 5 (by omega)
 | 58,_=>exact h4 6 (by omega)
 | 59,_=>exact h4 7 (by omega)
 | 60,_=>exact h4 8 (by omega)
 | 61,_=>exact h4 9 (by omega)
 | 62,_=>exact h4 10 (by omega)
 | 63,_=>exact h4 11 (by omega)
 | 64,_=>exact h4 12 (by omega)
 | 65,_=>exact h4 13 (by omega)
 | 66,_=>exact h4 14 (by omega)
 | 67,_=>exact h4 15 (by omega)
 | 68,_=>exact h4 16 (by omega)
 | 69,_=>exact h4 17 (by omega)
 | 70,_=>exact h4 18 (by omega)
 | 71,_=>exact h4 19 (by omega)
 | 72,_=>exact h4 20 (by omega)
 | 73,_=>exact h4 21 (by omega)
 | 74,_=>exact h4 22 (by omega)
 | 75,_=>exact h4 23 (by omega)
 | 76,_=>exact h4 24 (by omega)
 | 77,_=>exact h4 25 (by omega)
 | 78,_=>exact h4 26 (by omega)
 | 79,_=>exact h4 27 (by omega)
 | 80,_=>exact h5 0 (by omega)
 | 81,_=>exact h6 0 (by omega)
 | 82,_=>exact h7 0 (by omega)
 | j+83,hj=>exact absurd hj (by omega)
theorem und47:Tryz.prog.underlying 47=some (.slice 34):=by kernel_rfl
theorem c47:Tryz.prog.cellsOf 47=1:=by kernel_rfl
theorem opens47:Opens Tryz.prog 47 (List (List Int)) 1 (fun x _=>(.sl 1 (nvS.len x) false (fun ix jx=>(.sl 1 (nvS.len (nvS.get [] x ix)) false (fun ix1 jx1=>(.v (.int .i64 (nvS.get 0 (nvS.get [] x ix) ix1)))))))) (fun _=>True):=Opens.weak (opens_slice [] und47 c34 (by omega) opens34)
theorem und49:Tryz.prog.underlying 49=some (.struct (fsOf 49)):=by kernel_rfl
theorem c49:Tryz.prog.cellsOf 49=6:=by kernel_rfl
theorem opens49:Opens Tryz.prog 49 T_api_Action 6 (fun x j=>(D_api_Action nvS x j)) (fun _=>True):=by
 intro H enc w base sp held fuel cs x h
 obtain ⟨a0,_,h0⟩:=opens_field und49 h 0 (ft:=3) (off:=0) (by kernel_rfl) c3 opens3
 obtain ⟨a1,_,h1⟩:=opens_field und49 h 1 (ft:=3) (off:=1) (by kernel_rfl) c3 opens3
 obtain ⟨a2,_,h2⟩:=opens_field und49 h 2 (ft:=5) (off:=2) (by kernel_rfl) c5 opens5
 obtain ⟨a3,_,h3⟩:=opens_field und49 h 3 (ft:=9) (off:=3) (by kernel_rfl) c9 opens9
 obtain ⟨a4,_,h4⟩:=opens_field und49 h 4 (ft:=47) (off:=4) (by kernel_rfl) c47 opens47
 obtain ⟨a5,_,h5⟩:=opens_field und49 h 5 (ft:=9) (off:=5) (by kernel_rfl) c9 opens9
 refine ⟨(cells_len und49 h).trans c49,⟨a0,a1,a2,a3,a4,a5⟩,trivial,fun j hj=>?_⟩
 match j,hj with
 | 0,_=>exact h0 0 (by omega)
 | 1,_=>exact h1 0 (by omega)
 | 2,_=>exact h2 0 (by omega)
 | 3,_=>exact h3 0 (by omega)
 | 4,_=>exact h4 0 (by omega)
 | 5,_=>exact h5 0 (by omega)
 | j+6,hj=>exact absurd hj (by omega)
theorem und53:Tryz.prog.underlying 53=some (.slice 49):=by kernel_rfl
theorem opens53:Opens Tryz.prog 53 (List T_api_Action) 1 (fun x _=>(.sl 6 (nvS.len x) false (fun ix jx=>(D_api_Action nvS (nvS.get d_api_Action x ix) jx)))) (fun _=>True):=Opens.weak (opens_slice d_api_Action und53 c49 (by omega) opens49)
abbrev laidL:List (String × DataW Unit):=Rows.interpUnknownRow.laid
theorem laid_plain (w:World):laidMetH Tryz.prog laidL w=laidMet Tryz.prog laidL w:=MakeChecks.laidMetH_plain _ _ _ (by kernel_rfl)
theorem laidVars_at {P:Program} {w:World} : ∀ {laid:List (String × DataW Unit)} {ps:List MemPlace},DataW.LaidVars P w laid ps→∀ x∈laid,
  ∃ g t cs fuel p,P.globalNamed x.1=some g∧(P.globals[g]?).map (·.type)=some t∧w.var? P x.1=some cs∧DataW.trod (fun _=>()) P w 0 (fun _=>true) false fuel t cs.toList=some (x.2,p)
 | [],_,_,x,hx=>by cases hx
 | (n,d) :: r,ps,h,x,hx=>by
  obtain ⟨g,t,cs,fuel,p,q,h1,h2,h3,h4,h5,_⟩:=h
  rcases List.mem_cons.1 hx with rfl | hx
  · exact ⟨g,t,cs,fuel,p,h1,h2,h3,h4⟩
  · exact laidVars_at h5 x hx
theorem und243:Tryz.prog.underlying 243=some (.struct (fsOf 243)):=by kernel_rfl
theorem und244:Tryz.prog.underlying 244=some (.array 24 243):=by kernel_rfl
theorem c243:Tryz.prog.cellsOf 243=2:=by kernel_rfl
theorem row_of {w:World} {base:Nat} {sp:Nat→Bool} {held:Bool} {fuel:Nat} {c2:List Value} {b:Bool} {n:Int} {p:List MemPlace} (h:DataW.trod (fun _=>()) Tryz.prog w base sp held fuel 243 c2=some (.agg [.lit (.bool b),.lit (.int .i64 n)],p)):c2[0]? = some (.bool b)∧c2[1]? = some (.int .i64 n):=by
 obtain ⟨xs,m,_,hx,_,hlen,hel⟩:=DataW.trod_struct und243 h
 have hf0:((fsOf 243)[0]?).map (fun f=>(f.type,f.offset))=some (4,0):=by kernel_rfl
 have hf1:((fsOf 243)[1]?).map (fun f=>(f.type,f.offset))=some (3,1):=by kernel_rfl
 obtain ⟨f0,g0,e0⟩:=Option.map_eq_some_iff.1 hf0
 obtain ⟨f1,g1,e1⟩:=Option.map_eq_some_iff.1 hf1
 have h0:=hel 0 f0 g0
 have h1:=hel 1 f1 g1
 simp only [Prod.mk.injEq] at e0 e1
 rw [e0.1,e0.2,c4] at h0
 rw [e1.1,e1.2,c3] at h1
 simp only [Prod.mk.injEq,DataW.agg.injEq] at hx
 match xs,hx.1 with
 | [x0,x1],hx =>
  simp only [List.map_cons,List.map_nil,List.cons.injEq] at hx
  obtain ⟨b',q1,q2⟩:=DataW.trod_bool und4 (by rw [h0];rfl)
  obtain ⟨n',r1,r2,_⟩:=DataW.trod_int und3 (by rw [h1];rfl)
  rw [q2] at hx
  rw [r2] at hx
  obtain ⟨u1,u2,_⟩:=hx
  cases u1
  cases u2
  constructor
  · have:=congrArg (fun l=>l[0]?) q1
    simpa using this
  · have:=congrArg (fun l=>l[0]?) r1
    simpa [List.getElem?_take,List.getElem?_drop] using this
def modeL:List (Bool × Int):=(List.range 24).map fun i=>(match (gCells 2).bind (fun x=>some (x.2 (2*i))) with
 | some (.bool b)=>b
 | _=>false,match (gCells 2).bind (fun x=>some (x.2 (2*i+1))) with
 | some (.int _ n)=>n
 | _=>0)
theorem modes_is:Rows.laid_lapwing_modes_table=(DataW.agg (modeL.map fun x=>DataW.agg [.lit (.bool x.1),.lit (.int .i64 x.2)]):DataW Unit):=by kernel_rfl
def modeCell (k:Nat):Value:=if k % 2=0 then .bool (modeL.getD (k / 2) (false,0)).1 else .int .i64 (modeL.getD (k / 2) (false,0)).2
theorem cells_is : ∀ k,k < 48→∀ n f,gCells 2=some (n,f)→n=48∧f k=modeCell k∧(f k).oneCell'=true∧cellD (f k) = .v (f k):=by
 intro k hk n f h
 obtain ⟨rfl,rfl⟩:n=48∧f=((gCells 2).get (by kernel_rfl)).2:=by
  have e:gCells 2=some (48,((gCells 2).get (by kernel_rfl)).2):=by kernel_rfl
  rw [e] at h;cases h;exact ⟨rfl,rfl⟩
 refine ⟨rfl,?_⟩
 have hall : ∀ k,k < 48→((gCells 2).get (by kernel_rfl)).2 k=modeCell k∧(((gCells 2).get (by kernel_rfl)).2 k).oneCell'=true∧cellD (((gCells 2).get (by kernel_rfl)).2 k) = .v (((gCells 2).get (by kernel_rfl)).2 k):=by
  repeat' first | exact agg0 | refine aggS ?_ ?_
  all_goals exact ⟨by kernel_rfl,by kernel_rfl,by kernel_rfl⟩
 exact hall k hk
theorem modes_cells {w:World} {base:Nat} {sp:Nat→Bool} {held:Bool} {fuel:Nat} {cs:List Value} {p:List MemPlace} (h:DataW.trod (fun _=>()) Tryz.prog w base sp held fuel 244 cs=some (Rows.laid_lapwing_modes_table,p)) : ∀ k,k < 48→cs[k]? = some (modeCell k):=by
 rw [modes_is] at h
 obtain ⟨xs,m,_,hx,_,hlen,hel⟩:=DataW.trod_array und244 h
 simp only [Prod.mk.injEq,DataW.agg.injEq] at hx
 intro k hk
 have hi:k / 2 < 24:=by omega
 have h1:=hel (k / 2) hi
 have hml:modeL.length=24:=by kernel_rfl
 have hx1:(xs[k / 2]?).map (·.1)=some (DataW.agg [.lit (.bool (modeL.getD (k / 2) (false,0)).1),.lit (.int .i64 (modeL.getD (k / 2) (false,0)).2)]):=by
  rw [← List.getElem?_map,← hx.1,List.getElem?_map,List.getD_eq_getElem?_getD,List.getElem?_eq_getElem (by omega)]
  rfl
 obtain ⟨y,y1,y2⟩:=Option.map_eq_some_iff.1 hx1
 obtain ⟨y0,yp⟩:=y
 simp only at y2
 subst y2
 rw [y1,c243] at h1
 obtain ⟨z0,z1⟩:=row_of h1
 rw [List.getElem?_take,if_pos (by omega),List.getElem?_drop] at z0 z1
 unfold modeCell
 split
 · have:k=k / 2*2+0:=by omega
   rw [this];rw [show (k / 2*2+0) / 2=k / 2 by omega];exact z0
 · have:k=k / 2*2+1:=by omega
   rw [this];rw [show (k / 2*2+1) / 2=k / 2 by omega];exact z1
def tabZ (g n:Nat):List Int:=(List.range n).map fun i=>gtabS g (i:Nat)
theorem tab_ok {W:World} {nm:String} {g' g t n:Nat} {k:IntKind} {e:TypeId} {cs:Array Value} {base:Nat} {sp:Nat→Bool} {held:Bool} {fuel:Nat} {dt:DataW Unit} {p:List MemPlace} (hg:Tryz.prog.globalNamed nm=some g) (hg':Tryz.prog.globalNamed nm=some g')
  (ht:(Tryz.prog.globals[g]?).map (·.type)=some t) (hv:W.var? Tryz.prog nm=some cs) (hd:DataW.trod (fun _=>()) Tryz.prog W base sp held fuel t cs.toList=some (dt,p)) (hdt:dt=Go.Lib.tabData k (tabZ g' n)) (hn:0 < n)
  (ty : ∃ t',(Tryz.prog.globals[g']?).map (·.type)=some t'∧Tryz.prog.underlying t'=some (.array n e)∧Tryz.prog.underlying e=some (.int k)∧Tryz.prog.cellsOf e=1∧Tryz.prog.cellsOf t'=n) :
  0 < n∧g' < W.heap.size∧∃ c e fr,W.heap[g']? = some (.cells c e fr)∧∀ i:Nat,i < n→c[i]? = some (.int k (gtabS g' i)):=by
 obtain rfl:=Option.some.inj (hg'.symm.trans hg)
 obtain ⟨t',ht',ha⟩:=ty
 obtain rfl:=Option.some.inj (ht'.symm.trans ht)
 subst hdt
 have e1:=Go.Lib.cells_of_tab ha.1 ha.2.1 ha.2.2.1 ha.2.2.2 hd
 simp only [World.var?,hg,Option.bind_some] at hv
 split at hv
 · rename_i c e' fr hc
   cases hv
   refine ⟨hn,Array.getElem?_eq_some_iff.1 hc |>.1,cs,e',fr,hc,fun i hi=>?_⟩
   have:cs.toList[i]? = some (.int k (gtabS g' i)):=by
    rw [e1]
    simp [tabZ,hi]
   simpa using this
 · cases hv
theorem glob_of {W:World} (h:laidMetH Tryz.prog laidL W):GlobOk W.heap (fun b=>b < W.heap.size):=by
 rw [laid_plain] at h
 obtain ⟨ps,hl,_⟩:=h
 refine ⟨fun g' n k hk=>?_,fun g' n f hk=>?_⟩
 · unfold gKind at hk
   split at hk
   · rename_i h0
     obtain ⟨rfl⟩:(0:Nat)=g':=(Nat.eq_of_beq_eq_true h0).symm
     cases hk
     obtain ⟨g,t,cs,fuel,p,hg,ht,hv,hd⟩:=laidVars_at hl ("strings.asciiSpace",Rows.laid_strings_asciiSpace) (by
      show _∈[_,_,_,_,_,_,_,_,_,_,_,_,_]
      exact .tail _ (.tail _ (.tail _ (.tail _ (.tail _ (.tail _ (.tail _ (.tail _ (.tail _ (.tail _ (.tail _ (.head _))))))))))))
     exact tab_ok (e:=5) hg (by kernel_rfl) ht hv hd (by kernel_rfl) (by decide) ⟨_,rfl,by kernel_rfl,by kernel_rfl,by kernel_rfl,by kernel_rfl⟩
   · split at hk
     · rename_i h0
       obtain ⟨rfl⟩:(1:Nat)=g':=(Nat.eq_of_beq_eq_true h0).symm
       cases hk
       obtain ⟨g,t,cs,fuel,p,hg,ht,hv,hd⟩:=laidVars_at hl ("lapwing/charset.graphics",Rows.laid_lapwing_charset_graphics) (by
        show _∈[_,_,_,_,_,_,_,_,_,_,_,_,_]
        exact .head _)
       exact tab_ok (e:=3) hg (by kernel_rfl) ht hv hd (by kernel_rfl) (by decide) ⟨_,rfl,by kernel_rfl,by kernel_rfl,by kernel_rfl,by kernel_rfl⟩
     · split at hk
       · rename_i h0
         obtain ⟨rfl⟩:(5:Nat)=g':=(Nat.eq_of_beq_eq_true h0).symm
         cases hk
         obtain ⟨g,t,cs,fuel,p,hg,ht,hv,hd⟩:=laidVars_at hl ("lapwing/pen.switched",Rows.laid_lapwing_pen_switched) (by
          show _∈[_,_,_,_,_,_,_,_,_,_,_,_,_]
          exact .tail _ (.tail _ (.tail _ (.tail _ (.tail _ (.tail _ (.tail _ (.tail _ (.head _)))))))))
         exact tab_ok (e:=3) hg (by kernel_rfl) ht hv hd (by kernel_rfl) (by decide) ⟨_,rfl,by kernel_rfl,by kernel_rfl,by kernel_rfl,by kernel_rfl⟩
       · split at hk
         · rename_i h0
           obtain ⟨rfl⟩:(6:Nat)=g':=(Nat.eq_of_beq_eq_true h0).symm
           cases hk
           obtain ⟨g,t,cs,fuel,p,hg,ht,hv,hd⟩:=laidVars_at hl ("lapwing/pen.unswitched",Rows.laid_lapwing_pen_unswitched) (by
            show _∈[_,_,_,_,_,_,_,_,_,_,_,_,_]
            exact .tail _ (.tail _ (.tail _ (.tail _ (.tail _ (.tail _ (.tail _ (.tail _ (.tail _ (.head _))))))))))
           exact tab_ok (e:=3) hg (by kernel_rfl) ht hv hd (by kernel_rfl) (by decide) ⟨_,rfl,by kernel_rfl,by kernel_rfl,by kernel_rfl,by kernel_rfl⟩
         · cases hk
 · obtain ⟨g,t,cs,fuel,p,hg,ht,hv,hd⟩:=laidVars_at hl ("lapwing/modes.table",Rows.laid_lapwing_modes_table) (by
    show _∈[_,_,_,_,_,_,_,_,_,_,_,_,_]
    exact .tail _ (.head _))
   obtain rfl:=Option.some.inj ((show Tryz.prog.globalNamed "lapwing/modes.table" = some 2 by kernel_rfl).symm.trans hg)
   have ht':(Tryz.prog.globals[2]?).map (·.type)=some 244:=by kernel_rfl
   obtain rfl:=Option.some.inj (ht'.symm.trans ht)
   have e:=modes_cells hd
   have hg2:g'=2:=by
    unfold gCells at hk
    split at hk
    · rename_i h0
      exact Nat.eq_of_beq_eq_true h0
    · cases hk
   subst hg2
   obtain ⟨rfl,_⟩:=cells_is 0 (by omega) n f hk
   simp only [World.var?,hg,Option.bind_some] at hv
   split at hv
   · rename_i c e' fr hc
     cases hv
     refine ⟨by decide,Array.getElem?_eq_some_iff.1 hc |>.1,fun j hj=>((cells_is j hj _ f hk).2).2,cs,e',fr,hc,fun i hi=>?_⟩
     have h1:=e i hi
     rw [← ((cells_is i hi _ f hk).2).1] at h1
     simpa using h1
   · cases hv
theorem wit_shaped (os:Os):(World.laidAll Tryz.prog os laidL).Shaped Tryz.prog:=World.shaped_of_ZipB (by kernel_rfl) (by kernel_rfl)
theorem wit_met (os:Os) (args:Array Value):laidMetH Tryz.prog laidL ((World.laidAll Tryz.prog os laidL).forCall (fun _ _=>0) ⟨#[],args,[]⟩).memory:=by
 rw [laid_plain];exact laidMet_laidAll _ (by kernel_rfl) (by kernel_rfl)
end Go.Proofs.YtmkigppfdmghnaaGreatDoor
