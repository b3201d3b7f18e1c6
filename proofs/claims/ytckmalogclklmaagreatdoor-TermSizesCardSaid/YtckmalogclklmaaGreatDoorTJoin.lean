/- What the joins of this seat share: the listed variables' condition gives the one table that the walks read; the witness meets it. -/
import Derived.Test.YtckmalogclklmaaGreatDoorVxOpen
import Derived.Test.YtckmalogclklmaaGreatDoorTHead
import Derived.Test.YtckmalogclklmaaGreatDoorRows
import Derived.LaidByTextLater
import Derived.SevenTiedAt
import Derived.ProofKit
import Derived.OpenShut
import Derived.LaidMore
import Derived.Lay
import Derived.Stop.Joined
import Derived.Lib.LaidTab
set_option linter.all false
namespace Go.Proofs.YtckmalogclklmaaGreatDoor
open Go Go.Vx Go.ChangeShapes Go.WideShapes Go.ChangeAt Go.RowKit
set_option maxRecDepth 100000
theorem Tryz.own:ownKnob Tryz.prog.godebug=none:=by kernel_rfl
theorem Tryz.laidOut:laidOutB Tryz.prog=true:=by kernel_rfl
noncomputable def tQ (t:TypeId):Array Field:=match Tryz.prog.underlying t with | some (.struct fs)=>fs | _=>#[]
theorem Opens.weak {P:Program} {t:TypeId} {T:Type} {sz:Nat} {rd:T→Nat→D} {wf:T→Prop} (h:Opens P t T sz rd wf):Opens P t T sz rd (fun _=>True):=by
 intro H enc w base sp held fuel cs x hh
 obtain ⟨a,y,_,c⟩:=h hh
 exact ⟨a,y,trivial,c⟩
theorem bA {P:Program} {t:TypeId} {fs:Array Field} (ht:P.underlying t=some (.struct fs)) {H:Type} {enc:TypeId × Value→H} {w:World} {base:Nat} {sp:Nat→Bool} {held:Bool} {fuel:Nat} {cs:List Value} {x:DataW H × List MemPlace}
  (h:DataW.trod enc P w base sp held fuel t cs=some x) (i:Nat) {ft off:Nat} (hf:(fs[i]?).map (fun f=>(f.type,f.offset))=some (ft,off)) {T:Type} {sz:Nat} {rd:T→Nat→D} {wf:T→Prop} (hc:P.cellsOf ft=sz) (ho:Opens P ft T sz rd wf) :
  ∃ y:T,wf y∧∀ j,j < sz→∃ z,cs[off+j]? = some z∧z.oneCell'=true∧Rd w.heap (fun b=>b < w.heap.size) (fun _=>none) [] 1 (rd y j) z:=by
 obtain ⟨f,hfi,he⟩:=Option.map_eq_some_iff.1 hf
 cases he
 obtain ⟨xs,n,_,_,_,hlen,hel⟩:=DataW.trod_struct ht h
 have h1:=hel i f hfi
 have hi:i < xs.length:=by rw [hlen];exact (Array.getElem?_eq_some_iff.1 hfi).1
 rw [List.getElem?_eq_getElem hi] at h1
 obtain ⟨_,y,h2,h3⟩:=ho h1
 refine ⟨y,h2,fun j hj=>?_⟩
 obtain ⟨z,z1,z2⟩:=h3 j hj
 refine ⟨z,?_,z2⟩
 rw [hc,List.getElem?_take,if_pos hj,List.getElem?_drop] at z1
 exact z1
theorem jJ {P:Program} {t:TypeId} {fs:Array Field} (ht:P.underlying t=some (.struct fs)) {H:Type} {enc:TypeId × Value→H} {w:World} {base:Nat} {sp:Nat→Bool} {held:Bool} {fuel:Nat} {cs:List Value} {x:DataW H × List MemPlace}
  (h:DataW.trod enc P w base sp held fuel t cs=some x):cs.length=P.cellsOf t:=by
 obtain ⟨_,_,_,_,hl,_,_⟩:=DataW.trod_struct ht h
 exact hl
theorem acC:Tryz.prog.underlying 3=some (.int .i64):=by kernel_rfl
theorem c3:Tryz.prog.cellsOf 3=1:=by kernel_rfl
theorem jk:Opens Tryz.prog 3 Int 1 (fun x _=>(.v (.int .i64 x))) (fun _=>True):=Opens.weak (X6 acC)
theorem afu:Tryz.prog.underlying 4=some .bool:=by kernel_rfl
theorem c4:Tryz.prog.cellsOf 4=1:=by kernel_rfl
theorem DI:Opens Tryz.prog 4 Bool 1 (fun x _=>(.v (.bool x))) (fun _=>True):=Opens.weak (acD afu)
theorem aor:Tryz.prog.underlying 5=some (.int .u8):=by kernel_rfl
theorem c5:Tryz.prog.cellsOf 5=1:=by kernel_rfl
theorem Zm:Opens Tryz.prog 5 Int 1 (fun x _=>(.v (.int .u8 x))) (fun _=>True):=Opens.weak (X6 aor)
theorem amd:Tryz.prog.underlying 22=some (.slice 5):=by kernel_rfl
theorem c22:Tryz.prog.cellsOf 22=1:=by kernel_rfl
theorem abA:Opens Tryz.prog 22 (List Int) 1 (fun x _=>(.sl 1 (aj.len x) false (fun ix jx=>(.v (.int .u8 (aj.get 0 x ix)))))) (fun _=>True):=Opens.weak (xV 0 amd c5 (by omega) Zm)
theorem agR:Tryz.prog.underlying 24=some (.struct (tQ 24)):=by kernel_rfl
theorem c24:Tryz.prog.cellsOf 24=1:=by kernel_rfl
theorem ahN:Opens Tryz.prog 24 jr 1 (fun x j=>(tC aj x j)) (fun _=>True):=by
 intro H enc w base sp held fuel cs x h
 obtain ⟨a0,_,h0⟩:=bA agR h 0 (ft:=22) (off:=0) (by kernel_rfl) c22 abA
 refine ⟨(jJ agR h).trans c24,⟨a0⟩,trivial,fun j hj=>?_⟩
 match j,hj with
 | 0,_=>exact h0 0 (by omega)
 | j+1,hj=>exact absurd hj (by omega)
theorem aos:Tryz.prog.underlying 9=some .string:=by kernel_rfl
theorem c9:Tryz.prog.cellsOf 9=1:=by kernel_rfl
theorem Zn:Opens Tryz.prog 9 ByteArray 1 (fun x _=>(.v (.string x))) (fun _=>True):=Opens.weak (Zo aos)
theorem ame:Tryz.prog.underlying 42=some (.slice 3):=by kernel_rfl
theorem c42:Tryz.prog.cellsOf 42=1:=by kernel_rfl
theorem abB:Opens Tryz.prog 42 (List Int) 1 (fun x _=>(.sl 1 (aj.len x) false (fun ix jx=>(.v (.int .i64 (aj.get 0 x ix)))))) (fun _=>True):=Opens.weak (xV 0 ame c3 (by omega) jk)
theorem amf:Tryz.prog.underlying 25=some (.slice 42):=by kernel_rfl
theorem c25:Tryz.prog.cellsOf 25=1:=by kernel_rfl
theorem ahO:Opens Tryz.prog 25 (List (List Int)) 1 (fun x _=>(.sl 1 (aj.len x) false (fun ix jx=>(.sl 1 (aj.len (aj.get [] x ix)) false (fun kL xL=>(.v (.int .i64 (aj.get 0 (aj.get [] x ix) kL)))))))) (fun _=>True):=Opens.weak (xV [] amf c42 (by omega) abB)
theorem acE:Tryz.prog.underlying 27=some (.struct (tQ 27)):=by kernel_rfl
theorem c27:Tryz.prog.cellsOf 27=2:=by kernel_rfl
theorem ahP:Opens Tryz.prog 27 jL 2 (fun x j=>(uU aj x j)) (fun _=>True):=by
 intro H enc w base sp held fuel cs x h
 obtain ⟨a0,_,h0⟩:=bA acE h 0 (ft:=25) (off:=0) (by kernel_rfl) c25 ahO
 obtain ⟨a1,_,h1⟩:=bA acE h 1 (ft:=4) (off:=1) (by kernel_rfl) c4 DI
 refine ⟨(jJ acE h).trans c27,⟨a0,a1⟩,trivial,fun j hj=>?_⟩
 match j,hj with
 | 0,_=>exact h0 0 (by omega)
 | 1,_=>exact h1 0 (by omega)
 | j+2,hj=>exact absurd hj (by omega)
theorem Lx:Tryz.prog.underlying 29=some (.struct (tQ 29)):=by kernel_rfl
theorem c29:Tryz.prog.cellsOf 29=7:=by kernel_rfl
theorem ahQ:Opens Tryz.prog 29 gF 7 (fun x j=>(oC aj x j)) (fun _=>True):=by
 intro H enc w base sp held fuel cs x h
 obtain ⟨a0,_,h0⟩:=bA Lx h 0 (ft:=3) (off:=0) (by kernel_rfl) c3 jk
 obtain ⟨a1,_,h1⟩:=bA Lx h 1 (ft:=9) (off:=1) (by kernel_rfl) c9 Zn
 obtain ⟨a2,_,h2⟩:=bA Lx h 2 (ft:=4) (off:=2) (by kernel_rfl) c4 DI
 obtain ⟨a3,_,h3⟩:=bA Lx h 3 (ft:=27) (off:=3) (by kernel_rfl) c27 ahP
 obtain ⟨a4,_,h4⟩:=bA Lx h 4 (ft:=9) (off:=5) (by kernel_rfl) c9 Zn
 obtain ⟨a5,_,h5⟩:=bA Lx h 5 (ft:=5) (off:=6) (by kernel_rfl) c5 Zm
 refine ⟨(jJ Lx h).trans c29,⟨a0,a1,a2,a3,a4,a5⟩,trivial,fun j hj=>?_⟩
 match j,hj with
 | 0,_=>exact h0 0 (by omega)
 | 1,_=>exact h1 0 (by omega)
 | 2,_=>exact h2 0 (by omega)
 | 3,_=>exact h3 0 (by omega)
 | 4,_=>exact h3 1 (by omega)
 | 5,_=>exact h4 0 (by omega)
 | 6,_=>exact h5 0 (by omega)
 | j+7,hj=>exact absurd hj (by omega)
theorem aiK:Tryz.prog.underlying 299=some (.array 2 3):=by kernel_rfl
theorem aiL:Tryz.prog.cellsOf 299=2:=by kernel_rfl
theorem afv:Opens Tryz.prog 299 iV 2 (fun x j=>(wK aj x j)) (fun _=>True):=by
 intro H enc w base sp held fuel cs x h
 obtain ⟨xs,m,_,_,hl,hlen,hel⟩:=DataW.trod_array aiK h
 have one : ∀ i,i < 2→∃ y:Int,∀ j,j < 1→∃ z,cs[i*1+j]? = some z∧z.oneCell'=true∧Rd w.heap (fun b=>b < w.heap.size) (fun _=>none) [] 1 ((fun x _=>(.v (.int .i64 x))) y j) z:=by
  intro i hi
  have h1:=hel i hi
  rw [List.getElem?_eq_getElem (by rw [hlen];exact hi),c3] at h1
  obtain ⟨_,y,_,h3⟩:=jk h1
  refine ⟨y,fun j hj=>?_⟩
  obtain ⟨z,z1,z2⟩:=h3 j hj
  refine ⟨z,?_,z2⟩
  rw [List.getElem?_take,if_pos hj,List.getElem?_drop] at z1
  first | exact z1 | simpa using z1
 obtain ⟨a0,h0⟩:=one 0 (by omega)
 obtain ⟨a1,h1⟩:=one 1 (by omega)
 refine ⟨hl.trans aiL,⟨a0,a1⟩,trivial,fun j hj=>?_⟩
 match j,hj with
 | 0,_=>exact h0 0 (by omega)
 | 1,_=>exact h1 0 (by omega)
 | j+2,hj=>exact absurd hj (by omega)
theorem YZ:Tryz.prog.underlying 34=some (.struct (tQ 34)):=by kernel_rfl
theorem c34:Tryz.prog.cellsOf 34=3:=by kernel_rfl
theorem abC:Opens Tryz.prog 34 fZ 3 (fun x j=>(Ia aj x j)) (fun _=>True):=by
 intro H enc w base sp held fuel cs x h
 obtain ⟨a0,_,h0⟩:=bA YZ h 0 (ft:=3) (off:=0) (by kernel_rfl) c3 jk
 obtain ⟨a1,_,h1⟩:=bA YZ h 1 (ft:=3) (off:=1) (by kernel_rfl) c3 jk
 obtain ⟨a2,_,h2⟩:=bA YZ h 2 (ft:=3) (off:=2) (by kernel_rfl) c3 jk
 refine ⟨(jJ YZ h).trans c34,⟨a0,a1,a2⟩,trivial,fun j hj=>?_⟩
 match j,hj with
 | 0,_=>exact h0 0 (by omega)
 | 1,_=>exact h1 0 (by omega)
 | 2,_=>exact h2 0 (by omega)
 | j+3,hj=>exact absurd hj (by omega)
theorem OA:Tryz.prog.underlying 301=some (.struct (tQ 301)):=by kernel_rfl
theorem aiM:Tryz.prog.cellsOf 301=7:=by kernel_rfl
theorem afw:Opens Tryz.prog 301 aV 7 (fun x j=>(dM aj x j)) (fun _=>True):=by
 intro H enc w base sp held fuel cs x h
 obtain ⟨a0,_,h0⟩:=bA OA h 0 (ft:=3) (off:=0) (by kernel_rfl) c3 jk
 obtain ⟨a1,_,h1⟩:=bA OA h 1 (ft:=299) (off:=1) (by kernel_rfl) aiL afv
 obtain ⟨a2,_,h2⟩:=bA OA h 2 (ft:=3) (off:=3) (by kernel_rfl) c3 jk
 obtain ⟨a3,_,h3⟩:=bA OA h 3 (ft:=34) (off:=4) (by kernel_rfl) c34 abC
 refine ⟨(jJ OA h).trans aiM,⟨a0,a1,a2,a3⟩,trivial,fun j hj=>?_⟩
 match j,hj with
 | 0,_=>exact h0 0 (by omega)
 | 1,_=>exact h1 0 (by omega)
 | 2,_=>exact h1 1 (by omega)
 | 3,_=>exact h2 0 (by omega)
 | 4,_=>exact h3 0 (by omega)
 | 5,_=>exact h3 1 (by omega)
 | 6,_=>exact h3 2 (by omega)
 | j+7,hj=>exact absurd hj (by omega)
theorem aiN:Tryz.prog.underlying 117=some (.slice 301):=by kernel_rfl
theorem c117:Tryz.prog.cellsOf 117=1:=by kernel_rfl
theorem afx:Opens Tryz.prog 117 (List aV) 1 (fun x _=>(.sl 7 (aj.len x) false (fun ix jx=>(dM aj (aj.get aD x ix) jx)))) (fun _=>True):=Opens.weak (xV aD aiN aiM (by omega) afw)
theorem OB:Tryz.prog.underlying 199=some (.struct (tQ 199)):=by kernel_rfl
theorem aiO:Tryz.prog.cellsOf 199=4:=by kernel_rfl
theorem afy:Opens Tryz.prog 199 aQ 4 (fun x j=>(bU aj x j)) (fun _=>True):=by
 intro H enc w base sp held fuel cs x h
 obtain ⟨a0,_,h0⟩:=bA OB h 0 (ft:=117) (off:=0) (by kernel_rfl) c117 afx
 obtain ⟨a1,_,h1⟩:=bA OB h 1 (ft:=4) (off:=1) (by kernel_rfl) c4 DI
 obtain ⟨a2,_,h2⟩:=bA OB h 2 (ft:=3) (off:=2) (by kernel_rfl) c3 jk
 obtain ⟨a3,_,h3⟩:=bA OB h 3 (ft:=4) (off:=3) (by kernel_rfl) c4 DI
 refine ⟨(jJ OB h).trans aiO,⟨a0,a1,a2,a3⟩,trivial,fun j hj=>?_⟩
 match j,hj with
 | 0,_=>exact h0 0 (by omega)
 | 1,_=>exact h1 0 (by omega)
 | 2,_=>exact h2 0 (by omega)
 | 3,_=>exact h3 0 (by omega)
 | j+4,hj=>exact absurd hj (by omega)
theorem amg:Tryz.prog.underlying 30=some (.slice 199):=by kernel_rfl
theorem c30:Tryz.prog.cellsOf 30=1:=by kernel_rfl
theorem abD:Opens Tryz.prog 30 (List aQ) 1 (fun x _=>(.sl 4 (aj.len x) false (fun ix jx=>(bU aj (aj.get aA x ix) jx)))) (fun _=>True):=Opens.weak (xV aA amg aiO (by omega) afy)
theorem agS:Tryz.prog.underlying 32=some (.struct (tQ 32)):=by kernel_rfl
theorem c32:Tryz.prog.cellsOf 32=1:=by kernel_rfl
theorem ahR:Opens Tryz.prog 32 jK 1 (fun x j=>(uT aj x j)) (fun _=>True):=by
 intro H enc w base sp held fuel cs x h
 obtain ⟨a0,_,h0⟩:=bA agS h 0 (ft:=30) (off:=0) (by kernel_rfl) c30 abD
 refine ⟨(jJ agS h).trans c32,⟨a0⟩,trivial,fun j hj=>?_⟩
 match j,hj with
 | 0,_=>exact h0 0 (by omega)
 | j+1,hj=>exact absurd hj (by omega)
theorem amh:Tryz.prog.underlying 35=some (.array 4 5):=by kernel_rfl
theorem c35:Tryz.prog.cellsOf 35=4:=by kernel_rfl
theorem ahS:Opens Tryz.prog 35 qB 4 (fun x j=>(Ol aj x j)) (fun _=>True):=by
 intro H enc w base sp held fuel cs x h
 obtain ⟨xs,m,_,_,hl,hlen,hel⟩:=DataW.trod_array amh h
 have one : ∀ i,i < 4→∃ y:Int,∀ j,j < 1→∃ z,cs[i*1+j]? = some z∧z.oneCell'=true∧Rd w.heap (fun b=>b < w.heap.size) (fun _=>none) [] 1 ((fun x _=>(.v (.int .u8 x))) y j) z:=by
  intro i hi
  have h1:=hel i hi
  rw [List.getElem?_eq_getElem (by rw [hlen];exact hi),c5] at h1
  obtain ⟨_,y,_,h3⟩:=Zm h1
  refine ⟨y,fun j hj=>?_⟩
  obtain ⟨z,z1,z2⟩:=h3 j hj
  refine ⟨z,?_,z2⟩
  rw [List.getElem?_take,if_pos hj,List.getElem?_drop] at z1
  first | exact z1 | simpa using z1
 obtain ⟨a0,h0⟩:=one 0 (by omega)
 obtain ⟨a1,h1⟩:=one 1 (by omega)
 obtain ⟨a2,h2⟩:=one 2 (by omega)
 obtain ⟨a3,h3⟩:=one 3 (by omega)
 refine ⟨hl.trans c35,⟨a0,a1,a2,a3⟩,trivial,fun j hj=>?_⟩
 match j,hj with
 | 0,_=>exact h0 0 (by omega)
 | 1,_=>exact h1 0 (by omega)
 | 2,_=>exact h2 0 (by omega)
 | 3,_=>exact h3 0 (by omega)
 | j+4,hj=>exact absurd hj (by omega)
theorem Vk:Tryz.prog.underlying 37=some (.struct (tQ 37)):=by kernel_rfl
theorem c37:Tryz.prog.cellsOf 37=7:=by kernel_rfl
theorem ahT:Opens Tryz.prog 37 jo 7 (fun x j=>(tq aj x j)) (fun _=>True):=by
 intro H enc w base sp held fuel cs x h
 obtain ⟨a0,_,h0⟩:=bA Vk h 0 (ft:=35) (off:=0) (by kernel_rfl) c35 ahS
 obtain ⟨a1,_,h1⟩:=bA Vk h 1 (ft:=3) (off:=4) (by kernel_rfl) c3 jk
 obtain ⟨a2,_,h2⟩:=bA Vk h 2 (ft:=3) (off:=5) (by kernel_rfl) c3 jk
 obtain ⟨a3,_,h3⟩:=bA Vk h 3 (ft:=3) (off:=6) (by kernel_rfl) c3 jk
 refine ⟨(jJ Vk h).trans c37,⟨a0,a1,a2,a3⟩,trivial,fun j hj=>?_⟩
 match j,hj with
 | 0,_=>exact h0 0 (by omega)
 | 1,_=>exact h0 1 (by omega)
 | 2,_=>exact h0 2 (by omega)
 | 3,_=>exact h0 3 (by omega)
 | 4,_=>exact h1 0 (by omega)
 | 5,_=>exact h2 0 (by omega)
 | 6,_=>exact h3 0 (by omega)
 | j+7,hj=>exact absurd hj (by omega)
theorem LA:Tryz.prog.underlying 39=some (.struct (tQ 39)):=by kernel_rfl
theorem c39:Tryz.prog.cellsOf 39=14:=by kernel_rfl
theorem abE:Opens Tryz.prog 39 dY 14 (fun x j=>(kZ aj x j)) (fun _=>True):=by
 intro H enc w base sp held fuel cs x h
 obtain ⟨a0,_,h0⟩:=bA LA h 0 (ft:=3) (off:=0) (by kernel_rfl) c3 jk
 obtain ⟨a1,_,h1⟩:=bA LA h 1 (ft:=3) (off:=1) (by kernel_rfl) c3 jk
 obtain ⟨a2,_,h2⟩:=bA LA h 2 (ft:=4) (off:=2) (by kernel_rfl) c4 DI
 obtain ⟨a3,_,h3⟩:=bA LA h 3 (ft:=4) (off:=3) (by kernel_rfl) c4 DI
 obtain ⟨a4,_,h4⟩:=bA LA h 4 (ft:=34) (off:=4) (by kernel_rfl) c34 abC
 obtain ⟨a5,_,h5⟩:=bA LA h 5 (ft:=37) (off:=7) (by kernel_rfl) c37 ahT
 refine ⟨(jJ LA h).trans c39,⟨a0,a1,a2,a3,a4,a5⟩,trivial,fun j hj=>?_⟩
 match j,hj with
 | 0,_=>exact h0 0 (by omega)
 | 1,_=>exact h1 0 (by omega)
 | 2,_=>exact h2 0 (by omega)
 | 3,_=>exact h3 0 (by omega)
 | 4,_=>exact h4 0 (by omega)
 | 5,_=>exact h4 1 (by omega)
 | 6,_=>exact h4 2 (by omega)
 | 7,_=>exact h5 0 (by omega)
 | 8,_=>exact h5 1 (by omega)
 | 9,_=>exact h5 2 (by omega)
 | 10,_=>exact h5 3 (by omega)
 | 11,_=>exact h5 4 (by omega)
 | 12,_=>exact h5 5 (by omega)
 | 13,_=>exact h5 6 (by omega)
 | j+14,hj=>exact absurd hj (by omega)
theorem Vl:Tryz.prog.underlying 41=some (.struct (tQ 41)):=by kernel_rfl
theorem c41:Tryz.prog.cellsOf 41=4:=by kernel_rfl
theorem ahU:Opens Tryz.prog 41 iZ 4 (fun x j=>(rQ aj x j)) (fun _=>True):=by
 intro H enc w base sp held fuel cs x h
 obtain ⟨a0,_,h0⟩:=bA Vl h 0 (ft:=3) (off:=0) (by kernel_rfl) c3 jk
 obtain ⟨a1,_,h1⟩:=bA Vl h 1 (ft:=3) (off:=1) (by kernel_rfl) c3 jk
 obtain ⟨a2,_,h2⟩:=bA Vl h 2 (ft:=3) (off:=2) (by kernel_rfl) c3 jk
 obtain ⟨a3,_,h3⟩:=bA Vl h 3 (ft:=3) (off:=3) (by kernel_rfl) c3 jk
 refine ⟨(jJ Vl h).trans c41,⟨a0,a1,a2,a3⟩,trivial,fun j hj=>?_⟩
 match j,hj with
 | 0,_=>exact h0 0 (by omega)
 | 1,_=>exact h1 0 (by omega)
 | 2,_=>exact h2 0 (by omega)
 | 3,_=>exact h3 0 (by omega)
 | j+4,hj=>exact absurd hj (by omega)
theorem acF:Tryz.prog.underlying 44=some (.struct (tQ 44)):=by kernel_rfl
theorem c44:Tryz.prog.cellsOf 44=2:=by kernel_rfl
theorem ahV:Opens Tryz.prog 44 fQ 2 (fun x j=>(ou aj x j)) (fun _=>True):=by
 intro H enc w base sp held fuel cs x h
 obtain ⟨a0,_,h0⟩:=bA acF h 0 (ft:=42) (off:=0) (by kernel_rfl) c42 abB
 obtain ⟨a1,_,h1⟩:=bA acF h 1 (ft:=3) (off:=1) (by kernel_rfl) c3 jk
 refine ⟨(jJ acF h).trans c44,⟨a0,a1⟩,trivial,fun j hj=>?_⟩
 match j,hj with
 | 0,_=>exact h0 0 (by omega)
 | 1,_=>exact h1 0 (by omega)
 | j+2,hj=>exact absurd hj (by omega)
theorem acG:Tryz.prog.underlying 46=some (.struct (tQ 46)):=by kernel_rfl
theorem c46:Tryz.prog.cellsOf 46=2:=by kernel_rfl
theorem ahW:Opens Tryz.prog 46 gL 2 (fun x j=>(pR aj x j)) (fun _=>True):=by
 intro H enc w base sp held fuel cs x h
 obtain ⟨a0,_,h0⟩:=bA acG h 0 (ft:=30) (off:=0) (by kernel_rfl) c30 abD
 obtain ⟨a1,_,h1⟩:=bA acG h 1 (ft:=3) (off:=1) (by kernel_rfl) c3 jk
 refine ⟨(jJ acG h).trans c46,⟨a0,a1⟩,trivial,fun j hj=>?_⟩
 match j,hj with
 | 0,_=>exact h0 0 (by omega)
 | 1,_=>exact h1 0 (by omega)
 | j+2,hj=>exact absurd hj (by omega)
theorem Io:Tryz.prog.underlying 48=some (.struct (tQ 48)):=by kernel_rfl
theorem c48:Tryz.prog.cellsOf 48=25:=by kernel_rfl
theorem abF:Opens Tryz.prog 48 dP 25 (fun x j=>(nM aj x j)) (fun _=>True):=by
 intro H enc w base sp held fuel cs x h
 obtain ⟨a0,_,h0⟩:=bA Io h 0 (ft:=32) (off:=0) (by kernel_rfl) c32 ahR
 obtain ⟨a1,_,h1⟩:=bA Io h 1 (ft:=39) (off:=1) (by kernel_rfl) c39 abE
 obtain ⟨a2,_,h2⟩:=bA Io h 2 (ft:=41) (off:=15) (by kernel_rfl) c41 ahU
 obtain ⟨a3,_,h3⟩:=bA Io h 3 (ft:=44) (off:=19) (by kernel_rfl) c44 ahV
 obtain ⟨a4,_,h4⟩:=bA Io h 4 (ft:=46) (off:=21) (by kernel_rfl) c46 ahW
 obtain ⟨a5,_,h5⟩:=bA Io h 5 (ft:=3) (off:=23) (by kernel_rfl) c3 jk
 obtain ⟨a6,_,h6⟩:=bA Io h 6 (ft:=4) (off:=24) (by kernel_rfl) c4 DI
 refine ⟨(jJ Io h).trans c48,⟨a0,a1,a2,a3,a4,a5,a6⟩,trivial,fun j hj=>?_⟩
 match j,hj with
 | 0,_=>exact h0 0 (by omega)
 | 1,_=>exact h1 0 (by omega)
 | 2,_=>exact h1 1 (by omega)
 | 3,_=>exact h1 2 (by omega)
 | 4,_=>exact h1 3 (by omega)
 | 5,_=>exact h1 4 (by omega)
 | 6,_=>exact h1 5 (by omega)
 | 7,_=>exact h1 6 (by omega)
 | 8,_=>exact h1 7 (by omega)
 | 9,_=>exact h1 8 (by omega)
 | 10,_=>exact h1 9 (by omega)
 | 11,_=>exact h1 10 (by omega)
 | 12,_=>exact h1 11 (by omega)
 | 13,_=>exact h1 12 (by omega)
 | 14,_=>exact h1 13 (by omega)
 | 15,_=>exact h2 0 (by omega)
 | 16,_=>exact h2 1 (by omega)
 | 17,_=>exact h2 2 (by omega)
 | 18,_=>exact h2 3 (by omega)
 | 19,_=>exact h3 0 (by omega)
 | 20,_=>exact h3 1 (by omega)
 | 21,_=>exact h4 0 (by omega)
 | 22,_=>exact h4 1 (by omega)
 | 23,_=>exact h5 0 (by omega)
 | 24,_=>exact h6 0 (by omega)
 | j+25,hj=>exact absurd hj (by omega)
theorem agT:Tryz.prog.underlying 50=some (.struct (tQ 50)):=by kernel_rfl
theorem c50:Tryz.prog.cellsOf 50=1:=by kernel_rfl
theorem ahX:Opens Tryz.prog 50 jq 1 (fun x j=>(tu aj x j)) (fun _=>True):=by
 intro H enc w base sp held fuel cs x h
 obtain ⟨a0,_,h0⟩:=bA agT h 0 (ft:=3) (off:=0) (by kernel_rfl) c3 jk
 refine ⟨(jJ agT h).trans c50,⟨a0⟩,trivial,fun j hj=>?_⟩
 match j,hj with
 | 0,_=>exact h0 0 (by omega)
 | j+1,hj=>exact absurd hj (by omega)
theorem ami:Tryz.prog.underlying 51=some (.array 2 39):=by kernel_rfl
theorem c51:Tryz.prog.cellsOf 51=28:=by kernel_rfl
theorem ahY:Opens Tryz.prog 51 gV 28 (fun x j=>(nU aj x j)) (fun _=>True):=by
 intro H enc w base sp held fuel cs x h
 obtain ⟨xs,m,_,_,hl,hlen,hel⟩:=DataW.trod_array ami h
 have one : ∀ i,i < 2→∃ y:dY,∀ j,j < 14→∃ z,cs[i*14+j]? = some z∧z.oneCell'=true∧Rd w.heap (fun b=>b < w.heap.size) (fun _=>none) [] 1 ((fun x j=>(kZ aj x j)) y j) z:=by
  intro i hi
  have h1:=hel i hi
  rw [List.getElem?_eq_getElem (by rw [hlen];exact hi),c39] at h1
  obtain ⟨_,y,_,h3⟩:=abE h1
  refine ⟨y,fun j hj=>?_⟩
  obtain ⟨z,z1,z2⟩:=h3 j hj
  refine ⟨z,?_,z2⟩
  rw [List.getElem?_take,if_pos hj,List.getElem?_drop] at z1
  first | exact z1 | simpa using z1
 obtain ⟨a0,h0⟩:=one 0 (by omega)
 obtain ⟨a1,h1⟩:=one 1 (by omega)
 refine ⟨hl.trans c51,⟨a0,a1⟩,trivial,fun j hj=>?_⟩
 match j,hj with
 | 0,_=>exact h0 0 (by omega)
 | 1,_=>exact h0 1 (by omega)
 | 2,_=>exact h0 2 (by omega)
 | 3,_=>exact h0 3 (by omega)
 | 4,_=>exact h0 4 (by omega)
 | 5,_=>exact h0 5 (by omega)
 | 6,_=>exact h0 6 (by omega)
 | 7,_=>exact h0 7 (by omega)
 | 8,_=>exact h0 8 (by omega)
 | 9,_=>exact h0 9 (by omega)
 | 10,_=>exact h0 10 (by omega)
 | 11,_=>exact h0 11 (by omega)
 | 12,_=>exact h0 12 (by omega)
 | 13,_=>exact h0 13 (by omega)
 | 14,_=>exact h1 0 (by omega)
 | 15,_=>exact h1 1 (by omega)
 | 16,_=>exact h1 2 (by omega)
 | 17,_=>exact h1 3 (by omega)
 | 18,_=>exact h1 4 (by omega)
 | 19,_=>exact h1 5 (by omega)
 | 20,_=>exact h1 6 (by omega)
 | 21,_=>exact h1 7 (by omega)
 | 22,_=>exact h1 8 (by omega)
 | 23,_=>exact h1 9 (by omega)
 | 24,_=>exact h1 10 (by omega)
 | 25,_=>exact h1 11 (by omega)
 | 26,_=>exact h1 12 (by omega)
 | 27,_=>exact h1 13 (by omega)
 | j+28,hj=>exact absurd hj (by omega)
theorem EW:Tryz.prog.underlying 53=some (.struct (tQ 53)):=by kernel_rfl
theorem c53:Tryz.prog.cellsOf 53=83:=by kernel_rfl
theorem ahZ:Opens Tryz.prog 53 eX 83 (fun x j=>(oz aj x j)) (fun _=>True):=by
 intro H enc w base sp held fuel cs x h
 obtain ⟨a0,_,h0⟩:=bA EW h 0 (ft:=48) (off:=0) (by kernel_rfl) c48 abF
 obtain ⟨a1,_,h1⟩:=bA EW h 1 (ft:=48) (off:=25) (by kernel_rfl) c48 abF
 obtain ⟨a2,_,h2⟩:=bA EW h 2 (ft:=4) (off:=50) (by kernel_rfl) c4 DI
 obtain ⟨a3,_,h3⟩:=bA EW h 3 (ft:=50) (off:=51) (by kernel_rfl) c50 ahX
 obtain ⟨a4,_,h4⟩:=bA EW h 4 (ft:=51) (off:=52) (by kernel_rfl) c51 ahY
 obtain ⟨a5,_,h5⟩:=bA EW h 5 (ft:=22) (off:=80) (by kernel_rfl) c22 abA
 obtain ⟨a6,_,h6⟩:=bA EW h 6 (ft:=9) (off:=81) (by kernel_rfl) c9 Zn
 obtain ⟨a7,_,h7⟩:=bA EW h 7 (ft:=3) (off:=82) (by kernel_rfl) c3 jk
 refine ⟨(jJ EW h).trans c53,⟨a0,a1,a2,a3,a4,a5,a6,a7⟩,trivial,fun j hj=>?_⟩
 match j,hj with
 | 0,_=>exact h0 0 (by omega)
 | 1,_=>exact h0 1 (by omega)
 | 2,_=>exact h0 2 (by omega)
 | 3,_=>exact h0 3 (by omega)
 | 4,_=>exact h0 4 (by omega)
 | 5,_=>exact h0 5 (by omega)
 | 6,_=>exact h0 6 (by omega)
 | 7,_=>exact h0 7 (by omega)
 | 8,_=>exact h0 8 (by omega)
 | 9,_=>exact h0 9 (by omega)
 | 10,_=>exact h0 10 (by omega)
 | 11,_=>exact h0 11 (by omega)
 | 12,_=>exact h0 12 (by omega)
 | 13,_=>exact h0 13 (by omega)
 | 14,_=>exact h0 14 (by omega)
 | 15,_=>exact h0 15 (by omega)
 | 16,_=>exact h0 16 (by omega)
 | 17,_=>exact h0 17 (by omega)
 | 18,_=>exact h0 18 (by omega)
 | 19,_=>exact h0 19 (by omega)
 | 20,_=>exact h0 20 (by omega)
 | 21,_=>exact h0 21 (by omega)
 | 22,_=>exact h0 22 (by omega)
 | 23,_=>exact h0 23 (by omega)
 | 24,_=>exact h0 24 (by omega)
 | 25,_=>exact h1 0 (by omega)
 | 26,_=>exact h1 1 (by omega)
 | 27,_=>exact h1 2 (by omega)
 | 28,_=>exact h1 3 (by omega)
 | 29,_=>exact h1 4 (by omega)
 | 30,_=>exact h1 5 (by omega)
 | 31,_=>exact h1 6 (by omega)
 | 32,_=>exact h1 7 (by omega)
 | 33,_=>exact h1 8 (by omega)
 | 34,_=>exact h1 9 (by omega)
 | 35,_=>exact h1 10 (by omega)
 | 36,_=>exact h1 11 (by omega)
 | 37,_=>exact h1 12 (by omega)
 | 38,_=>exact h1 13 (by omega)
 | 39,_=>exact h1 14 (by omega)
 | 40,_=>exact h1 15 (by omega)
 | 41,_=>exact h1 16 (by omega)
 | 42,_=>exact h1 17 (by omega)
 | 43,_=>exact h1 18 (by omega)
 | 44,_=>exact h1 19 (by omega)
 | 45,_=>exact h1 20 (by omega)
 | 46,_=>exact h1 21 (by omega)
 | 47,_=>exact h1 22 (by omega)
 | 48,_=>exact h1 23 (by omega)
 | 49,_=>exact h1 24 (by omega)
 | 50,_=>exact h2 0 (by omega)
 | 51,_=>exact h3 0 (by omega)
 | 52,_=>exact h4 0 (by omega)
 | 53,_=>exact h4 1 (by omega)
 | 54,_=>exact h4 2 (by omega)
 | 55,_=>exact h4 3 (by omega)
 | 56,_=>exact h4 4 (by omega)
 | 57,_=>exact h4 5 (by omega)
 | 58,_=>exact h4 6 (by omega)
 | 59,_=>exact h4 7 (by omega)
 | 60,_=>exact h4 8 (by omega)
 | 61,_=>exact h4 9 (by omega)
 | 62,_=>exact h4 10 (by omega)
 | 63,_=>exact h4 11 (by omega)
 | 64,_=>exact h4 12 (by omega)
 | 65,_=>exact h4 13 (by omega)
 | 66,_=>exact h4 14 (by omega)
 | 67,_=>exact h4 15 (by omega)
 | 68,_=>exact h4 16 (by omega)
 | 69,_=>exact h4 17 (by omega)
 | 70,_=>exact h4 18 (by omega)
 | 71,_=>exact h4 19 (by omega)
 | 72,_=>exact h4 20 (by omega)
 | 73,_=>exact h4 21 (by omega)
 | 74,_=>exact h4 22 (by omega)
 | 75,_=>exact h4 23 (by omega)
 | 76,_=>exact h4 24 (by omega)
 | 77,_=>exact h4 25 (by omega)
 | 78,_=>exact h4 26 (by omega)
 | 79,_=>exact h4 27 (by omega)
 | 80,_=>exact h5 0 (by omega)
 | 81,_=>exact h6 0 (by omega)
 | 82,_=>exact h7 0 (by omega)
 | j+83,hj=>exact absurd hj (by omega)
theorem Rx:Tryz.prog.underlying 55=some (.struct (tQ 55)):=by kernel_rfl
theorem c55:Tryz.prog.cellsOf 55=92:=by kernel_rfl
theorem ahJ:Opens Tryz.prog 55 dV 92 (fun x j=>(pU aj x j)) (fun _=>True):=by
 intro H enc w base sp held fuel cs x h
 obtain ⟨a0,_,h0⟩:=bA Rx h 0 (ft:=24) (off:=0) (by kernel_rfl) c24 ahN
 obtain ⟨a1,_,h1⟩:=bA Rx h 1 (ft:=29) (off:=1) (by kernel_rfl) c29 ahQ
 obtain ⟨a2,_,h2⟩:=bA Rx h 2 (ft:=53) (off:=8) (by kernel_rfl) c53 ahZ
 obtain ⟨a3,_,h3⟩:=bA Rx h 3 (ft:=3) (off:=91) (by kernel_rfl) c3 jk
 refine ⟨(jJ Rx h).trans c55,⟨a0,a1,a2,a3⟩,trivial,fun j hj=>?_⟩
 match j,hj with
 | 0,_=>exact h0 0 (by omega)
 | 1,_=>exact h1 0 (by omega)
 | 2,_=>exact h1 1 (by omega)
 | 3,_=>exact h1 2 (by omega)
 | 4,_=>exact h1 3 (by omega)
 | 5,_=>exact h1 4 (by omega)
 | 6,_=>exact h1 5 (by omega)
 | 7,_=>exact h1 6 (by omega)
 | 8,_=>exact h2 0 (by omega)
 | 9,_=>exact h2 1 (by omega)
 | 10,_=>exact h2 2 (by omega)
 | 11,_=>exact h2 3 (by omega)
 | 12,_=>exact h2 4 (by omega)
 | 13,_=>exact h2 5 (by omega)
 | 14,_=>exact h2 6 (by omega)
 | 15,_=>exact h2 7 (by omega)
 | 16,_=>exact h2 8 (by omega)
 | 17,_=>exact h2 9 (by omega)
 | 18,_=>exact h2 10 (by omega)
 | 19,_=>exact h2 11 (by omega)
 | 20,_=>exact h2 12 (by omega)
 | 21,_=>exact h2 13 (by omega)
 | 22,_=>exact h2 14 (by omega)
 | 23,_=>exact h2 15 (by omega)
 | 24,_=>exact h2 16 (by omega)
 | 25,_=>exact h2 17 (by omega)
 | 26,_=>exact h2 18 (by omega)
 | 27,_=>exact h2 19 (by omega)
 | 28,_=>exact h2 20 (by omega)
 | 29,_=>exact h2 21 (by omega)
 | 30,_=>exact h2 22 (by omega)
 | 31,_=>exact h2 23 (by omega)
 | 32,_=>exact h2 24 (by omega)
 | 33,_=>exact h2 25 (by omega)
 | 34,_=>exact h2 26 (by omega)
 | 35,_=>exact h2 27 (by omega)
 | 36,_=>exact h2 28 (by omega)
 | 37,_=>exact h2 29 (by omega)
 | 38,_=>exact h2 30 (by omega)
 | 39,_=>exact h2 31 (by omega)
 | 40,_=>exact h2 32 (by omega)
 | 41,_=>exact h2 33 (by omega)
 | 42,_=>exact h2 34 (by omega)
 | 43,_=>exact h2 35 (by omega)
 | 44,_=>exact h2 36 (by omega)
 | 45,_=>exact h2 37 (by omega)
 | 46,_=>exact h2 38 (by omega)
 | 47,_=>exact h2 39 (by omega)
 | 48,_=>exact h2 40 (by omega)
 | 49,_=>exact h2 41 (by omega)
 | 50,_=>exact h2 42 (by omega)
 | 51,_=>exact h2 43 (by omega)
 | 52,_=>exact h2 44 (by omega)
 | 53,_=>exact h2 45 (by omega)
 | 54,_=>exact h2 46 (by omega)
 | 55,_=>exact h2 47 (by omega)
 | 56,_=>exact h2 48 (by omega)
 | 57,_=>exact h2 49 (by omega)
 | 58,_=>exact h2 50 (by omega)
 | 59,_=>exact h2 51 (by omega)
 | 60,_=>exact h2 52 (by omega)
 | 61,_=>exact h2 53 (by omega)
 | 62,_=>exact h2 54 (by omega)
 | 63,_=>exact h2 55 (by omega)
 | 64,_=>exact h2 56 (by omega)
 | 65,_=>exact h2 57 (by omega)
 | 66,_=>exact h2 58 (by omega)
 | 67,_=>exact h2 59 (by omega)
 | 68,_=>exact h2 60 (by omega)
 | 69,_=>exact h2 61 (by omega)
 | 70,_=>exact h2 62 (by omega)
 | 71,_=>exact h2 63 (by omega)
 | 72,_=>exact h2 64 (by omega)
 | 73,_=>exact h2 65 (by omega)
 | 74,_=>exact h2 66 (by omega)
 | 75,_=>exact h2 67 (by omega)
 | 76,_=>exact h2 68 (by omega)
 | 77,_=>exact h2 69 (by omega)
 | 78,_=>exact h2 70 (by omega)
 | 79,_=>exact h2 71 (by omega)
 | 80,_=>exact h2 72 (by omega)
 | 81,_=>exact h2 73 (by omega)
 | 82,_=>exact h2 74 (by omega)
 | 83,_=>exact h2 75 (by omega)
 | 84,_=>exact h2 76 (by omega)
 | 85,_=>exact h2 77 (by omega)
 | 86,_=>exact h2 78 (by omega)
 | 87,_=>exact h2 79 (by omega)
 | 88,_=>exact h2 80 (by omega)
 | 89,_=>exact h2 81 (by omega)
 | 90,_=>exact h2 82 (by omega)
 | 91,_=>exact h3 0 (by omega)
 | j+92,hj=>exact absurd hj (by omega)
abbrev Ls:List (String × DataW Unit):=Rows.termSizesRow.laid
theorem Vm (w:World):laidMetH Tryz.prog Ls w=laidMet Tryz.prog Ls w:=MakeChecks.laidMetH_plain _ _ _ (by kernel_rfl)
theorem uR {P:Program} {w:World} : ∀ {laid:List (String × DataW Unit)} {ps:List MemPlace},DataW.LaidVars P w laid ps→∀ x∈laid,
  ∃ g t cs fuel p,P.globalNamed x.1=some g∧(P.globals[g]?).map (·.type)=some t∧w.var? P x.1=some cs∧DataW.trod (fun _=>()) P w 0 (fun _=>true) false fuel t cs.toList=some (x.2,p)
 | [],_,_,x,hx=>by cases hx
 | (n,d) :: r,ps,h,x,hx=>by
  obtain ⟨g,t,cs,fuel,p,q,h1,h2,h3,h4,h5,_⟩:=h
  rcases List.mem_cons.1 hx with rfl | hx
  · exact ⟨g,t,cs,fuel,p,h1,h2,h3,h4⟩
  · exact uR h5 x hx
theorem aiR:Tryz.prog.underlying 236=some (.struct (tQ 236)):=by kernel_rfl
theorem aiS:Tryz.prog.underlying 237=some (.array 24 236):=by kernel_rfl
theorem c236:Tryz.prog.cellsOf 236=2:=by kernel_rfl
theorem row_of {w:World} {base:Nat} {sp:Nat→Bool} {held:Bool} {fuel:Nat} {c2:List Value} {b:Bool} {n:Int} {p:List MemPlace} (h:DataW.trod (fun _=>()) Tryz.prog w base sp held fuel 236 c2=some (.agg [.lit (.bool b),.lit (.int .i64 n)],p)):c2[0]? = some (.bool b)∧c2[1]? = some (.int .i64 n):=by
 obtain ⟨xs,m,_,hx,_,hlen,hel⟩:=DataW.trod_struct aiR h
 have hf0:((tQ 236)[0]?).map (fun f=>(f.type,f.offset))=some (4,0):=by kernel_rfl
 have hf1:((tQ 236)[1]?).map (fun f=>(f.type,f.offset))=some (3,1):=by kernel_rfl
 obtain ⟨f0,g0,e0⟩:=Option.map_eq_some_iff.1 hf0
 obtain ⟨f1,g1,e1⟩:=Option.map_eq_some_iff.1 hf1
 have h0:=hel 0 f0 g0
 have h1:=hel 1 f1 g1
 simp only [Prod.mk.injEq] at e0 e1
 rw [e0.1,e0.2,c4] at h0
 rw [e1.1,e1.2,c3] at h1
 simp only [Prod.mk.injEq,DataW.agg.injEq] at hx
 match xs,hx.1 with
 | [x0,x1],hx =>
  simp only [List.map_cons,List.map_nil,List.cons.injEq] at hx
  obtain ⟨b',q1,q2⟩:=DataW.trod_bool afu (by rw [h0];rfl)
  obtain ⟨n',r1,r2,_⟩:=DataW.trod_int acC (by rw [h1];rfl)
  rw [q2] at hx
  rw [r2] at hx
  obtain ⟨u1,u2,_⟩:=hx
  cases u1
  cases u2
  constructor
  · have:=congrArg (fun l=>l[0]?) q1
    simpa using this
  · have:=congrArg (fun l=>l[0]?) r1
    simpa [List.getElem?_take,List.getElem?_drop] using this
def Ry:List (Bool × Int):=(List.range 24).map fun i=>(match (rU 1).bind (fun x=>some (x.2 (2*i))) with
 | some (.bool b)=>b
 | _=>false,match (rU 1).bind (fun x=>some (x.2 (2*i+1))) with
 | some (.int _ n)=>n
 | _=>0)
theorem afz:Rows.laid_lapwing_modes_table=(DataW.agg (Ry.map fun x=>DataW.agg [.lit (.bool x.1),.lit (.int .i64 x.2)]):DataW Unit):=by kernel_rfl
def LB (k:Nat):Value:=if k % 2=0 then .bool (Ry.getD (k / 2) (false,0)).1 else .int .i64 (Ry.getD (k / 2) (false,0)).2
theorem TN : ∀ k,k < 48→∀ n f,rU 1=some (n,f)→n=48∧f k=LB k∧(f k).oneCell'=true∧wO (f k) = .v (f k):=by
 intro k hk n f h
 obtain ⟨rfl,rfl⟩:n=48∧f=((rU 1).get (by kernel_rfl)).2:=by
  have e:rU 1=some (48,((rU 1).get (by kernel_rfl)).2):=by kernel_rfl
  rw [e] at h;cases h;exact ⟨rfl,rfl⟩
 refine ⟨rfl,?_⟩
 have hall : ∀ k,k < 48→((rU 1).get (by kernel_rfl)).2 k=LB k∧(((rU 1).get (by kernel_rfl)).2 k).oneCell'=true∧wO (((rU 1).get (by kernel_rfl)).2 k) = .v (((rU 1).get (by kernel_rfl)).2 k):=by
  repeat' first | exact yY | refine yZ ?_ ?_
  all_goals exact ⟨by kernel_rfl,by kernel_rfl,by kernel_rfl⟩
 exact hall k hk
theorem aaY {w:World} {base:Nat} {sp:Nat→Bool} {held:Bool} {fuel:Nat} {cs:List Value} {p:List MemPlace} (h:DataW.trod (fun _=>()) Tryz.prog w base sp held fuel 237 cs=some (Rows.laid_lapwing_modes_table,p)) : ∀ k,k < 48→cs[k]? = some (LB k):=by
 rw [afz] at h
 obtain ⟨xs,m,_,hx,_,hlen,hel⟩:=DataW.trod_array aiS h
 simp only [Prod.mk.injEq,DataW.agg.injEq] at hx
 intro k hk
 have hi:k / 2 < 24:=by omega
 have h1:=hel (k / 2) hi
 have hml:Ry.length=24:=by kernel_rfl
 have hx1:(xs[k / 2]?).map (·.1)=some (DataW.agg [.lit (.bool (Ry.getD (k / 2) (false,0)).1),.lit (.int .i64 (Ry.getD (k / 2) (false,0)).2)]):=by
  rw [← List.getElem?_map,← hx.1,List.getElem?_map,List.getD_eq_getElem?_getD,List.getElem?_eq_getElem (by omega)]
  rfl
 obtain ⟨y,y1,y2⟩:=Option.map_eq_some_iff.1 hx1
 obtain ⟨y0,yp⟩:=y
 simp only at y2
 subst y2
 rw [y1,c236] at h1
 obtain ⟨z0,z1⟩:=row_of h1
 rw [List.getElem?_take,if_pos (by omega),List.getElem?_drop] at z0 z1
 unfold LB
 split
 · have:k=k / 2*2+0:=by omega
   rw [this];rw [show (k / 2*2+0) / 2=k / 2 by omega];exact z0
 · have:k=k / 2*2+1:=by omega
   rw [this];rw [show (k / 2*2+1) / 2=k / 2 by omega];exact z1
def aiT (g n:Nat):List Int:=(List.range n).map fun i=>Af g (i:Nat)
theorem Vn {W:World} {nm:String} {g' g t n:Nat} {k:IntKind} {e:TypeId} {cs:Array Value} {base:Nat} {sp:Nat→Bool} {held:Bool} {fuel:Nat} {dt:DataW Unit} {p:List MemPlace} (hg:Tryz.prog.globalNamed nm=some g) (hg':Tryz.prog.globalNamed nm=some g')
  (ht:(Tryz.prog.globals[g]?).map (·.type)=some t) (hv:W.var? Tryz.prog nm=some cs) (hd:DataW.trod (fun _=>()) Tryz.prog W base sp held fuel t cs.toList=some (dt,p)) (hdt:dt=Go.Lib.tabData k (aiT g' n)) (hn:0 < n)
  (ty : ∃ t',(Tryz.prog.globals[g']?).map (·.type)=some t'∧Tryz.prog.underlying t'=some (.array n e)∧Tryz.prog.underlying e=some (.int k)∧Tryz.prog.cellsOf e=1∧Tryz.prog.cellsOf t'=n) :
  0 < n∧g' < W.heap.size∧∃ c e fr,W.heap[g']? = some (.cells c e fr)∧∀ i:Nat,i < n→c[i]? = some (.int k (Af g' i)):=by
 obtain rfl:=Option.some.inj (hg'.symm.trans hg)
 obtain ⟨t',ht',ha⟩:=ty
 obtain rfl:=Option.some.inj (ht'.symm.trans ht)
 subst hdt
 have e1:=Go.Lib.cells_of_tab ha.1 ha.2.1 ha.2.2.1 ha.2.2.2 hd
 simp only [World.var?,hg,Option.bind_some] at hv
 split at hv
 · rename_i c e' fr hc
   cases hv
   refine ⟨hn,Array.getElem?_eq_some_iff.1 hc |>.1,cs,e',fr,hc,fun i hi=>?_⟩
   have:cs.toList[i]? = some (.int k (Af g' i)):=by
    rw [e1]
    simp [aiT,hi]
   simpa using this
 · cases hv
theorem ahK {W:World} (h:laidMetH Tryz.prog Ls W):F9 W.heap (fun b=>b < W.heap.size):=by
 rw [Vm] at h
 obtain ⟨ps,hl,_⟩:=h
 refine ⟨fun g' n k hk=>?_,fun g' n f hk=>?_⟩
 · unfold acH at hk
   split at hk
   · rename_i h0
     obtain ⟨rfl⟩:(0:Nat)=g':=(Nat.eq_of_beq_eq_true h0).symm
     cases hk
     obtain ⟨g,t,cs,fuel,p,hg,ht,hv,hd⟩:=uR hl ("strings.asciiSpace",Rows.laid_strings_asciiSpace) (by
      show _∈[_,_,_,_,_,_,_,_,_,_,_,_,_]
      exact .tail _ (.tail _ (.tail _ (.tail _ (.tail _ (.tail _ (.tail _ (.head _))))))))
     exact Vn (e:=5) hg (by kernel_rfl) ht hv hd (by kernel_rfl) (by decide) ⟨_,rfl,by kernel_rfl,by kernel_rfl,by kernel_rfl,by kernel_rfl⟩
   · split at hk
     · rename_i h0
       obtain ⟨rfl⟩:(7:Nat)=g':=(Nat.eq_of_beq_eq_true h0).symm
       cases hk
       obtain ⟨g,t,cs,fuel,p,hg,ht,hv,hd⟩:=uR hl ("lapwing/charset.graphics",Rows.laid_lapwing_charset_graphics) (by
        show _∈[_,_,_,_,_,_,_,_,_,_,_,_,_]
        exact .tail _ (.tail _ (.tail _ (.tail _ (.tail _ (.tail _ (.tail _ (.tail _ (.tail _ (.tail _ (.head _)))))))))))
       exact Vn (e:=3) hg (by kernel_rfl) ht hv hd (by kernel_rfl) (by decide) ⟨_,rfl,by kernel_rfl,by kernel_rfl,by kernel_rfl,by kernel_rfl⟩
     · split at hk
       · rename_i h0
         obtain ⟨rfl⟩:(11:Nat)=g':=(Nat.eq_of_beq_eq_true h0).symm
         cases hk
         obtain ⟨g,t,cs,fuel,p,hg,ht,hv,hd⟩:=uR hl ("lapwing/pen.switched",Rows.laid_lapwing_pen_switched) (by
          show _∈[_,_,_,_,_,_,_,_,_,_,_,_,_]
          exact .tail _ (.tail _ (.tail _ (.tail _ (.tail _ (.tail _ (.tail _ (.tail _ (.tail _ (.tail _ (.tail _ (.head _))))))))))))
         exact Vn (e:=3) hg (by kernel_rfl) ht hv hd (by kernel_rfl) (by decide) ⟨_,rfl,by kernel_rfl,by kernel_rfl,by kernel_rfl,by kernel_rfl⟩
       · split at hk
         · rename_i h0
           obtain ⟨rfl⟩:(12:Nat)=g':=(Nat.eq_of_beq_eq_true h0).symm
           cases hk
           obtain ⟨g,t,cs,fuel,p,hg,ht,hv,hd⟩:=uR hl ("lapwing/pen.unswitched",Rows.laid_lapwing_pen_unswitched) (by
            show _∈[_,_,_,_,_,_,_,_,_,_,_,_,_]
            exact .tail _ (.tail _ (.tail _ (.tail _ (.tail _ (.tail _ (.tail _ (.tail _ (.tail _ (.tail _ (.tail _ (.tail _ (.head _)))))))))))))
           exact Vn (e:=3) hg (by kernel_rfl) ht hv hd (by kernel_rfl) (by decide) ⟨_,rfl,by kernel_rfl,by kernel_rfl,by kernel_rfl,by kernel_rfl⟩
         · cases hk
 · obtain ⟨g,t,cs,fuel,p,hg,ht,hv,hd⟩:=uR hl ("lapwing/modes.table",Rows.laid_lapwing_modes_table) (by
    show _∈[_,_,_,_,_,_,_,_,_,_,_,_,_]
    exact .tail _ (.tail _ (.tail _ (.tail _ (.tail _ (.tail _ (.tail _ (.tail _ (.tail _ (.head _))))))))))
   obtain rfl:=Option.some.inj ((show Tryz.prog.globalNamed "lapwing/modes.table" = some 1 by kernel_rfl).symm.trans hg)
   have ht':(Tryz.prog.globals[1]?).map (·.type)=some 237:=by kernel_rfl
   obtain rfl:=Option.some.inj (ht'.symm.trans ht)
   have e:=aaY hd
   have hg2:g'=1:=by
    unfold rU at hk
    split at hk
    · rename_i h0
      exact Nat.eq_of_beq_eq_true h0
    · cases hk
   subst hg2
   obtain ⟨rfl,_⟩:=TN 0 (by omega) n f hk
   simp only [World.var?,hg,Option.bind_some] at hv
   split at hv
   · rename_i c e' fr hc
     cases hv
     refine ⟨by decide,Array.getElem?_eq_some_iff.1 hc |>.1,fun j hj=>((TN j hj _ f hk).2).2,cs,e',fr,hc,fun i hi=>?_⟩
     have h1:=e i hi
     rw [← ((TN i hi _ f hk).2).1] at h1
     simpa using h1
   · cases hv
theorem acB (os:Os):(World.laidAll Tryz.prog os Ls).Shaped Tryz.prog:=World.shaped_of_ZipB (by kernel_rfl) (by kernel_rfl)
theorem ahI (os:Os) (args:Array Value):laidMetH Tryz.prog Ls ((World.laidAll Tryz.prog os Ls).forCall (fun _ _=>0) ⟨#[],args,[]⟩).memory:=by
 rw [Vm];exact laidMet_laidAll _ (by kernel_rfl) (by kernel_rfl)
end Go.Proofs.YtckmalogclklmaaGreatDoor
