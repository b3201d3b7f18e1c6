/- Walks, by program (lift.py): the code does what the lifted functions say. -/
import Derived.Test.YtmbgnnedjgmhmaaGreatDoorKLift
import Derived.Test.YtmbgnnedjgmhmaaGreatDoorChecked
set_option linter.all false
namespace Go.Vx
open Go.Proofs
set_option maxRecDepth 100000
set_option maxHeartbeats 1000000
set_option linter.unusedVariables false
set_option linter.unusedSimpArgs false
attribute [local irreducible] chk Z7 Z8 Zu nilO
def Z15 (nv:Nv) (x:Xy) (j:Nat):D:=match j with
  | 0=>(.v (.int .i64 x.fstart))
  | 1=>(.v (.int .i64 x.fend))
  | _=>.junk
def Yz (nv:Nv) (x:Y9) (j:Nat):D:=match j with
  | 0=>(.v (.int .i64 x.fLo))
  | 1=>(.v (.int .i64 x.fHi))
  | 2=>(.v (.int .i64 x.fV))
  | _=>.junk
def Z07 (nv:Nv) (x:Z2) (j:Nat):D:=match j with
  | 0=>(.sl 3 (nv.len x.fL) false (fun ix jx=>(Yz nv (nv.get Yd x.fL ix) jx)))
  | _=>.junk
def Z1t (nv:Nv) (x:Yg) (j:Nat):D:=match j with
  | 0=>(.v (.int .i64 x.fA))
  | 1=>(.v (.int .i64 x.fB))
  | _=>.junk
def Z32 (nv:Nv) (x:X0) (j:Nat):D:=match j with
  | 0=>(.v (.int .i64 x.fR))
  | 1=>(.v (.int .i64 x.fAt))
  | 2=>(.v (.int .i64 x.fN))
  | _=>.junk
def Yk (nv:Nv) (x:Za) (j:Nat):D:=match j with
  | 0=>(.sl 3 (nv.len x.fClass.fL) false (fun ix jx=>(Yz nv (nv.get Yd x.fClass.fL ix) jx)))
  | 1=>(.sl 3 (nv.len x.fWide.fL) false (fun ix jx=>(Yz nv (nv.get Yd x.fWide.fL ix) jx)))
  | 2=>(.sl 3 (nv.len x.fJoin.fL) false (fun ix jx=>(Yz nv (nv.get Yd x.fJoin.fL ix) jx)))
  | 3=>(.sl 2 (nv.len x.fMirror) false (fun ix jx=>(Z1t nv (nv.get Xr x.fMirror ix) jx)))
  | 4=>(.sl 2 (nv.len x.fBrackets) false (fun ix jx=>(Z1t nv (nv.get Xr x.fBrackets ix) jx)))
  | 5=>(.sl 3 (nv.len x.fForms) false (fun ix jx=>(Z32 nv (nv.get X6 x.fForms ix) jx)))
  | _=>.junk
def Z7t (nv:Nv) (x:Z0s) (j:Nat):D:=match j with
  | 0=>(.v (.int .i64 x.fFg))
  | 1=>(.v (.int .i64 x.fBg))
  | 2=>(.v (.int .i64 x.fFlags))
  | _=>.junk
def Xk (nv:Nv) (x:Zx) (j:Nat):D:=match j with
  | 0=>(.v (.int .i64 x.x0))
  | 1=>(.v (.int .i64 x.x1))
  | _=>.junk
def Q7 (nv:Nv) (x:Zi) (j:Nat):D:=match j with
  | 0=>(.v (.int .i64 x.fR))
  | 1=>(.v (.int .i64 x.fM.x0))
  | 2=>(.v (.int .i64 x.fM.x1))
  | 3=>(.v (.int .i64 x.fW))
  | 4=>(.v (.int .i64 x.fPen.fFg))
  | 5=>(.v (.int .i64 x.fPen.fBg))
  | 6=>(.v (.int .i64 x.fPen.fFlags))
  | _=>.junk
def Yq (nv:Nv) (x:Z5) (j:Nat):D:=match j with
  | 0=>(.sl 7 (nv.len x.fCells) false (fun ix jx=>(Q7 nv (nv.get Z4 x.fCells ix) jx)))
  | 1=>(.v (.bool x.fWrap))
  | 2=>(.v (.int .i64 x.fDir))
  | 3=>(.v (.bool x.fExplicit))
  | _=>.junk
def Yy (nv:Nv) (x:Zj) (j:Nat):D:=match j with
  | 0=>(.sl 1 (nv.len x.fV2L) false (fun ix jx=>(.v (.int .i64 (nv.get 0 x.fV2L ix)))))
  | 1=>(.sl 1 (nv.len x.fL2V) false (fun ix jx=>(.v (.int .i64 (nv.get 0 x.fL2V ix)))))
  | 2=>(.sl 7 (nv.len x.fCells) false (fun ix jx=>(Q7 nv (nv.get Z4 x.fCells ix) jx)))
  | 3=>(.v (.int .i64 x.fBase))
  | _=>.junk
def Z0l (nv:Nv) (x:Zp) (j:Nat):D:=match j with
  | 0=>(.sl 1 (nv.len x.fl) false (fun ix jx=>(.v (.int .i64 (nv.get 0 x.fl ix)))))
  | _=>.junk
def Zw (nv:Nv) (x:Y8) (j:Nat):D:=match j with
  | 0=>(.v (.int .i64 x.flevel))
  | 1=>(.v (.int .i64 x.foverride))
  | 2=>(.v (.bool x.fisolate))
  | _=>.junk
def Z1o (nv:Nv) (x:Z9) (j:Nat):D:=match j with
  | 0=>(.sl 3 (nv.len x.fl) false (fun ix jx=>(Zw nv (nv.get Zr x.fl ix) jx)))
  | _=>.junk
def Z16 (nv:Nv) (x:Zn) (j:Nat):D:=match j with
  | 0=>(.sl 1 (nv.len x.fLevels) false (fun ix jx=>(.v (.int .i64 (nv.get 0 x.fLevels ix)))))
  | 1=>(.sl 1 (nv.len x.fClasses) false (fun ix jx=>(.v (.int .i64 (nv.get 0 x.fClasses ix)))))
  | 2=>(.sl 1 (nv.len x.fRemoved) false (fun ix jx=>(.v (.bool (nv.get false x.fRemoved ix)))))
  | _=>.junk
def Z3w (nv:Nv) (x:Z6) (j:Nat):D:=match j with
  | 0=>(.sl 1 (nv.len x.fl) false (fun ix jx=>(.v (.int .i64 (nv.get 0 x.fl ix)))))
  | 1=>(.sl 1 (nv.len x.fmatch) false (fun ix jx=>(.v (.int .i64 (nv.get 0 x.fmatch ix)))))
  | 2=>(.v (.int .i64 x.fbase))
  | 3=>(.sl 1 (nv.len x.frun.fLevels) false (fun ix jx=>(.v (.int .i64 (nv.get 0 x.frun.fLevels ix)))))
  | 4=>(.sl 1 (nv.len x.frun.fClasses) false (fun ix jx=>(.v (.int .i64 (nv.get 0 x.frun.fClasses ix)))))
  | 5=>(.sl 1 (nv.len x.frun.fRemoved) false (fun ix jx=>(.v (.bool (nv.get false x.frun.fRemoved ix)))))
  | 6=>(.sl 3 (nv.len x.fopen.fl) false (fun ix jx=>(Zw nv (nv.get Zr x.fopen.fl ix) jx)))
  | 7=>(.v (.int .i64 x.fisolates))
  | 8=>(.v (.int .i64 x.fembeddings))
  | 9=>(.v (.int .i64 x.fvalid))
  | _=>.junk
def Z6v (nv:Nv) (x:Zs) (j:Nat):D:=match j with
  | 0=>(.sl 1 (nv.len x.fl) false (fun ix jx=>(.v (.int .i64 (nv.get 0 x.fl ix)))))
  | 1=>(.v (.int .i64 x.fsos))
  | _=>.junk
def Z6w (nv:Nv) (x:Ys) (j:Nat):D:=match j with
  | 0=>(.sl 1 (nv.len x.fl) false (fun ix jx=>(.v (.int .i64 (nv.get 0 x.fl ix)))))
  | 1=>(.sl 1 (nv.len x.fwas) false (fun ix jx=>(.v (.int .i64 (nv.get 0 x.fwas ix)))))
  | 2=>(.v (.int .i64 x.fsos))
  | 3=>(.v (.int .i64 x.feos))
  | 4=>(.v (.int .i64 x.fdir))
  | 5=>(.v (.int .i64 x.fagainst))
  | 6=>(.sl 2 (nv.len x.fpairs) false (fun ix jx=>(Xk nv (nv.get Zz x.fpairs ix) jx)))
  | _=>.junk
def Z1c (nv:Nv) (x:Yj) (j:Nat):D:=match j with
  | 0=>(.v (.int .i64 x.ffrom))
  | 1=>(.v (.int .i64 x.fto))
  | 2=>(.sl 1 (nv.len x.flevels) false (fun ix jx=>(.v (.int .i64 (nv.get 0 x.flevels ix)))))
  | 3=>(.sl 1 (nv.len x.fglyphs) false (fun ix jx=>(.v (.int .i64 (nv.get 0 x.fglyphs ix)))))
  | 4=>(.v (.int .i64 x.fbase))
  | _=>.junk
def D_copy_sheet (nv:Nv) (x:Y4) (j:Nat):D:=match j with
  | 0=>(.sl 1 (nv.len x.fl) false (fun ix jx=>(.v (.int .i64 (nv.get 0 x.fl ix)))))
  | 1=>(.v (.int .i64 x.fmost))
  | _=>.junk
def D_copy_full (nv:Nv) (x:Z58) (j:Nat):D:=match j with
  | _=>.junk
def Xf (nv:Nv) (x:Zg) (j:Nat):D:=match j with
  | 0=>(.v (.int .i64 x.fY))
  | 1=>(.v (.int .i64 x.fX))
  | _=>.junk
def Xt (nv:Nv) (x:Y5) (j:Nat):D:=match j with
  | 0=>(.v (.int .i64 x.fY))
  | 1=>(.v (.int .i64 x.fX))
  | _=>.junk
def Z40 (nv:Nv) (x:Z05) (j:Nat):D:=match j with
  | 0=>(.sl 4 (nv.len x.fRows) false (fun ix jx=>(Yq nv (nv.get Z3 x.fRows ix) jx)))
  | _=>.junk
theorem Z5j {P:Program} (x:Xy) (j:Nat):Yx (std P) (Z15 nvS x j) (Z15 nvS x j):=match j with
  | 0=>Zt _ _
  | 1=>Zt _ _
  | _+2=>trivial
theorem Z08 {P:Program} (x:Y9) (j:Nat):Yx (std P) (Yz nvS x j) (Yz nvS x j):=match j with
  | 0=>Zt _ _
  | 1=>Zt _ _
  | 2=>Zt _ _
  | _+3=>trivial
theorem Z5k {P:Program} (x:Z2) (j:Nat):Yx (std P) (Z07 nvS x j) (Z07 nvS x j):=match j with
  | 0=>Y0 (fun i j=>Z08 _ _)
  | _+1=>trivial
theorem Z47 {P:Program} (x:Yg) (j:Nat):Yx (std P) (Z1t nvS x j) (Z1t nvS x j):=match j with
  | 0=>Zt _ _
  | 1=>Zt _ _
  | _+2=>trivial
theorem Z61 {P:Program} (x:X0) (j:Nat):Yx (std P) (Z32 nvS x j) (Z32 nvS x j):=match j with
  | 0=>Zt _ _
  | 1=>Zt _ _
  | 2=>Zt _ _
  | _+3=>trivial
theorem out_ucd_Data {P:Program} (x:Za) (j:Nat):Yx (std P) (Yk nvS x j) (Yk nvS x j):=match j with
  | 0=>Y0 (fun i j=>Z08 _ _)
  | 1=>Y0 (fun i j=>Z08 _ _)
  | 2=>Y0 (fun i j=>Z08 _ _)
  | 3=>Y0 (fun i j=>Z47 _ _)
  | 4=>Y0 (fun i j=>Z47 _ _)
  | 5=>Y0 (fun i j=>Z61 _ _)
  | _+6=>trivial
theorem out_api_Pen {P:Program} (x:Z0s) (j:Nat):Yx (std P) (Z7t nvS x j) (Z7t nvS x j):=match j with
  | 0=>Zt _ _
  | 1=>Zt _ _
  | 2=>Zt _ _
  | _+3=>trivial
theorem Z62 {P:Program} (x:Zx) (j:Nat):Yx (std P) (Xk nvS x j) (Xk nvS x j):=match j with
  | 0=>Zt _ _
  | 1=>Zt _ _
  | _+2=>trivial
theorem Z48 {P:Program} (x:Zi) (j:Nat):Yx (std P) (Q7 nvS x j) (Q7 nvS x j):=match j with
  | 0=>Zt _ _
  | 1=>Zt _ _
  | 2=>Zt _ _
  | 3=>Zt _ _
  | 4=>Zt _ _
  | 5=>Zt _ _
  | 6=>Zt _ _
  | _+7=>trivial
theorem Z6x {P:Program} (x:Z5) (j:Nat):Yx (std P) (Yq nvS x j) (Yq nvS x j):=match j with
  | 0=>Y0 (fun i j=>Z48 _ _)
  | 1=>Z3h _
  | 2=>Zt _ _
  | 3=>Z3h _
  | _+4=>trivial
theorem Z89 {P:Program} (x:Zj) (j:Nat):Yx (std P) (Yy nvS x j) (Yy nvS x j):=match j with
  | 0=>Y0 (fun i j=>Zt _ _)
  | 1=>Y0 (fun i j=>Zt _ _)
  | 2=>Y0 (fun i j=>Z48 _ _)
  | 3=>Zt _ _
  | _+4=>trivial
theorem Z3m {P:Program} (x:Zp) (j:Nat):Yx (std P) (Z0l nvS x j) (Z0l nvS x j):=match j with
  | 0=>Y0 (fun i j=>Zt _ _)
  | _+1=>trivial
theorem Z1d {P:Program} (x:Y8) (j:Nat):Yx (std P) (Zw nvS x j) (Zw nvS x j):=match j with
  | 0=>Zt _ _
  | 1=>Zt _ _
  | 2=>Z3h _
  | _+3=>trivial
theorem Z54 {P:Program} (x:Z9) (j:Nat):Yx (std P) (Z1o nvS x j) (Z1o nvS x j):=match j with
  | 0=>Y0 (fun i j=>Z1d _ _)
  | _+1=>trivial
theorem Z8a {P:Program} (x:Zn) (j:Nat):Yx (std P) (Z16 nvS x j) (Z16 nvS x j):=match j with
  | 0=>Y0 (fun i j=>Zt _ _)
  | 1=>Y0 (fun i j=>Zt _ _)
  | 2=>Y0 (fun i j=>Z3h _)
  | _+3=>trivial
theorem Z55 {P:Program} (x:Z6) (j:Nat):Yx (std P) (Z3w nvS x j) (Z3w nvS x j):=match j with
  | 0=>Y0 (fun i j=>Zt _ _)
  | 1=>Y0 (fun i j=>Zt _ _)
  | 2=>Zt _ _
  | 3=>Y0 (fun i j=>Zt _ _)
  | 4=>Y0 (fun i j=>Zt _ _)
  | 5=>Y0 (fun i j=>Z3h _)
  | 6=>Y0 (fun i j=>Z1d _ _)
  | 7=>Zt _ _
  | 8=>Zt _ _
  | 9=>Zt _ _
  | _+10=>trivial
theorem Z8b {P:Program} (x:Zs) (j:Nat):Yx (std P) (Z6v nvS x j) (Z6v nvS x j):=match j with
  | 0=>Y0 (fun i j=>Zt _ _)
  | 1=>Zt _ _
  | _+2=>trivial
theorem Z8c {P:Program} (x:Ys) (j:Nat):Yx (std P) (Z6w nvS x j) (Z6w nvS x j):=match j with
  | 0=>Y0 (fun i j=>Zt _ _)
  | 1=>Y0 (fun i j=>Zt _ _)
  | 2=>Zt _ _
  | 3=>Zt _ _
  | 4=>Zt _ _
  | 5=>Zt _ _
  | 6=>Y0 (fun i j=>Z62 _ _)
  | _+7=>trivial
theorem Z4k {P:Program} (x:Yj) (j:Nat):Yx (std P) (Z1c nvS x j) (Z1c nvS x j):=match j with
  | 0=>Zt _ _
  | 1=>Zt _ _
  | 2=>Y0 (fun i j=>Zt _ _)
  | 3=>Y0 (fun i j=>Zt _ _)
  | 4=>Zt _ _
  | _+5=>trivial
theorem Z6y {P:Program} (x:Y4) (j:Nat):Yx (std P) (D_copy_sheet nvS x j) (D_copy_sheet nvS x j):=match j with
  | 0=>Y0 (fun i j=>Zt _ _)
  | 1=>Zt _ _
  | _+2=>trivial
theorem Z8d {P:Program} (x:Z58) (j:Nat):Yx (std P) (D_copy_full nvS x j) (D_copy_full nvS x j):=match j with

  | _+0=>trivial
theorem Z6z {P:Program} (x:Zg) (j:Nat):Yx (std P) (Xf nvS x j) (Xf nvS x j):=match j with
  | 0=>Zt _ _
  | 1=>Zt _ _
  | _+2=>trivial
theorem Z28 {P:Program} (x:Y5) (j:Nat):Yx (std P) (Xt nvS x j) (Xt nvS x j):=match j with
  | 0=>Zt _ _
  | 1=>Zt _ _
  | _+2=>trivial
theorem Z2x {P:Program} (x:Z05) (j:Nat):Yx (std P) (Z40 nvS x j) (Z40 nvS x j):=match j with
  | 0=>Y0 (fun i j=>Z6x _ _)
  | _+1=>trivial
def tt0:TT:=[(2,⟨1,8,.int .i64,some [.int .i64 0],none,true⟩),
  (3,⟨1,8,.int .i64,some [.int .i64 0],none,true⟩),
  (4,⟨1,1,.bool,some [.bool false],none,true⟩),
  (5,⟨1,1,.int .u8,some [.int .u8 0],none,true⟩),
  (9,⟨1,16,.string,some [.string ⟨#[]⟩],none,true⟩),
  (21,⟨1,4,.int .i32,some [.int .i32 0],none,true⟩),
  (22,⟨1,24,.slice 49,some [.slice none 0 0],none,true⟩),
  (24,⟨2,16,.struct [(0,3),(1,3)],some [.int .i64 0,.int .i64 0],some [.int .i64,.int .i64],false⟩),
  (27,⟨1,24,.slice 52,some [.slice none 0 0],none,true⟩),
  (29,⟨1,24,.slice 101,some [.slice none 0 0],none,true⟩),
  (31,⟨1,24,.struct [(0,29)],some [.slice none 0 0],none,false⟩),
  (32,⟨1,24,.slice 103,some [.slice none 0 0],none,true⟩),
  (33,⟨1,24,.slice 105,some [.slice none 0 0],none,true⟩),
  (35,⟨6,144,.struct [(0,31),(1,31),(2,31),(3,32),(4,32),(5,33)],some [.slice none 0 0,.slice none 0 0,.slice none 0 0,.slice none 0 0,.slice none 0 0,.slice none 0 0],none,false⟩),
  (37,⟨1,24,.slice 3,some [.slice none 0 0],none,true⟩),
  (40,⟨2,16,.struct [(0,3),(1,3)],some [.int .i64 0,.int .i64 0],some [.int .i64,.int .i64],false⟩),
  (46,⟨1,24,.struct [(0,22)],some [.slice none 0 0],none,false⟩),
  (47,⟨1,24,.slice 63,some [.slice none 0 0],none,true⟩),
  (49,⟨4,48,.struct [(0,47),(1,4),(2,3),(3,4)],some [.slice none 0 0,.bool false,.int .i64 0,.bool false],none,false⟩),
  (52,⟨4,80,.struct [(0,37),(1,37),(2,47),(3,3)],some [.slice none 0 0,.slice none 0 0,.slice none 0 0,.int .i64 0],none,false⟩),
  (59,⟨2,16,.array 2 3,some [.int .i64 0,.int .i64 0],some [.int .i64,.int .i64],false⟩),
  (61,⟨3,24,.struct [(0,3),(1,3),(2,3)],some [.int .i64 0,.int .i64 0,.int .i64 0],some [.int .i64,.int .i64,.int .i64],false⟩),
  (63,⟨7,56,.struct [(0,3),(1,59),(3,3),(4,61)],some [.int .i64 0,.int .i64 0,.int .i64 0,.int .i64 0,.int .i64 0,.int .i64 0,.int .i64 0],some [.int .i64,.int .i64,.int .i64,.int .i64,.int .i64,.int .i64,.int .i64],false⟩),
  (67,⟨5,72,.struct [(0,3),(1,3),(2,37),(3,37),(4,3)],some [.int .i64 0,.int .i64 0,.slice none 0 0,.slice none 0 0,.int .i64 0],none,false⟩),
  (97,⟨1,24,.slice 9,some [.slice none 0 0],none,true⟩),
  (101,⟨3,24,.struct [(0,3),(1,3),(2,3)],some [.int .i64 0,.int .i64 0,.int .i64 0],some [.int .i64,.int .i64,.int .i64],false⟩),
  (103,⟨2,16,.struct [(0,3),(1,3)],some [.int .i64 0,.int .i64 0],some [.int .i64,.int .i64],false⟩),
  (105,⟨3,24,.struct [(0,3),(1,3),(2,3)],some [.int .i64 0,.int .i64 0,.int .i64 0],some [.int .i64,.int .i64,.int .i64],false⟩),
  (107,⟨2,32,.struct [(0,37),(1,3)],some [.slice none 0 0,.int .i64 0],none,false⟩),
  (109,⟨0,0,.struct [],some [],some [],false⟩),
  (128,⟨1,16,.iface,some [.nilIface],none,true⟩),
  (131,⟨256,256,.array 256 5,some [.int .u8 0,.int .u8 0,.int .u8 0,.int .u8 0,.int .u8 0,.int .u8 0,.int .u8 0,.int .u8 0,.int .u8 0,.int .u8 0,.int .u8 0,.int .u8 0,.int .u8 0,.int .u8 0,.int .u8 0,.int .u8 0,.int .u8 0,.int .u8 0,.int .u8 0,.int .u8 0,.int .u8 0,.int .u8 0,.int .u8 0,.int .u8 0,.int .u8 0,.int .u8 0,.int .u8 0,.int .u8 0,.int .u8 0,.int .u8 0,.int .u8 0,.int .u8 0,.int .u8 0,.int .u8 0,.int .u8 0,.int .u8 0,.int .u8 0,.int .u8 0,.int .u8 0,.int .u8 0,.int .u8 0,.int .u8 0,.int .u8 0,.int .u8 0,.int .u8 0,.int .u8 0,.int .u8 0,.int .u8 0,.int .u8 0,.int .u8 0,.int .u8 0,.int .u8 0,.int .u8 0,.int .u8 0,.int .u8 0,.int .u8 0,.int .u8 0,.int .u8 0,.int .u8 0,.int .u8 0,.int .u8 0,.int .u8 0,.int .u8 0,.int .u8 0,.int .u8 0,.int .u8 0,.int .u8 0,.int .u8 0,.int .u8 0,.int .u8 0,.int .u8 0,.int .u8 0,.int .u8 0,.int .u8 0,.int .u8 0,.int .u8 0,.int .u8 0,.int .u8 0,.int .u8 0,.int .u8 0,.int .u8 0,.int .u8 0,.int .u8 0,.int .u8 0,.int .u8 0,.int .u8 0,.int .u8 0,.int .u8 0,.int .u8 0,.int .u8 0,.int .u8 0,.int .u8 0,.int .u8 0,.int .u8 0,.int .u8 0,.int .u8 0,.int .u8 0,.int .u8 0,.int .u8 0,.int .u8 0,.int .u8 0,.int .u8 0,.int .u8 0,.int .u8 0,.int .u8 0,.int .u8 0,.int .u8 0,.int .u8 0,.int .u8 0,.int .u8 0,.int .u8 0,.int .u8 0,.int .u8 0,.int .u8 0,.int .u8 0,.int .u8 0,.int .u8 0,.int .u8 0,.int .u8 0,.int .u8 0,.int .u8 0,.int .u8 0,.int .u8 0,.int .u8 0,.int .u8 0,.int .u8 0,.int .u8 0,.int .u8 0,.int .u8 0,.int .u8 0,.int .u8 0,.int .u8 0,.int .u8 0,.int .u8 0,.int .u8 0,.int .u8 0,.int .u8 0,.int .u8 0,.int .u8 0,.int .u8 0,.int .u8 0,.int .u8 0,.int .u8 0,.int .u8 0,.int .u8 0,.int .u8 0,.int .u8 0,.int .u8 0,.int .u8 0,.int .u8 0,.int .u8 0,.int .u8 0,.int .u8 0,.int .u8 0,.int .u8 0,.int .u8 0,.int .u8 0,.int .u8 0,.int .u8 0,.int .u8 0,.int .u8 0,.int .u8 0,.int .u8 0,.int .u8 0,.int .u8 0,.int .u8 0,.int .u8 0,.int .u8 0,.int .u8 0,.int .u8 0,.int .u8 0,.int .u8 0,.int .u8 0,.int .u8 0,.int .u8 0,.int .u8 0,.int .u8 0,.int .u8 0,.int .u8 0,.int .u8 0,.int .u8 0,.int .u8 0,.int .u8 0,.int .u8 0,.int .u8 0,.int .u8 0,.int .u8 0,.int .u8 0,.int .u8 0,.int .u8 0,.int .u8 0,.int .u8 0,.int .u8 0,.int .u8 0,.int .u8 0,.int .u8 0,.int .u8 0,.int .u8 0,.int .u8 0,.int .u8 0,.int .u8 0,.int .u8 0,.int .u8 0,.int .u8 0,.int .u8 0,.int .u8 0,.int .u8 0,.int .u8 0,.int .u8 0,.int .u8 0,.int .u8 0,.int .u8 0,.int .u8 0,.int .u8 0,.int .u8 0,.int .u8 0,.int .u8 0,.int .u8 0,.int .u8 0,.int .u8 0,.int .u8 0,.int .u8 0,.int .u8 0,.int .u8 0,.int .u8 0,.int .u8 0,.int .u8 0,.int .u8 0,.int .u8 0,.int .u8 0,.int .u8 0,.int .u8 0,.int .u8 0,.int .u8 0,.int .u8 0,.int .u8 0,.int .u8 0,.int .u8 0,.int .u8 0,.int .u8 0,.int .u8 0,.int .u8 0,.int .u8 0,.int .u8 0,.int .u8 0,.int .u8 0,.int .u8 0,.int .u8 0,.int .u8 0,.int .u8 0,.int .u8 0,.int .u8 0,.int .u8 0,.int .u8 0,.int .u8 0,.int .u8 0],some [.int .u8,.int .u8,.int .u8,.int .u8,.int .u8,.int .u8,.int .u8,.int .u8,.int .u8,.int .u8,.int .u8,.int .u8,.int .u8,.int .u8,.int .u8,.int .u8,.int .u8,.int .u8,.int .u8,.int .u8,.int .u8,.int .u8,.int .u8,.int .u8,.int .u8,.int .u8,.int .u8,.int .u8,.int .u8,.int .u8,.int .u8,.int .u8,.int .u8,.int .u8,.int .u8,.int .u8,.int .u8,.int .u8,.int .u8,.int .u8,.int .u8,.int .u8,.int .u8,.int .u8,.int .u8,.int .u8,.int .u8,.int .u8,.int .u8,.int .u8,.int .u8,.int .u8,.int .u8,.int .u8,.int .u8,.int .u8,.int .u8,.int .u8,.int .u8,.int .u8,.int .u8,.int .u8,.int .u8,.int .u8,.int .u8,.int .u8,.int .u8,.int .u8,.int .u8,.int .u8,.int .u8,.int .u8,.int .u8,.int .u8,.int .u8,.int .u8,.int .u8,.int .u8,.int .u8,.int .u8,.int .u8,.int .u8,.int .u8,.int .u8,.int .u8,.int .u8,.int .u8,.int .u8,.int .u8,.int .u8,.int .u8,.int .u8,.int .u8,.int .u8,.int .u8,.int .u8,.int .u8,.int .u8,.int .u8,.int .u8,.int .u8,.int .u8,.int .u8,.int .u8,.int .u8,.int .u8,.int .u8,.int .u8,.int .u8,.int .u8,.int .u8,.int .u8,.int .u8,.int .u8,.int .u8,.int .u8,.int .u8,.int .u8,.int .u8,.int .u8,.int .u8,.int .u8,.int .u8,.int .u8,.int .u8,.int .u8,.int .u8,.int .u8,.int .u8,.int .u8,.int .u8,.int .u8,.int .u8,.int .u8,.int .u8,.int .u8,.int .u8,.int .u8,.int .u8,.int .u8,.int .u8,.int .u8,.int .u8,.int .u8,.int .u8,.int .u8,.int .u8,.int .u8,.int .u8,.int .u8,.int .u8,.int .u8,.int .u8,.int .u8,.int .u8,.int .u8,.int .u8,.int .u8,.int .u8,.int .u8,.int .u8,.int .u8,.int .u8,.int .u8,.int .u8,.int .u8,.int .u8,.int .u8,.int .u8,.int .u8,.int .u8,.int .u8,.int .u8,.int .u8,.int .u8,.int .u8,.int .u8,.int .u8,.int .u8,.int .u8,.int .u8,.int .u8,.int .u8,.int .u8,.int .u8,.int .u8,.int .u8,.int .u8,.int .u8,.int .u8,.int .u8,.int .u8,.int .u8,.int .u8,.int .u8,.int .u8,.int .u8,.int .u8,.int .u8,.int .u8,.int .u8,.int .u8,.int .u8,.int .u8,.int .u8,.int .u8,.int .u8,.int .u8,.int .u8,.int .u8,.int .u8,.int .u8,.int .u8,.int .u8,.int .u8,.int .u8,.int .u8,.int .u8,.int .u8,.int .u8,.int .u8,.int .u8,.int .u8,.int .u8,.int .u8,.int .u8,.int .u8,.int .u8,.int .u8,.int .u8,.int .u8,.int .u8,.int .u8,.int .u8,.int .u8,.int .u8,.int .u8,.int .u8,.int .u8,.int .u8,.int .u8,.int .u8,.int .u8,.int .u8,.int .u8,.int .u8,.int .u8,.int .u8,.int .u8,.int .u8,.int .u8,.int .u8,.int .u8,.int .u8,.int .u8,.int .u8],false⟩),
  (137,⟨1,24,.slice 4,some [.slice none 0 0],none,true⟩),
  (139,⟨3,72,.struct [(0,37),(1,37),(2,137)],some [.slice none 0 0,.slice none 0 0,.slice none 0 0],none,false⟩),
  (141,⟨1,24,.slice 37,some [.slice none 0 0],none,true⟩),
  (148,⟨1,8,.map 3 3,some [.map none],none,true⟩),
  (154,⟨1,24,.slice 156,some [.slice none 0 0],none,true⟩),
  (156,⟨2,16,.struct [(0,3),(1,3)],some [.int .i64 0,.int .i64 0],some [.int .i64,.int .i64],false⟩),
  (165,⟨1,24,.struct [(0,37)],some [.slice none 0 0],none,false⟩),
  (168,⟨1,24,.slice 175,some [.slice none 0 0],none,true⟩),
  (170,⟨1,24,.struct [(0,168)],some [.slice none 0 0],none,false⟩),
  (172,⟨10,176,.struct [(0,37),(1,37),(2,3),(3,139),(6,170),(7,3),(8,3),(9,3)],some [.slice none 0 0,.slice none 0 0,.int .i64 0,.slice none 0 0,.slice none 0 0,.slice none 0 0,.slice none 0 0,.int .i64 0,.int .i64 0,.int .i64 0],none,false⟩),
  (175,⟨3,24,.struct [(0,3),(1,3),(2,4)],some [.int .i64 0,.int .i64 0,.bool false],some [.int .i64,.int .i64,.bool],false⟩),
  (179,⟨1,24,.slice 59,some [.slice none 0 0],none,true⟩),
  (182,⟨7,104,.struct [(0,37),(1,37),(2,3),(3,3),(4,3),(5,3),(6,179)],some [.slice none 0 0,.slice none 0 0,.int .i64 0,.int .i64 0,.int .i64 0,.int .i64 0,.slice none 0 0],none,false⟩),
  (183,⟨1,8,.other,some [.nilFunc],none,true⟩),
  (184,⟨1,24,.slice 183,some [.slice none 0 0],none,true⟩),
  (186,⟨2,32,.struct [(0,37),(1,3)],some [.slice none 0 0,.int .i64 0],none,false⟩),
  (187,⟨1,8,.other,some [.nilFunc],none,true⟩),
  (188,⟨1,24,.slice 187,some [.slice none 0 0],none,true⟩),
  (193,⟨1,8,.int .u64,some [.int .u64 0],none,true⟩),
  (196,⟨1,8,.int .u64,some [.int .u64 0],none,true⟩),
  (221,⟨1,24,.slice 5,some [.slice none 0 0],none,true⟩)]
theorem Z1u:Qo Tryz.prog tt0:=Qo.of _ _ (by kernel_rfl)
theorem hPm:Tryz.prog.follows .mixedOrders=true:=by kernel_rfl

theorem ext2 {P:Program} {f:FuncId} {fn:Func} {e:Array Value→Sem Value} (hf:P.funcs[f]? = some fn) (hname:(fn.name == "runtime.NumGoroutine")=false) (hb:fn.body.isNone=true) (hn:Extern.findNext fn=none) (he:Extern.find fn=some e)
    {a b d:Value} (hr : ∀ w,(e #[a,b]).run P w = .ok d w):Z5b P f [.v a,.v b] (.v d):=by
  intro w I c vs hl ha
  match vs,hl with
  | [x,y],_ =>
    obtain ⟨y0,h0,r0⟩:=ha 0 _ rfl
    obtain ⟨y1,h1,r1⟩:=ha 1 _ rfl
    have r0:y0=a:=r0
    have r1:y1=b:=r1
    have h0:x=y0:=by simpa using h0
    have h1:y=y1:=by simpa using h1
    rw [h0,h1,r0,r1]
    refine ⟨d,?_,rfl⟩
    show (callFunc f #[a,b]).run P w=_
    rw [run_callFunc_extern hf hname hb hn he,hr];rfl
theorem Z63 (s:ByteArray) (c:Int) (r:Int) (h:Z41 s c=some r):Z5b Tryz.prog 141 [.v (.string s),.v (.int .u8 c)] (.v (.int .i64 r)):=by
  cases h
  exact ext2 Tryz.func141 (by kernel_rfl) (by kernel_rfl) (by kernel_rfl) (e:=Extern.BytealgCount.count) (by kernel_rfl) (fun w=>Lib.run_countString s c w)
theorem Z4l (s:ByteArray) (c:Int) (r:Int) (h:Z1y s c=some r):Z5b Tryz.prog 173 [.v (.string s),.v (.int .u8 c)] (.v (.int .i64 r)):=by
  cases h
  exact ext2 Tryz.func173 (by kernel_rfl) (by kernel_rfl) (by kernel_rfl) (e:=Extern.BytealgIndexByte.indexByte) (by kernel_rfl) (fun w=>Lib.run_indexByteString s c w)

/-! Closing tactics. -/
theorem Wy {p:Prop} (h:p:=by first | with_reducible rfl | with_reducible assumption | (symm;with_reducible assumption) | ((try dsimp only [X4,Z0e,nvS])<;>first | with_reducible rfl | omega | (simp (disch:=first | omega | with_reducible exact Zc _ | (simp only [Zq,Zf,Zh,Zo]<;>omega)) only [Ym,Zq,Zf,Zh,Zo,Y3,Ye,Xj,Int.ofNat_eq_natCast,Int.zero_add,Int.sub_zero]<;>first | done | omega | with_reducible assumption | rfl | fail)) | rfl | assumption | (symm;assumption) | fail):p:=h
theorem Wf {p:Prop} (h:p:=by
  (try dsimp only)<;>repeat' first
  | exact trivial
  | with_reducible refine And.intro ?_ ?_
  | with_reducible rfl
  | with_reducible assumption
  | (simp (disch:=first | omega | with_reducible exact Zc _ | (simp only [Zq,Zf,Zh,Zo]<;>omega)) only [Ym,Zq,Zf,Zh,Zo,Y3,Ye,Xj,Int.ofNat_eq_natCast,Int.zero_add,Int.sub_zero]<;>first | done | with_reducible assumption | omega | rfl | fail)
  | omega
  | rfl
  | fail):p:=h
theorem Wm {p:Prop} (h:p:=by (try dsimp only [X4,Z0e,nvS])<;>first | omega | (simp (disch:=first | omega | with_reducible exact Zc _ | (simp only [Zq,Zf,Zh,Zo]<;>omega)) only [Ym,Zq,Zf,Zh,Zo,Y3,Ye,Xj,Int.ofNat_eq_natCast,Int.zero_add,Int.sub_zero]<;>omega)):p:=h
theorem Woc {p:Prop} (h:p:=by first | exact Zt _ _ | (intro i j;first | exact Zt _ _ | exact Z3h _ | exact out0_str _ | exact Y0 (fun i j=>Zt _ _) | exact Y0 (fun i j=>Z3h _) | exact Y0 (fun i j=>out0_str _) | exact Z5j _ _ | exact Z08 _ _ | exact Z5k _ _ | exact Z47 _ _ | exact Z61 _ _ | exact out_ucd_Data _ _ | exact out_api_Pen _ _ | exact Z62 _ _ | exact Z48 _ _ | exact Z6x _ _ | exact Z89 _ _ | exact Z3m _ _ | exact Z1d _ _ | exact Z54 _ _ | exact Z8a _ _ | exact Z55 _ _ | exact Z8b _ _ | exact Z8c _ _ | exact Z4k _ _ | exact Z6y _ _ | exact Z8d _ _ | exact Z6z _ _ | exact Z28 _ _ | exact Z2x _ _ | exact Y0 (fun i j=>Z5j _ _) | exact Y0 (fun i j=>Z08 _ _) | exact Y0 (fun i j=>Z5k _ _) | exact Y0 (fun i j=>Z47 _ _) | exact Y0 (fun i j=>Z61 _ _) | exact Y0 (fun i j=>out_ucd_Data _ _) | exact Y0 (fun i j=>out_api_Pen _ _) | exact Y0 (fun i j=>Z62 _ _) | exact Y0 (fun i j=>Z48 _ _) | exact Y0 (fun i j=>Z6x _ _) | exact Y0 (fun i j=>Z89 _ _) | exact Y0 (fun i j=>Z3m _ _) | exact Y0 (fun i j=>Z1d _ _) | exact Y0 (fun i j=>Z54 _ _) | exact Y0 (fun i j=>Z8a _ _) | exact Y0 (fun i j=>Z55 _ _) | exact Y0 (fun i j=>Z8b _ _) | exact Y0 (fun i j=>Z8c _ _) | exact Y0 (fun i j=>Z4k _ _) | exact Y0 (fun i j=>Z6y _ _) | exact Y0 (fun i j=>Z8d _ _) | exact Y0 (fun i j=>Z6z _ _) | exact Y0 (fun i j=>Z28 _ _) | exact Y0 (fun i j=>Z2x _ _) | trivial | fail) | fail):p:=h
theorem agg0 {p:Nat→Prop} : ∀ j,j < 0→p j:=fun j h=>absurd h (Nat.not_lt_zero j)
theorem aggS {p:Nat→Prop} {n:Nat} (h0:p 0) (h : ∀ j,j < n→p (j+1)) : ∀ j,j < n+1→p j
  | 0,_=>h0
  | j+1,hj=>h j (Nat.lt_of_succ_lt_succ hj)
theorem Wpj {p:Prop} (h:p:=by (conv=>lhs;whnf)<;>(conv=>rhs;whnf)<;>(try dsimp only [X4,Z0e,nvS])<;>(first | rfl | (simp (disch:=first | omega | with_reducible exact Zc _ | (simp only [Zq,Zf,Zh,Zo]<;>omega)) only [getL_bytes,Zk,Yi,Z3u,Z0r,Ye,addSubL,getL_cpy,Int.zero_add,Int.sub_zero,beq_iff_eq,decide_eq_true_eq,Bool.and_eq_true]<;>first | rfl | (split<;>first | rfl | (simp (disch:=first | omega | with_reducible exact Zc _ | (simp only [Zq,Zf,Zh,Zo]<;>omega)) only [Q0,Q3]<;>rfl)) | (simp (disch:=omega) only [Q0,Q3]<;>rfl) | ((simp only [Zf,Zh,Zo,Int.ofNat_eq_natCast])<;>(repeat' split)<;>first | rfl | (exfalso;omega) | (simp (disch:=omega) only [Q0,Q3]<;>rfl) | (congr 3;omega) | fail)) | fail)):p:=h
theorem Wp {p:Prop} (h:p:=by
  intro i i0 i1
  first
  | (exfalso;revert i1;show i < (0:Int)→False;omega)
  | ((try dsimp only [X4,Z0e,nvS] at i1);(try simp only [Int.ofNat_eq_natCast,Zf,Zh,Zo,Zq,Ym] at i1);(try simp (disch:=first | omega | with_reducible exact Zc _ | (simp only [Zq,Zf,Zh,Zo]<;>omega)) only [Ye,Y3,Xj,Int.zero_add,Int.sub_zero] at i1)
     first
     | (repeat' first | exact agg0 | refine aggS ?_ ?_ | exact Wpj | fail
        first | done | fail)
     | ((first | (obtain rfl:i=0:=(by omega)) | (rcases (show i=0∨i=1 by omega) with rfl | rfl) | (rcases (show i=0∨i=1∨i=2 by omega) with rfl | rfl | rfl) | (rcases (show i=0∨i=1∨i=2∨i=3 by omega) with rfl | rfl | rfl | rfl) | (rcases (show i=0∨i=1∨i=2∨i=3∨i=4 by omega) with rfl | rfl | rfl | rfl | rfl) | (rcases (show i=0∨i=1∨i=2∨i=3∨i=4∨i=5 by omega) with rfl | rfl | rfl | rfl | rfl | rfl) | (rcases (show i=0∨i=1∨i=2∨i=3∨i=4∨i=5∨i=6 by omega) with rfl | rfl | rfl | rfl | rfl | rfl | rfl) | (rcases (show i=0∨i=1∨i=2∨i=3∨i=4∨i=5∨i=6∨i=7 by omega) with rfl | rfl | rfl | rfl | rfl | rfl | rfl | rfl)) <;>
        (repeat' first | exact agg0 | refine aggS ?_ ?_ | exact rfl | fail)<;>first | done | fail)
     | fail)
  | fail):p:=h
theorem Wsk {p:Prop} (h:p:=by
  repeat' first
  | exact trivial
  | exact agg0
  | refine aggS ?_ ?_
  | refine And.intro rfl ?_
  | exact rfl
  | intro i
  | fail
  first | done | fail):p:=h
theorem Wpx {p:Prop} (h:p:=by
  intro hb
  (try dsimp only [X4,Z0e,nvS] at hb)
  (try simp only [Int.zero_add] at hb)
  (try simp only [nv_get])
  (try simp (disch:=first | omega | with_reducible exact Zc _ | (simp only [Zq,Zf,Zh,Zo]<;>omega)) only [Zk,Yi,Z3u,Z0r,getL_cpy,Zf,Zh,Zo,Zq,Int.zero_add,if_pos hb,if_neg hb,Q0])
  first | exact Wd | exact Wpc | fail):p:=h
theorem Wpc {p:Prop} (h:p:=by
  repeat' first
  | exact agg0
  | refine aggS ?_ ?_
  | exact LeD.of Wpj
  | exact LeD.nil (by (try dsimp only [X4,Z0e,nvS]);simp (disch:=first | omega | with_reducible exact Zc _ | (simp only [Zq,Zf,Zh,Zo]<;>omega)) only [Z3u];rfl)
  | ((with_reducible refine put_in ?_ ?_ ?_ ?_);(focus exact rfl);(focus exact Wsk);(focus exact Wpx);(focus exact Wpx))
  | ((with_reducible refine put_out ?_ ?_);(focus exact rfl))
  | ((with_reducible refine cat_in ?_ ?_ ?_);(focus exact Wsk);(focus exact Wpx);(focus exact Wpx))
  | exact Wd
  | fail
  first | done | fail):p:=h
theorem Wpd {p:Prop} (h:p:=by
  intro i i0 i1
  (try dsimp only [X4,Z0e,nvS] at i1);(try simp only [Int.ofNat_eq_natCast,Zf,Zh,Zo,Zq,Ym] at i1);(try simp (disch:=first | omega | with_reducible exact Zc _ | (simp only [Zq,Zf,Zh,Zo]<;>omega)) only [Ye,Y3,Xj,Int.zero_add,Int.sub_zero] at i1)
  first | exact Wpc | fail):p:=h
theorem Wpe {p:Prop} (h:p:=by
  intro i i0 i1
  (try dsimp only [X4,Z0e,nvS] at i1);(try simp only [Int.ofNat_eq_natCast,Zf,Zh,Zo,Zq,Ym] at i1)
  (first | (obtain rfl:i=0:=(by omega)) | (rcases (show i=0∨i=1 by omega) with rfl | rfl) | (rcases (show i=0∨i=1∨i=2 by omega) with rfl | rfl | rfl) | (rcases (show i=0∨i=1∨i=2∨i=3 by omega) with rfl | rfl | rfl | rfl) | (rcases (show i=0∨i=1∨i=2∨i=3∨i=4 by omega) with rfl | rfl | rfl | rfl | rfl) | (rcases (show i=0∨i=1∨i=2∨i=3∨i=4∨i=5 by omega) with rfl | rfl | rfl | rfl | rfl | rfl) | (rcases (show i=0∨i=1∨i=2∨i=3∨i=4∨i=5∨i=6 by omega) with rfl | rfl | rfl | rfl | rfl | rfl | rfl) | (rcases (show i=0∨i=1∨i=2∨i=3∨i=4∨i=5∨i=6∨i=7 by omega) with rfl | rfl | rfl | rfl | rfl | rfl | rfl | rfl))<;>(repeat' first | exact agg0 | refine aggS ?_ ?_ | exact Wd | fail)
  first | done | fail):p:=h
theorem Wd {p:Prop} (h:p:=by
  repeat' first
  | exact LeD.refl _
  | exact LeD.junk _
  | exact LeD.nil rfl
  | exact LeD.vec rfl Wy
  | exact LeD.slF Wy Wp
  | exact LeD.sl Wy Wpe
  | exact Qh.refl _
  | exact Qh.arrF Wy Wp
  | exact Qh.arrG Wy Wpd
  | refine Qh.box ?_
  | exact trivial
  | exact agg0
  | refine aggS ?_ ?_
  | refine LeD.agg ?_
  | exact LeD.imm (fun _=>Wd)
  | refine LeD.fn ?_
  | refine LeD.cndT rfl ?_
  | refine LeD.cndF rfl ?_
  | exact LeD.win (by decide) Wd
  | refine And.intro ?_ ?_
  | fail
  first | done | fail):p:=h
theorem Wks {p:Prop} (h:p:=by
  repeat' first
  | exact trivial
  | refine And.intro (Exists.intro _ (And.intro rfl Wd)) ?_
  | fail
  first | done | fail):p:=h
theorem Wos {p:Prop} (h:p:=by
  repeat' first | exact trivial | refine And.intro rfl ?_ | fail
  first | done | fail):p:=h
theorem Wlt {p:Prop} (h:p:=by show (_:Nat) < _;(try dsimp only [X4,Z0e]);first | omega | exact Nat.lt_of_lt_of_le (by apply_assumption) (by omega) | fail):p:=h
theorem Wle {p:Prop} (h:p:=by first | exact Nat.le_refl _ | (refine leC ?_;(try dsimp only [X4,Z0e]);omega) | fail):p:=h
theorem Yr {p:Prop} (h:p:=by first | exact lay_of rfl Wos Wle Wf rfl rfl Wks Wks | fail):p:=h
theorem Wt {c:Prop} [Decidable c] {a b:Prop} (x:a) (h:c:=by exact rfl):if c then a else b:=by rw [if_pos h];exact x
theorem We {c:Prop} [Decidable c] {a b:Prop} (x:b) (h : ¬ c:=by decide):if c then a else b:=by rw [if_neg h];exact x
theorem Wcl {p:Prop} (h:p:=by first
  | exact trivial
  | (intro i _ _
     repeat' first | exact agg0 | refine aggS ?_ ?_ | exact Wcl | fail
     first | done | fail)
  | fail):p:=h
theorem WoN {a b:Nat} (h:a=b):(std Tryz.prog).eqN a b:=h
theorem WoE {a b:Int} (h:a=b):(std Tryz.prog).eqI a b:=h
theorem WoB {a b:Bool} (h:a=b):(std Tryz.prog).eqB a b:=h
theorem WoD {a:Array Oper} {b:List (Nat × Nat)} {c:List (Option Nat)} (h:drOk a b c=true):(std Tryz.prog).dr a b c:=h
theorem WoA {n:Int} {k:Nat} {f:Int→Nat→Prop} (h : ∀ i:Int,0≤i→i < n→∀ j,j < k→f i j):(std Tryz.prog).all2 n k f:=h
theorem WoT {b:Bool} (h:b=true):(std Tryz.prog).tru b:=h
theorem WoI {b:Bool} {p:Prop} (h:b=true→p):(std Tryz.prog).imp b p:=h
theorem WoK {f:FuncId} {a:List D} {d:D} (h:Ze Tryz.prog f a d∨Z5b Tryz.prog f a d):(std Tryz.prog).ok f a d:=h
theorem WoV {f:FuncId} {a:List D} {d:D} (h:Ze Tryz.prog f a d):(std Tryz.prog).okv f a d:=h
theorem WoL {f:FuncId} {a:List D} {b c:List Ob} {d:D} (h:X3 Tryz.prog f a b c d):(std Tryz.prog).lent f a b c d:=h
theorem Wol1 {a b:Nat} (h:a < b):(std Tryz.prog).ltN a b:=h
theorem Wtr {p:Prop} (h:p:=by first
  | with_reducible assumption
  | ((try dsimp only [X4,Z0e])<;>first | with_reducible rfl | with_reducible assumption | ((try clear h);grind) | fail)
  | fail):p:=h
theorem Wok {p:Prop} (h:p:=by first
  | exact Or.inl (Ze.arg (by assumption) Wd)
  | exact Or.inr (Z5b.arg (by assumption) Wd)
  | exact Or.inl (Ze.arg (Ze.sl (by assumption)) Wd)
  | exact Or.inl (Ze.arg (by apply_assumption;assumption) Wd)
  | exact Or.inl (Ze.arg (Ze.sl (by apply_assumption;assumption)) Wd)
  | fail):p:=h
theorem Wob {p:Prop} (h:p:=by first
  | ((with_reducible refine WoN ?_);exact rfl)
  | exact trivial
  | ((with_reducible refine WoT ?_);exact Wtr)
  | ((with_reducible refine WoI ?_);intro hg;first | exact Bool.noConfusion hg | ((try dsimp only [X4,Z0e] at hg);exact Wob) | fail)
  | ((with_reducible refine WoK ?_);exact Wok)
  | ((with_reducible refine WoL ?_);exact X3.arg (by assumption) Wd)
  | ((with_reducible refine WoV ?_);first | exact Ze.arg (by assumption) Wd | exact Ze.arg (by apply_assumption;assumption) Wd | fail)
  | ((with_reducible refine WoA ?_);exact Wcl)
  | ((with_reducible refine WoD ?_);kernel_rfl)
  | ((with_reducible refine Wol1 ?_);exact Wlt)
  | ((with_reducible refine WoE ?_);exact Wy)
  | ((with_reducible refine WoB ?_);exact rfl)
  | ((with_reducible refine And.intro ?_ ?_);(focus exact Wob);(focus exact Wob))
  | (dsimp only [X4,Z0e];first | with_reducible assumption | omega | fail)
  | exact Wcl
  | assumption
  | fail):p:=h
theorem WoS {a b:ByteArray} (h:a=b):(std Tryz.prog).eqS a b:=h
theorem WoC {o m n:Int} (h0:0≤o) (h1:0≤m) (h2:o+m≤n):(std Tryz.prog).cut o ((std Tryz.prog).add o m) n:=cut_end h0 h1 h2
theorem WrA {p:Prop} (h:p:=by first
  | (intro i _ _
     repeat' first | exact agg0 | refine aggS ?_ ?_ | exact Wrt | fail
     first | done | fail)
  | fail):p:=h
theorem Wrt {p:Prop} (h:p:=by
  (try (generalize hp:std Tryz.prog=p;generalize hv:nvS=nv;cbv;subst hp hv))
  repeat' first
  | with_reducible refine And.intro ?_ ?_
  | exact trivial
  | ((with_reducible refine WoN ?_);(try subst he);exact rfl)
  | ((with_reducible refine WoE ?_);(try subst he);exact Wy)
  | ((with_reducible refine WoB ?_);(try subst he);exact rfl)
  | ((with_reducible refine WoS ?_);(try subst he);exact rfl)
  | ((with_reducible refine WoI ?_);exact (fun h=>Bool.noConfusion h))
  | ((with_reducible refine out0_all ?_ ?_);(focus exact Woc);(try subst he);(focus exact Wp))
  | ((with_reducible refine WoA ?_);exact WrA)
  | ((with_reducible refine WoC ?_ ?_ ?_);(focus ((try subst he);exact Wm));(focus exact Zc _);(focus ((try subst he);exact Wm)))
  | ((try subst he);exact rfl)
  | exact Woc
  | fail
  first | done | fail):p:=h
theorem Wret {p:Prop} (h:p:=by
  (try dsimp only [noGoto,Z5r,Z50])
  repeat (first | refine Wt ?_ | refine We ?_)
  first
  | exact retQ_ret rfl Wos Wrt
  | exact retQ_normal rfl Wos Wrt
  | exact lentQ_r rfl Wos Wrt Wrt
  | exact lentQ_n rfl Wos Wrt Wrt
  | fail):p:=h
theorem Wlv {p:Prop} (h:p:=by first
  | exact Wret
  | (cases he;first | (show LayP _ _ _ _ _ _ _ _;exact Yr) | ((try dsimp only [noGoto,Z5r,Z50]);(repeat (first | refine Wt ?_ | refine We ?_));intro (he:_=_);exact Wlv) | fail)
  | fail):p:=h
theorem Wend {p:Prop} (h:p:=by
  first
  | (cases h;done)
  | (have he:=Option.some.inj h;clear h;exact Wlv)
  | fail):p:=h
theorem Wb {β:Type} {c d:Bool} {x y:Option β} {r:β} {A B:Prop} (h:Z7 c x y=some r) (e:c=d) (ht:c=true→x=some r→A) (hf:c=false→y=some r→B):(std Tryz.prog).ifb d A B :=
  ⟨fun hc=>ht (e.trans hc) (iteO_t h (e.trans hc)),fun hc=>hf (e.trans hc) (iteO_f h (e.trans hc))⟩
section
variable {β:Type} {k:Option β} {r:β} {G:Prop}
theorem Z56 {c C G:Prop} [Decidable c] (h:chk c k=some r) (f:c→C) (g:c→k=some r→G):C∧G:=⟨f (X9 h).1,g (X9 h).1 (X9 h).2⟩
theorem WsI {i n i' n':Int} (h:chk (0≤i∧i < n) k=some r) (ei:i=i') (en:n=n') (g:0≤i∧i < n→k=some r→G):(std Tryz.prog).inb i' n'∧G:=by
  subst ei;subst en;exact Z56 h (fun q=>q) fun q=>g q
theorem WgI {b d:Bool} {i n i' n':Int} (h:chk (b=true→0≤i∧i < n) k=some r) (eb:b=d) (ei:i=i') (en:n=n') (g:(b=true→0≤i∧i < n)→k=some r→G):(std Tryz.prog).imp d ((std Tryz.prog).inb i' n')∧G:=by
  subst eb;subst ei;subst en;exact Z56 h (fun q=>q) g
theorem WsR {K:IntKind} {x x':Int} (h:chk (inR K x) k=some r) (ex:x=x') (g:inR K x→k=some r→G):(std Tryz.prog).rng K x'∧G:=by
  subst ex;exact Z56 h (fun q=>q) fun q=>g q
theorem WgR {K:IntKind} {b d:Bool} {x x':Int} (h:chk (b=true→inR K x) k=some r) (eb:b=d) (ex:x=x') (g:(b=true→inR K x)→k=some r→G):(std Tryz.prog).imp d ((std Tryz.prog).rng K x')∧G:=by
  subst eb;subst ex;exact Z56 h (fun q=>q) g
theorem WsC {l m n l' m' n':Int} (h:chk (0≤l∧l≤m∧m≤n) k=some r) (el:l=l') (em:m=m') (en:n=n') (g:0≤l∧l≤m∧m≤n→k=some r→G):(std Tryz.prog).cut l' m' n'∧G:=by
  subst el;subst em;subst en;exact Z56 h (fun q=>q) fun q=>g q
theorem WgC {b d:Bool} {l m n l' m' n':Int} (h:chk (b=true→0≤l∧l≤m∧m≤n) k=some r) (eb:b=d) (el:l=l') (em:m=m') (en:n=n') (g:(b=true→0≤l∧l≤m∧m≤n)→k=some r→G):(std Tryz.prog).imp d ((std Tryz.prog).cut l' m' n')∧G:=by
  subst eb;subst el;subst em;subst en;exact Z56 h (fun q=>q) g
theorem WsG {B:Nat} {x x':Int} (h:chk (Yt B x) k=some r) (ex:x=x') (g:Yt B x→k=some r→G):(std Tryz.prog).grow B x'∧G:=by
  subst ex;exact Z56 h (fun q=>q) fun q=>g q
theorem WgG {B:Nat} {b d:Bool} {x x':Int} (h:chk (b=true→Yt B x) k=some r) (eb:b=d) (ex:x=x') (g:(b=true→Yt B x)→k=some r→G):(std Tryz.prog).imp d ((std Tryz.prog).grow B x')∧G:=by
  subst eb;subst ex;exact Z56 h (fun q=>q) g
theorem WsM {B:Nat} {l m l' m':Int} (h:chk (Q1 B l m) k=some r) (el:l=l') (em:m=m') (g:Q1 B l m∧0≤l∧l≤m→k=some r→G):(std Tryz.prog).make B l' m'∧G:=by
  subst el;subst em;exact Z56 h (fun q=>q) fun q=>g ⟨q,q.1,q.2.1⟩
theorem WgM {B:Nat} {b d:Bool} {l m l' m':Int} (h:chk (b=true→Q1 B l m) k=some r) (eb:b=d) (el:l=l') (em:m=m') (g:(b=true→Q1 B l m)→k=some r→G):(std Tryz.prog).imp d ((std Tryz.prog).make B l' m')∧G:=by
  subst eb;subst el;subst em;exact Z56 h (fun q=>q) g
theorem WsN {x x':Int} (h:chk (x≠0) k=some r) (ex:x=x') (g:x≠0→k=some r→G):(std Tryz.prog).ne0 x'∧G:=by
  subst ex;exact Z56 h (fun q=>q) fun q=>g q
theorem WgN {b d:Bool} {x x':Int} (h:chk (b=true→x≠0) k=some r) (eb:b=d) (ex:x=x') (g:(b=true→x≠0)→k=some r→G):(std Tryz.prog).imp d ((std Tryz.prog).ne0 x')∧G:=by
  subst eb;subst ex;exact Z56 h (fun q=>q) g
theorem WsZ {x x':Int} (h:chk ((0:Int)≤x) k=some r) (ex:x=x') (g:(0:Int)≤x→k=some r→G):(std Tryz.prog).ge0 x'∧G:=by
  subst ex;exact Z56 h (fun q=>q) fun q=>g q
theorem WgZ {b d:Bool} {x x':Int} (h:chk (b=true→(0:Int)≤x) k=some r) (eb:b=d) (ex:x=x') (g:(b=true→(0:Int)≤x)→k=some r→G):(std Tryz.prog).imp d ((std Tryz.prog).ge0 x')∧G:=by
  subst eb;subst ex;exact Z56 h (fun q=>q) g
end
theorem Wbt {A B:Prop} (h:A):(std Tryz.prog).ifb true A B:=⟨fun _=>h,fun h=>Bool.noConfusion h⟩
theorem Wbf {A B:Prop} (h:B):(std Tryz.prog).ifb false A B:=⟨fun h=>Bool.noConfusion h,fun _=>h⟩
theorem Wct {A B:Prop} {d:Bool} (e:d=true) (h:A):(std Tryz.prog).ifb d A B:=⟨fun _=>h,fun h=>absurd (e.symm.trans h) (by decide)⟩
theorem Wcf {A B:Prop} {d:Bool} (e:d=false) (h:B):(std Tryz.prog).ifb d A B:=⟨fun h=>absurd (e.symm.trans h) (by decide),fun _=>h⟩
theorem Wz {p:Prop} (h:p:=by
  intro N hN
  generalize hp:std Tryz.prog=p;generalize hv:nvS=nv;cbv;subst hp hv
  repeat' first
  | ((with_reducible refine Wb h ?_ ?_ ?_);(focus exact rfl);all_goals (clear h;intro hx h))
  | ((with_reducible refine WsI h ?_ ?_ ?_);(focus exact rfl);(focus exact rfl);(clear h;intro hx h);(try (have hx:=hx;simp only [Int.zero_add] at hx)))
  | ((with_reducible refine WsR h ?_ ?_);(focus exact rfl);(clear h;intro hx h))
  | ((with_reducible refine WsC h ?_ ?_ ?_ ?_);(focus exact rfl);(focus exact rfl);(focus exact rfl);(clear h;intro hx h);(try (have hx:=hx;simp only [Int.zero_add] at hx)))
  | ((with_reducible refine WsG h ?_ ?_);(focus exact rfl);(clear h;intro hx h))
  | ((with_reducible refine WsM h ?_ ?_ ?_);(focus exact rfl);(focus exact rfl);(clear h;intro hx h))
  | ((with_reducible refine WsN h ?_ ?_);(focus exact rfl);(clear h;intro hx h))
  | ((with_reducible refine WsZ h ?_ ?_);(focus exact rfl);(clear h;intro hx h))
  | ((with_reducible refine WgI h ?_ ?_ ?_ ?_);(focus exact rfl);(focus exact rfl);(focus exact rfl);(clear h;intro hx h))
  | ((with_reducible refine WgR h ?_ ?_ ?_);(focus exact rfl);(focus exact rfl);(clear h;intro hx h))
  | ((with_reducible refine WgC h ?_ ?_ ?_ ?_ ?_);(focus exact rfl);(focus exact rfl);(focus exact rfl);(focus exact rfl);(clear h;intro hx h))
  | ((with_reducible refine WgG h ?_ ?_ ?_);(focus exact rfl);(focus exact rfl);(clear h;intro hx h))
  | ((with_reducible refine WgM h ?_ ?_ ?_ ?_);(focus exact rfl);(focus exact rfl);(focus exact rfl);(clear h;intro hx h))
  | ((with_reducible refine WgN h ?_ ?_ ?_);(focus exact rfl);(focus exact rfl);(clear h;intro hx h))
  | ((with_reducible refine WgZ h ?_ ?_ ?_);(focus exact rfl);(focus exact rfl);(clear h;intro hx h))
  | (refine Wbn h (by with_reducible assumption) ?_;clear h;intro hx hx h;(try dsimp only at h))
  | with_reducible refine Wbt ?_
  | with_reducible refine Wbf ?_
  | ((with_reducible refine Wct ?_ ?_);(focus exact rfl))
  | ((with_reducible refine Wcf ?_ ?_);(focus exact rfl))
  | ((with_reducible refine And.intro ?_ ?_);(focus exact Wob))
  | (have hx:=(X9 h).1;replace h:=(X9 h).2;(try (have hx:Z0 _=Z0 _:=hx;simp (disch:=first | omega | with_reducible exact imax1_nn _) only [Y3] at hx)))
  | (subst hN;exact Wend)
  | fail
  first | done | fail):p:=h
theorem Wq {G G':Prop} (k:G') (h:Kp G'→G:=by
  intro k h
  intro N hN
  generalize hp:std Tryz.prog=p;generalize hv:nvS=nv;cbv;subst hp hv
  repeat' first
  | ((with_reducible refine Wb h ?_ ?_ ?_);(focus exact rfl);all_goals (clear h;intro hx h))
  | ((with_reducible refine WsI h ?_ ?_ ?_);(focus exact rfl);(focus exact rfl);(clear h;intro hx h);(try (have hx:=hx;simp only [Int.zero_add] at hx)))
  | ((with_reducible refine WsR h ?_ ?_);(focus exact rfl);(clear h;intro hx h))
  | ((with_reducible refine WsC h ?_ ?_ ?_ ?_);(focus exact rfl);(focus exact rfl);(focus exact rfl);(clear h;intro hx h);(try (have hx:=hx;simp only [Int.zero_add] at hx)))
  | ((with_reducible refine WsG h ?_ ?_);(focus exact rfl);(clear h;intro hx h))
  | ((with_reducible refine WsM h ?_ ?_ ?_);(focus exact rfl);(focus exact rfl);(clear h;intro hx h))
  | ((with_reducible refine WsN h ?_ ?_);(focus exact rfl);(clear h;intro hx h))
  | ((with_reducible refine WsZ h ?_ ?_);(focus exact rfl);(clear h;intro hx h))
  | ((with_reducible refine WgI h ?_ ?_ ?_ ?_);(focus exact rfl);(focus exact rfl);(focus exact rfl);(clear h;intro hx h))
  | ((with_reducible refine WgR h ?_ ?_ ?_);(focus exact rfl);(focus exact rfl);(clear h;intro hx h))
  | ((with_reducible refine WgC h ?_ ?_ ?_ ?_ ?_);(focus exact rfl);(focus exact rfl);(focus exact rfl);(focus exact rfl);(clear h;intro hx h))
  | ((with_reducible refine WgG h ?_ ?_ ?_);(focus exact rfl);(focus exact rfl);(clear h;intro hx h))
  | ((with_reducible refine WgM h ?_ ?_ ?_ ?_);(focus exact rfl);(focus exact rfl);(focus exact rfl);(clear h;intro hx h))
  | ((with_reducible refine WgN h ?_ ?_ ?_);(focus exact rfl);(focus exact rfl);(clear h;intro hx h))
  | ((with_reducible refine WgZ h ?_ ?_ ?_);(focus exact rfl);(focus exact rfl);(clear h;intro hx h))
  | (refine Wbn h (by with_reducible assumption) ?_;clear h;intro hx hx h;(try dsimp only at h))
  | with_reducible refine Wbt ?_
  | with_reducible refine Wbf ?_
  | ((with_reducible refine Wct ?_ ?_);(focus exact rfl))
  | ((with_reducible refine Wcf ?_ ?_);(focus exact rfl))
  | ((with_reducible refine And.intro ?_ ?_);(focus exact Wob))
  | (have hx:=(X9 h).1;replace h:=(X9 h).2;(try (have hx:Z0 _=Z0 _:=hx;simp (disch:=first | omega | with_reducible exact imax1_nn _) only [Y3] at hx)))
  | (clear k;cases h;first | done | fail)
  | (subst hN;(first | show Tr _ _ _ _ | show wpEnd _ _ _ _ _ _ _ | fail);(repeat revert hx);revert h;exact k.get)
  | (clear k;subst hN;exact Wend)
  | fail
  first | done | fail):G:=h ⟨k⟩

abbrev cxW (K:List (Nat × Nat)) (O:List (Nat × CallR)) (I:List Nat) (m:Nat) (G:List (Nat × List Gh)):Cx:=⟨tt0,⟨fun f=>kOf K f,fun k _ _ _=>orcL O k,fun t=>memN I t⟩,m,fun r=>ghL G r⟩
section
variable {c:Code} {Q:Exit→St→Prop} {st:St} {K:List (Nat × Nat)} {O:List (Nat × CallR)}
theorem Wx (I:List Nat) (m:Nat) (G:List (Nat × List Gh)) (h : ∀ N,N=Q→wp (std Tryz.prog) (cxW [] [] I m G) c N st):Tr Tryz.prog c Q st:=Tr.chunk Z1u hPm h
theorem Wk (I:List Nat) (m:Nat) (G:List (Nat × List Gh)) (h : ∀ N,N=Q→wp (std Tryz.prog) (cxW K O I m G) c N st):TrK K O Tryz.prog c Q st:=Tr.chunk Z1u hPm h
theorem Wxp (n:Nat) (I:List Nat) (m:Nat) (G:List (Nat × List Gh)) (h : ∀ N,N=Q→wpPre (std Tryz.prog) (cxW [] [] I m G) n c N st):Tr Tryz.prog c Q st:=Tr.pre Z1u hPm n h
theorem Wkp (n:Nat) (I:List Nat) (m:Nat) (G:List (Nat × List Gh)) (h : ∀ N,N=Q→wpPre (std Tryz.prog) (cxW K O I m G) n c N st):TrK K O Tryz.prog c Q st:=Tr.pre Z1u hPm n h
section
variable {α γ:Type} {A:Option (Fl α γ)} {k:α→Option γ} {r:γ}
theorem Wkc (n:Nat) (I:List Nat) (m:Nat) (G:List (Nat × List Gh)) (h:Zu A k=some r) (c0:Nat) (J U:List (Nat × Nat)) (F:α→Hid→Fr)
    (hB : ∀ (x:α) (c1:Nat) (g:Nat→Nat) (t:Nat→Bool),c0 < c1→(∀ k,g k < c1)→(F x ⟨c1,g,t⟩).p ()→k x=some r→Tr Tryz.prog (restN n c) Q (MF st J U F x ⟨c1,g,t⟩)) (hA : ∀ f,A=some f→∀ N,N=stepF Tryz.prog st c0 J U F r Q f→wpCut (std Tryz.prog) (cxW K O I m G) N n c st):TrK K O Tryz.prog c Q st:=WcutN Z1u hPm n h c0 J U F hB hA
end
theorem Wyp (n:Nat) (I:List Nat) (m:Nat) (G:List (Nat × List Gh)) {L:Prop} (h:L→∀ N,N=Q→wpPre (std Tryz.prog) (cxW [] [] I m G) n c N st):L→Tr Tryz.prog c Q st:=fun l=>Tr.pre Z1u hPm n (h l)
theorem Wjp (n:Nat) (I:List Nat) (m:Nat) (G:List (Nat × List Gh)) {L:Prop} (h:L→∀ N,N=Q→wpPre (std Tryz.prog) (cxW K O I m G) n c N st):L→TrK K O Tryz.prog c Q st:=fun l=>Tr.pre Z1u hPm n (h l)
end
theorem Wfn {f:FuncId} {args:List D} {res:D} {fn:Func} (hf:Tryz.prog.funcs[f]? = some fn) (c:Code) (h : ∀ ctr,0 < ctr→Tr Tryz.prog c (retQ (std Tryz.prog) tt0 fn.results.toList res) (door args fn.ntmps ctr)) (hn:(fn.name == "runtime.NumGoroutine")=false:=by kernel_rfl) (hb:fn.body=some c:=by kernel_rfl):Ze Tryz.prog f args res:=fn_tr Z1u hf hn hb h
theorem Wfl {f:FuncId} {args:List D} {pre post:List Ob} {res:D} {fn:Func} (hf:Tryz.prog.funcs[f]? = some fn) (c:Code) (h : ∀ ctr,0 < ctr→Tr Tryz.prog c (lentQ (std Tryz.prog) tt0 fn.results.toList post res) (doorL args pre fn.ntmps ctr)) (hn:(fn.name == "runtime.NumGoroutine")=false:=by kernel_rfl) (hb:fn.body=some c:=by kernel_rfl) (hl:post.length=pre.length:=by rfl):X3 Tryz.prog f args pre post res:=lent_tr Z1u hf hn hb hl h
theorem Wcnil (t x a d:Nat) {α γ:Type} {n:Int} {A1 A2:Option (Fl α γ)} {k:α→Option γ} {r:γ} (h:nilO n (Zu A1 k) (Zu A2 k)=some r) (c0:Nat) (J U:List (Nat × Nat)) (F:α→Hid→Fr) {ti:TI} {e:TypeId} {id:Nat} {oa od:Oper} {yt:TypeId} {ca b:Code} {Q:Exit→St→Prop} {st:St} {sz:Nat} {tight:Bool} {f:Int→Nat→D}
    (hB : ∀ (x:α) (c1:Nat) (g:Nat→Nat) (t:Nat→Bool),c0 < c1→(∀ k,g k < c1)→(F x ⟨c1,g,t⟩).p ()→k x=some r→Tr Tryz.prog b Q (MF st J U F x ⟨c1,g,t⟩))
    (h1:n=0→∀ f,A1=some f→Tr Tryz.prog ca (stepF Tryz.prog st c0 J U F r Q f) ⟨(st.slots.set a .junk).set d (.v (.bool true)),st.objs,st.ctr⟩)
    (h2 : ∀ f,A2=some f→Tr Tryz.prog ca (stepF Tryz.prog st c0 J U F r Q f) ⟨(st.slots.set a .junk).set d (.v (.bool false)),st.objs,st.ctr⟩)
    (ht:Xv tt0 t=some ti:=by rfl) (hk:ti.kind = .slice e:=by rfl) (ha:oa.op = .move (.tmp x)∧oa.dst=some a∧oa.guard=none:=by exact ⟨rfl,rfl,rfl⟩) (hd:od.op = .binOp .eql t (.tmp a) (.const (.slice none 0 0)) yt∧od.dst=some d∧od.guard=none:=by exact ⟨rfl,rfl,rfl⟩)
    (hs:st.slots.getD x .junk = .sl sz n tight f:=by rfl) (hal:a < st.slots.length:=by exact of_decide_eq_true rfl):Tr Tryz.prog (.seq (.seq (.region id #[oa,od] false) ca) b) Q st:=nil_cut Z1u h c0 J U F ht hk ha hd hs hal hB h1 h2
end Go.Vx
