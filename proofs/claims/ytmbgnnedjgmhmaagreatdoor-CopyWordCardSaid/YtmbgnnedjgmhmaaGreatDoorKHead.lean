/- Walks, by program (lift.py): the code does what the lifted functions say. -/
import Derived.Test.YtmbgnnedjgmhmaaGreatDoorKLift
import Derived.Test.YtmbgnnedjgmhmaaGreatDoorChecked
set_option linter.all false
namespace Go.Vx
open Go.Proofs
set_option maxRecDepth 100000
set_option maxHeartbeats 1000000
set_option linter.unusedVariables false
set_option linter.unusedSimpArgs false
attribute [local irreducible] chk Z6 Z7 Zp nilO
def Z1l (nv:Nv) (x:Xz) (j:Nat):D:=match j with
  | 0=>(.v (.int .i64 x.fstart))
  | 1=>(.v (.int .i64 x.fend))
  | _=>.junk
def X0 (nv:Nv) (x:Y7) (j:Nat):D:=match j with
  | 0=>(.v (.int .i64 x.fLo))
  | 1=>(.v (.int .i64 x.fHi))
  | 2=>(.v (.int .i64 x.fV))
  | _=>.junk
def Z0g (nv:Nv) (x:Z4) (j:Nat):D:=match j with
  | 0=>(.sl 3 (nv.len x.fL) false (fun ix jx=>(X0 nv (nv.get Yd x.fL ix) jx)))
  | _=>.junk
def Z2e (nv:Nv) (x:Yg) (j:Nat):D:=match j with
  | 0=>(.v (.int .i64 x.fA))
  | 1=>(.v (.int .i64 x.fB))
  | _=>.junk
def Z3p (nv:Nv) (x:X3) (j:Nat):D:=match j with
  | 0=>(.v (.int .i64 x.fR))
  | 1=>(.v (.int .i64 x.fAt))
  | 2=>(.v (.int .i64 x.fN))
  | _=>.junk
def Ym (nv:Nv) (x:Za) (j:Nat):D:=match j with
  | 0=>(.sl 3 (nv.len x.fClass.fL) false (fun ix jx=>(X0 nv (nv.get Yd x.fClass.fL ix) jx)))
  | 1=>(.sl 3 (nv.len x.fWide.fL) false (fun ix jx=>(X0 nv (nv.get Yd x.fWide.fL ix) jx)))
  | 2=>(.sl 3 (nv.len x.fJoin.fL) false (fun ix jx=>(X0 nv (nv.get Yd x.fJoin.fL ix) jx)))
  | 3=>(.sl 2 (nv.len x.fMirror) false (fun ix jx=>(Z2e nv (nv.get Xs x.fMirror ix) jx)))
  | 4=>(.sl 2 (nv.len x.fBrackets) false (fun ix jx=>(Z2e nv (nv.get Xs x.fBrackets ix) jx)))
  | 5=>(.sl 3 (nv.len x.fForms) false (fun ix jx=>(Z3p nv (nv.get X6 x.fForms ix) jx)))
  | _=>.junk
def Z50 (nv:Nv) (x:Q1) (j:Nat):D:=match j with
  | 0=>(.v (.int .i64 x.fFg))
  | 1=>(.v (.int .i64 x.fBg))
  | 2=>(.v (.int .i64 x.fFlags))
  | _=>.junk
def Xk (nv:Nv) (x:Zw) (j:Nat):D:=match j with
  | 0=>(.v (.int .i64 x.x0))
  | 1=>(.v (.int .i64 x.x1))
  | _=>.junk
def Yr (nv:Nv) (x:Zc) (j:Nat):D:=match j with
  | 0=>(.v (.int .i64 x.fR))
  | 1=>(.v (.int .i64 x.fM.x0))
  | 2=>(.v (.int .i64 x.fM.x1))
  | 3=>(.v (.int .i64 x.fW))
  | 4=>(.v (.int .i64 x.fPen.fFg))
  | 5=>(.v (.int .i64 x.fPen.fBg))
  | 6=>(.v (.int .i64 x.fPen.fFlags))
  | _=>.junk
def Y8 (nv:Nv) (x:Z5) (j:Nat):D:=match j with
  | 0=>(.sl 7 (nv.len x.fCells) false (fun ix jx=>(Yr nv (nv.get Z2 x.fCells ix) jx)))
  | 1=>(.v (.bool x.fWrap))
  | 2=>(.v (.int .i64 x.fDir))
  | 3=>(.v (.bool x.fExplicit))
  | _=>.junk
def Yz (nv:Nv) (x:Zi) (j:Nat):D:=match j with
  | 0=>(.sl 1 (nv.len x.fV2L) false (fun ix jx=>(.v (.int .i64 (nv.get 0 x.fV2L ix)))))
  | 1=>(.sl 1 (nv.len x.fL2V) false (fun ix jx=>(.v (.int .i64 (nv.get 0 x.fL2V ix)))))
  | 2=>(.sl 7 (nv.len x.fCells) false (fun ix jx=>(Yr nv (nv.get Z2 x.fCells ix) jx)))
  | 3=>(.v (.int .i64 x.fBase))
  | _=>.junk
def Z0v (nv:Nv) (x:Zo) (j:Nat):D:=match j with
  | 0=>(.sl 1 (nv.len x.fl) false (fun ix jx=>(.v (.int .i64 (nv.get 0 x.fl ix)))))
  | _=>.junk
def Zv (nv:Nv) (x:Y6) (j:Nat):D:=match j with
  | 0=>(.v (.int .i64 x.flevel))
  | 1=>(.v (.int .i64 x.foverride))
  | 2=>(.v (.bool x.fisolate))
  | _=>.junk
def Z29 (nv:Nv) (x:Z9) (j:Nat):D:=match j with
  | 0=>(.sl 3 (nv.len x.fl) false (fun ix jx=>(Zv nv (nv.get Zr x.fl ix) jx)))
  | _=>.junk
def Z1m (nv:Nv) (x:Zn) (j:Nat):D:=match j with
  | 0=>(.sl 1 (nv.len x.fLevels) false (fun ix jx=>(.v (.int .i64 (nv.get 0 x.fLevels ix)))))
  | 1=>(.sl 1 (nv.len x.fClasses) false (fun ix jx=>(.v (.int .i64 (nv.get 0 x.fClasses ix)))))
  | 2=>(.sl 1 (nv.len x.fRemoved) false (fun ix jx=>(.v (.bool (nv.get false x.fRemoved ix)))))
  | _=>.junk
def Z4n (nv:Nv) (x:Z8) (j:Nat):D:=match j with
  | 0=>(.sl 1 (nv.len x.fl) false (fun ix jx=>(.v (.int .i64 (nv.get 0 x.fl ix)))))
  | 1=>(.sl 1 (nv.len x.fmatch) false (fun ix jx=>(.v (.int .i64 (nv.get 0 x.fmatch ix)))))
  | 2=>(.v (.int .i64 x.fbase))
  | 3=>(.sl 1 (nv.len x.frun.fLevels) false (fun ix jx=>(.v (.int .i64 (nv.get 0 x.frun.fLevels ix)))))
  | 4=>(.sl 1 (nv.len x.frun.fClasses) false (fun ix jx=>(.v (.int .i64 (nv.get 0 x.frun.fClasses ix)))))
  | 5=>(.sl 1 (nv.len x.frun.fRemoved) false (fun ix jx=>(.v (.bool (nv.get false x.frun.fRemoved ix)))))
  | 6=>(.sl 3 (nv.len x.fopen.fl) false (fun ix jx=>(Zv nv (nv.get Zr x.fopen.fl ix) jx)))
  | 7=>(.v (.int .i64 x.fisolates))
  | 8=>(.v (.int .i64 x.fembeddings))
  | 9=>(.v (.int .i64 x.fvalid))
  | _=>.junk
def Z7q (nv:Nv) (x:Zs) (j:Nat):D:=match j with
  | 0=>(.sl 1 (nv.len x.fl) false (fun ix jx=>(.v (.int .i64 (nv.get 0 x.fl ix)))))
  | 1=>(.v (.int .i64 x.fsos))
  | _=>.junk
def Z7r (nv:Nv) (x:Yp) (j:Nat):D:=match j with
  | 0=>(.sl 1 (nv.len x.fl) false (fun ix jx=>(.v (.int .i64 (nv.get 0 x.fl ix)))))
  | 1=>(.sl 1 (nv.len x.fwas) false (fun ix jx=>(.v (.int .i64 (nv.get 0 x.fwas ix)))))
  | 2=>(.v (.int .i64 x.fsos))
  | 3=>(.v (.int .i64 x.feos))
  | 4=>(.v (.int .i64 x.fdir))
  | 5=>(.v (.int .i64 x.fagainst))
  | 6=>(.sl 2 (nv.len x.fpairs) false (fun ix jx=>(Xk nv (nv.get Zy x.fpairs ix) jx)))
  | _=>.junk
def Z1v (nv:Nv) (x:Yh) (j:Nat):D:=match j with
  | 0=>(.v (.int .i64 x.ffrom))
  | 1=>(.v (.int .i64 x.fto))
  | 2=>(.sl 1 (nv.len x.flevels) false (fun ix jx=>(.v (.int .i64 (nv.get 0 x.flevels ix)))))
  | 3=>(.sl 1 (nv.len x.fglyphs) false (fun ix jx=>(.v (.int .i64 (nv.get 0 x.fglyphs ix)))))
  | 4=>(.v (.int .i64 x.fbase))
  | _=>.junk
def D_copy_sheet (nv:Nv) (x:Yi) (j:Nat):D:=match j with
  | 0=>(.sl 1 (nv.len x.fl) false (fun ix jx=>(.v (.int .i64 (nv.get 0 x.fl ix)))))
  | 1=>(.v (.int .i64 x.fmost))
  | _=>.junk
def D_copy_full (nv:Nv) (x:Z5w) (j:Nat):D:=match j with
  | _=>.junk
def Q7 (nv:Nv) (x:Zu) (j:Nat):D:=match j with
  | 0=>(.v (.int .i64 x.fY))
  | 1=>(.v (.int .i64 x.fX))
  | _=>.junk
def Z4b (nv:Nv) (x:Z02) (j:Nat):D:=match j with
  | 0=>(.v (.int .i64 x.fY))
  | 1=>(.v (.int .i64 x.fX))
  | _=>.junk
def Z23 (nv:Nv) (x:Yb) (j:Nat):D:=match j with
  | 0=>(.sl 4 (nv.len x.fRows) false (fun ix jx=>(Y8 nv (nv.get Z3 x.fRows ix) jx)))
  | _=>.junk
theorem Z6f {P:Program} (x:Xz) (j:Nat):Yy (std P) (Z1l nvS x j) (Z1l nvS x j):=match j with
  | 0=>Zt _ _
  | 1=>Zt _ _
  | _+2=>trivial
theorem Z0h {P:Program} (x:Y7) (j:Nat):Yy (std P) (X0 nvS x j) (X0 nvS x j):=match j with
  | 0=>Zt _ _
  | 1=>Zt _ _
  | 2=>Zt _ _
  | _+3=>trivial
theorem Z6g {P:Program} (x:Z4) (j:Nat):Yy (std P) (Z0g nvS x j) (Z0g nvS x j):=match j with
  | 0=>Zz (fun i j=>Z0h _ _)
  | _+1=>trivial
theorem Z4w {P:Program} (x:Yg) (j:Nat):Yy (std P) (Z2e nvS x j) (Z2e nvS x j):=match j with
  | 0=>Zt _ _
  | 1=>Zt _ _
  | _+2=>trivial
theorem Z72 {P:Program} (x:X3) (j:Nat):Yy (std P) (Z3p nvS x j) (Z3p nvS x j):=match j with
  | 0=>Zt _ _
  | 1=>Zt _ _
  | 2=>Zt _ _
  | _+3=>trivial
theorem out_ucd_Data {P:Program} (x:Za) (j:Nat):Yy (std P) (Ym nvS x j) (Ym nvS x j):=match j with
  | 0=>Zz (fun i j=>Z0h _ _)
  | 1=>Zz (fun i j=>Z0h _ _)
  | 2=>Zz (fun i j=>Z0h _ _)
  | 3=>Zz (fun i j=>Z4w _ _)
  | 4=>Zz (fun i j=>Z4w _ _)
  | 5=>Zz (fun i j=>Z72 _ _)
  | _+6=>trivial
theorem out_api_Pen {P:Program} (x:Q1) (j:Nat):Yy (std P) (Z50 nvS x j) (Z50 nvS x j):=match j with
  | 0=>Zt _ _
  | 1=>Zt _ _
  | 2=>Zt _ _
  | _+3=>trivial
theorem Z73 {P:Program} (x:Zw) (j:Nat):Yy (std P) (Xk nvS x j) (Xk nvS x j):=match j with
  | 0=>Zt _ _
  | 1=>Zt _ _
  | _+2=>trivial
theorem Z4x {P:Program} (x:Zc) (j:Nat):Yy (std P) (Yr nvS x j) (Yr nvS x j):=match j with
  | 0=>Zt _ _
  | 1=>Zt _ _
  | 2=>Zt _ _
  | 3=>Zt _ _
  | 4=>Zt _ _
  | 5=>Zt _ _
  | 6=>Zt _ _
  | _+7=>trivial
theorem Z7s {P:Program} (x:Z5) (j:Nat):Yy (std P) (Y8 nvS x j) (Y8 nvS x j):=match j with
  | 0=>Zz (fun i j=>Z4x _ _)
  | 1=>Z43 _
  | 2=>Zt _ _
  | 3=>Z43 _
  | _+4=>trivial
theorem Z90 {P:Program} (x:Zi) (j:Nat):Yy (std P) (Yz nvS x j) (Yz nvS x j):=match j with
  | 0=>Zz (fun i j=>Zt _ _)
  | 1=>Zz (fun i j=>Zt _ _)
  | 2=>Zz (fun i j=>Z4x _ _)
  | 3=>Zt _ _
  | _+4=>trivial
theorem Z4c {P:Program} (x:Zo) (j:Nat):Yy (std P) (Z0v nvS x j) (Z0v nvS x j):=match j with
  | 0=>Zz (fun i j=>Zt _ _)
  | _+1=>trivial
theorem Z1w {P:Program} (x:Y6) (j:Nat):Yy (std P) (Zv nvS x j) (Zv nvS x j):=match j with
  | 0=>Zt _ _
  | 1=>Zt _ _
  | 2=>Z43 _
  | _+3=>trivial
theorem Z5s {P:Program} (x:Z9) (j:Nat):Yy (std P) (Z29 nvS x j) (Z29 nvS x j):=match j with
  | 0=>Zz (fun i j=>Z1w _ _)
  | _+1=>trivial
theorem Z91 {P:Program} (x:Zn) (j:Nat):Yy (std P) (Z1m nvS x j) (Z1m nvS x j):=match j with
  | 0=>Zz (fun i j=>Zt _ _)
  | 1=>Zz (fun i j=>Zt _ _)
  | 2=>Zz (fun i j=>Z43 _)
  | _+3=>trivial
theorem Z5t {P:Program} (x:Z8) (j:Nat):Yy (std P) (Z4n nvS x j) (Z4n nvS x j):=match j with
  | 0=>Zz (fun i j=>Zt _ _)
  | 1=>Zz (fun i j=>Zt _ _)
  | 2=>Zt _ _
  | 3=>Zz (fun i j=>Zt _ _)
  | 4=>Zz (fun i j=>Zt _ _)
  | 5=>Zz (fun i j=>Z43 _)
  | 6=>Zz (fun i j=>Z1w _ _)
  | 7=>Zt _ _
  | 8=>Zt _ _
  | 9=>Zt _ _
  | _+10=>trivial
theorem Z92 {P:Program} (x:Zs) (j:Nat):Yy (std P) (Z7q nvS x j) (Z7q nvS x j):=match j with
  | 0=>Zz (fun i j=>Zt _ _)
  | 1=>Zt _ _
  | _+2=>trivial
theorem Z93 {P:Program} (x:Yp) (j:Nat):Yy (std P) (Z7r nvS x j) (Z7r nvS x j):=match j with
  | 0=>Zz (fun i j=>Zt _ _)
  | 1=>Zz (fun i j=>Zt _ _)
  | 2=>Zt _ _
  | 3=>Zt _ _
  | 4=>Zt _ _
  | 5=>Zt _ _
  | 6=>Zz (fun i j=>Z73 _ _)
  | _+7=>trivial
theorem Z59 {P:Program} (x:Yh) (j:Nat):Yy (std P) (Z1v nvS x j) (Z1v nvS x j):=match j with
  | 0=>Zt _ _
  | 1=>Zt _ _
  | 2=>Zz (fun i j=>Zt _ _)
  | 3=>Zz (fun i j=>Zt _ _)
  | 4=>Zt _ _
  | _+5=>trivial
theorem Z7t {P:Program} (x:Yi) (j:Nat):Yy (std P) (D_copy_sheet nvS x j) (D_copy_sheet nvS x j):=match j with
  | 0=>Zz (fun i j=>Zt _ _)
  | 1=>Zt _ _
  | _+2=>trivial
theorem Z94 {P:Program} (x:Z5w) (j:Nat):Yy (std P) (D_copy_full nvS x j) (D_copy_full nvS x j):=match j with

  | _+0=>trivial
theorem Z7u {P:Program} (x:Zu) (j:Nat):Yy (std P) (Q7 nvS x j) (Q7 nvS x j):=match j with
  | 0=>Zt _ _
  | 1=>Zt _ _
  | _+2=>trivial
theorem Z2w {P:Program} (x:Z02) (j:Nat):Yy (std P) (Z4b nvS x j) (Z4b nvS x j):=match j with
  | 0=>Zt _ _
  | 1=>Zt _ _
  | _+2=>trivial
theorem Z3k {P:Program} (x:Yb) (j:Nat):Yy (std P) (Z23 nvS x j) (Z23 nvS x j):=match j with
  | 0=>Zz (fun i j=>Z7s _ _)
  | _+1=>trivial
def tt0:TT:=[(2,⟨1,8,.int .i64,some [.int .i64 0],none,true⟩),
  (3,⟨1,8,.int .i64,some [.int .i64 0],none,true⟩),
  (4,⟨1,1,.bool,some [.bool false],none,true⟩),
  (5,⟨1,1,.int .u8,some [.int .u8 0],none,true⟩),
  (9,⟨1,16,.string,some [.string ⟨#[]⟩],none,true⟩),
  (21,⟨1,4,.int .i32,some [.int .i32 0],none,true⟩),
  (22,⟨1,24,.slice 49,some [.slice none 0 0],none,true⟩),
  (24,⟨2,16,.struct [(0,3),(1,3)],some [.int .i64 0,.int .i64 0],some [.int .i64,.int .i64],false⟩),
  (27,⟨1,24,.slice 52,some [.slice none 0 0],none,true⟩),
  (29,⟨1,24,.slice 101,some [.slice none 0 0],none,true⟩),
  (31,⟨1,24,.struct [(0,29)],some [.slice none 0 0],none,false⟩),
  (32,⟨1,24,.slice 103,some [.slice none 0 0],none,true⟩),
  (33,⟨1,24,.slice 105,some [.slice none 0 0],none,true⟩),
  (35,⟨6,144,.struct [(0,31),(1,31),(2,31),(3,32),(4,32),(5,33)],some [.slice none 0 0,.slice none 0 0,.slice none 0 0,.slice none 0 0,.slice none 0 0,.slice none 0 0],none,false⟩),
  (37,⟨1,24,.slice 3,some [.slice none 0 0],none,true⟩),
  (40,⟨2,16,.struct [(0,3),(1,3)],some [.int .i64 0,.int .i64 0],some [.int .i64,.int .i64],false⟩),
  (46,⟨1,24,.struct [(0,22)],some [.slice none 0 0],none,false⟩),
  (47,⟨1,24,.slice 63,some [.slice none 0 0],none,true⟩),
  (49,⟨4,48,.struct [(0,47),(1,4),(2,3),(3,4)],some [.slice none 0 0,.bool false,.int .i64 0,.bool false],none,false⟩),
  (52,⟨4,80,.struct [(0,37),(1,37),(2,47),(3,3)],some [.slice none 0 0,.slice none 0 0,.slice none 0 0,.int .i64 0],none,false⟩),
  (59,⟨2,16,.array 2 3,some [.int .i64 0,.int .i64 0],some [.int .i64,.int .i64],false⟩),
  (61,⟨3,24,.struct [(0,3),(1,3),(2,3)],some [.int .i64 0,.int .i64 0,.int .i64 0],some [.int .i64,.int .i64,.int .i64],false⟩),
  (63,⟨7,56,.struct [(0,3),(1,59),(3,3),(4,61)],some [.int .i64 0,.int .i64 0,.int .i64 0,.int .i64 0,.int .i64 0,.int .i64 0,.int .i64 0],some [.int .i64,.int .i64,.int .i64,.int .i64,.int .i64,.int .i64,.int .i64],false⟩),
  (67,⟨5,72,.struct [(0,3),(1,3),(2,37),(3,37),(4,3)],some [.int .i64 0,.int .i64 0,.slice none 0 0,.slice none 0 0,.int .i64 0],none,false⟩),
  (97,⟨1,24,.slice 9,some [.slice none 0 0],none,true⟩),
  (101,⟨3,24,.struct [(0,3),(1,3),(2,3)],some [.int .i64 0,.int .i64 0,.int .i64 0],some [.int .i64,.int .i64,.int .i64],false⟩),
  (103,⟨2,16,.struct [(0,3),(1,3)],some [.int .i64 0,.int .i64 0],some [.int .i64,.int .i64],false⟩),
  (105,⟨3,24,.struct [(0,3),(1,3),(2,3)],some [.int .i64 0,.int .i64 0,.int .i64 0],some [.int .i64,.int .i64,.int .i64],false⟩),
  (107,⟨2,32,.struct [(0,37),(1,3)],some [.slice none 0 0,.int .i64 0],none,false⟩),
  (109,⟨0,0,.struct [],some [],some [],false⟩),
  (128,⟨1,16,.iface,some [.nilIface],none,true⟩),
  (131,⟨256,256,.array 256 5,some [.int .u8 0,.int .u8 0,.int .u8 0,.int .u8 0,.int .u8 0,.int .u8 0,.int .u8 0,.int .u8 0,.int .u8 0,.int .u8 0,.int .u8 0,.int .u8 0,.int .u8 0,.int .u8 0,.int .u8 0,.int .u8 0,.int .u8 0,.int .u8 0,.int .u8 0,.int .u8 0,.int .u8 0,.int .u8 0,.int .u8 0,.int .u8 0,.int .u8 0,.int .u8 0,.int .u8 0,.int .u8 0,.int .u8 0,.int .u8 0,.int .u8 0,.int .u8 0,.int .u8 0,.int .u8 0,.int .u8 0,.int .u8 0,.int .u8 0,.int .u8 0,.int .u8 0,.int .u8 0,.int .u8 0,.int .u8 0,.int .u8 0,.int .u8 0,.int .u8 0,.int .u8 0,.int .u8 0,.int .u8 0,.int .u8 0,.int .u8 0,.int .u8 0,.int .u8 0,.int .u8 0,.int .u8 0,.int .u8 0,.int .u8 0,.int .u8 0,.int .u8 0,.int .u8 0,.int .u8 0,.int .u8 0,.int .u8 0,.int .u8 0,.int .u8 0,.int .u8 0,.int .u8 0,.int .u8 0,.int .u8 0,.int .u8 0,.int .u8 0,.int .u8 0,.int .u8 0,.int .u8 0,.int .u8 0,.int .u8 0,.int .u8 0,.int .u8 0,.int .u8 0,.int .u8 0,.int .u8 0,.int .u8 0,.int .u8 0,.int .u8 0,.int .u8 0,.int .u8 0,.int .u8 0,.int .u8 0,.int .u8 0,.int .u8 0,.int .u8 0,.int .u8 0,.int .u8 0,.int .u8 0,.int .u8 0,.int .u8 0,.int .u8 0,.int .u8 0,.int .u8 0,.int .u8 0,.int .u8 0,.int .u8 0,.int .u8 0,.int .u8 0,.int .u8 0,.int .u8 0,.int .u8 0,.int .u8 0,.int .u8 0,.int .u8 0,.int .u8 0,.int .u8 0,.int .u8 0,.int .u8 0,.int .u8 0,.int .u8 0,.int .u8 0,.int .u8 0,.int .u8 0,.int .u8 0,.int .u8 0,.int .u8 0,.int .u8 0,.int .u8 0,.int .u8 0,.int .u8 0,.int .u8 0,.int .u8 0,.int .u8 0,.int .u8 0,.int .u8 0,.int .u8 0,.int .u8 0,.int .u8 0,.int .u8 0,.int .u8 0,.int .u8 0,.int .u8 0,.int .u8 0,.int .u8 0,.int .u8 0,.int .u8 0,.int .u8 0,.int .u8 0,.int .u8 0,.int .u8 0,.int .u8 0,.int .u8 0,.int .u8 0,.int .u8 0,.int .u8 0,.int .u8 0,.int .u8 0,.int .u8 0,.int .u8 0,.int .u8 0,.int .u8 0,.int .u8 0,.int .u8 0,.int .u8 0,.int .u8 0,.int .u8 0,.int .u8 0,.int .u8 0,.int .u8 0,.int .u8 0,.int .u8 0,.int .u8 0,.int .u8 0,.int .u8 0,.int .u8 0,.int .u8 0,.int .u8 0,.int .u8 0,.int .u8 0,.int .u8 0,.int .u8 0,.int .u8 0,.int .u8 0,.int .u8 0,.int .u8 0,.int .u8 0,.int .u8 0,.int .u8 0,.int .u8 0,.int .u8 0,.int .u8 0,.int .u8 0,.int .u8 0,.int .u8 0,.int .u8 0,.int .u8 0,.int .u8 0,.int .u8 0,.int .u8 0,.int .u8 0,.int .u8 0,.int .u8 0,.int .u8 0,.int .u8 0,.int .u8 0,.int .u8 0,.int .u8 0,.int .u8 0,.int .u8 0,.int .u8 0,.int .u8 0,.int .u8 0,.int .u8 0,.int .u8 0,.int .u8 0,.int .u8 0,.int .u8 0,.int .u8 0,.int .u8 0,.int .u8 0,.int .u8 0,.int .u8 0,.int .u8 0,.int .u8 0,.int .u8 0,.int .u8 0,.int .u8 0,.int .u8 0,.int .u8 0,.int .u8 0,.int .u8 0,.int .u8 0,.int .u8 0,.int .u8 0,.int .u8 0,.int .u8 0,.int .u8 0,.int .u8 0,.int .u8 0,.int .u8 0,.int .u8 0,.int .u8 0,.int .u8 0,.int .u8 0,.int .u8 0,.int .u8 0,.int .u8 0,.int .u8 0,.int .u8 0,.int .u8 0,.int .u8 0,.int .u8 0,.int .u8 0,.int .u8 0,.int .u8 0,.int .u8 0,.int .u8 0,.int .u8 0,.int .u8 0,.int .u8 0,.int .u8 0],some [.int .u8,.int .u8,.int .u8,.int .u8,.int .u8,.int .u8,.int .u8,.int .u8,.int .u8,.int .u8,.int .u8,.int .u8,.int .u8,.int .u8,.int .u8,.int .u8,.int .u8,.int .u8,.int .u8,.int .u8,.int .u8,.int .u8,.int .u8,.int .u8,.int .u8,.int .u8,.int .u8,.int .u8,.int .u8,.int .u8,.int .u8,.int .u8,.int .u8,.int .u8,.int .u8,.int .u8,.int .u8,.int .u8,.int .u8,.int .u8,.int .u8,.int .u8,.int .u8,.int .u8,.int .u8,.int .u8,.int .u8,.int .u8,.int .u8,.int .u8,.int .u8,.int .u8,.int .u8,.int .u8,.int .u8,.int .u8,.int .u8,.int .u8,.int .u8,.int .u8,.int .u8,.int .u8,.int .u8,.int .u8,.int .u8,.int .u8,.int .u8,.int .u8,.int .u8,.int .u8,.int .u8,.int .u8,.int .u8,.int .u8,.int .u8,.int .u8,.int .u8,.int .u8,.int .u8,.int .u8,.int .u8,.int .u8,.int .u8,.int .u8,.int .u8,.int .u8,.int .u8,.int .u8,.int .u8,.int .u8,.int .u8,.int .u8,.int .u8,.int .u8,.int .u8,.int .u8,.int .u8,.int .u8,.int .u8,.int .u8,.int .u8,.int .u8,.int .u8,.int .u8,.int .u8,.int .u8,.int .u8,.int .u8,.int .u8,.int .u8,.int .u8,.int .u8,.int .u8,.int .u8,.int .u8,.int .u8,.int .u8,.int .u8,.int .u8,.int .u8,.int .u8,.int .u8,.int .u8,.int .u8,.int .u8,.int .u8,.int .u8,.int .u8,.int .u8,.int .u8,.int .u8,.int .u8,.int .u8,.int .u8,.int .u8,.int .u8,.int .u8,.int .u8,.int .u8,.int .u8,.int .u8,.int .u8,.int .u8,.int .u8,.int .u8,.int .u8,.int .u8,.int .u8,.int .u8,.int .u8,.int .u8,.int .u8,.int .u8,.int .u8,.int .u8,.int .u8,.int .u8,.int .u8,.int .u8,.int .u8,.int .u8,.int .u8,.int .u8,.int .u8,.int .u8,.int .u8,.int .u8,.int .u8,.int .u8,.int .u8,.int .u8,.int .u8,.int .u8,.int .u8,.int .u8,.int .u8,.int .u8,.int .u8,.int .u8,.int .u8,.int .u8,.int .u8,.int .u8,.int .u8,.int .u8,.int .u8,.int .u8,.int .u8,.int .u8,.int .u8,.int .u8,.int .u8,.int .u8,.int .u8,.int .u8,.int .u8,.int .u8,.int .u8,.int .u8,.int .u8,.int .u8,.int .u8,.int .u8,.int .u8,.int .u8,.int .u8,.int .u8,.int .u8,.int .u8,.int .u8,.int .u8,.int .u8,.int .u8,.int .u8,.int .u8,.int .u8,.int .u8,.int .u8,.int .u8,.int .u8,.int .u8,.int .u8,.int .u8,.int .u8,.int .u8,.int .u8,.int .u8,.int .u8,.int .u8,.int .u8,.int .u8,.int .u8,.int .u8,.int .u8,.int .u8,.int .u8,.int .u8,.int .u8,.int .u8,.int .u8,.int .u8,.int .u8,.int .u8,.int .u8,.int .u8,.int .u8,.int .u8,.int .u8,.int .u8,.int .u8,.int .u8,.int .u8,.int .u8,.int .u8,.int .u8,.int .u8],false⟩),
  (137,⟨1,24,.slice 4,some [.slice none 0 0],none,true⟩),
  (139,⟨3,72,.struct [(0,37),(1,37),(2,137)],some [.slice none 0 0,.slice none 0 0,.slice none 0 0],none,false⟩),
  (141,⟨1,24,.slice 37,some [.slice none 0 0],none,true⟩),
  (148,⟨1,8,.map 3 3,some [.map none],none,true⟩),
  (154,⟨1,24,.slice 156,some [.slice none 0 0],none,true⟩),
  (156,⟨2,16,.struct [(0,3),(1,3)],some [.int .i64 0,.int .i64 0],some [.int .i64,.int .i64],false⟩),
  (165,⟨1,24,.struct [(0,37)],some [.slice none 0 0],none,false⟩),
  (168,⟨1,24,.slice 175,some [.slice none 0 0],none,true⟩),
  (170,⟨1,24,.struct [(0,168)],some [.slice none 0 0],none,false⟩),
  (172,⟨10,176,.struct [(0,37),(1,37),(2,3),(3,139),(6,170),(7,3),(8,3),(9,3)],some [.slice none 0 0,.slice none 0 0,.int .i64 0,.slice none 0 0,.slice none 0 0,.slice none 0 0,.slice none 0 0,.int .i64 0,.int .i64 0,.int .i64 0],none,false⟩),
  (175,⟨3,24,.struct [(0,3),(1,3),(2,4)],some [.int .i64 0,.int .i64 0,.bool false],some [.int .i64,.int .i64,.bool],false⟩),
  (179,⟨1,24,.slice 59,some [.slice none 0 0],none,true⟩),
  (182,⟨7,104,.struct [(0,37),(1,37),(2,3),(3,3),(4,3),(5,3),(6,179)],some [.slice none 0 0,.slice none 0 0,.int .i64 0,.int .i64 0,.int .i64 0,.int .i64 0,.slice none 0 0],none,false⟩),
  (183,⟨1,8,.other,some [.nilFunc],none,true⟩),
  (184,⟨1,24,.slice 183,some [.slice none 0 0],none,true⟩),
  (186,⟨2,32,.struct [(0,37),(1,3)],some [.slice none 0 0,.int .i64 0],none,false⟩),
  (187,⟨1,8,.other,some [.nilFunc],none,true⟩),
  (188,⟨1,24,.slice 187,some [.slice none 0 0],none,true⟩),
  (193,⟨1,8,.int .u64,some [.int .u64 0],none,true⟩),
  (196,⟨1,8,.int .u64,some [.int .u64 0],none,true⟩),
  (221,⟨1,24,.slice 5,some [.slice none 0 0],none,true⟩)]
theorem Z24:Qo Tryz.prog tt0:=Qo.of _ _ (by kernel_rfl)
theorem hPm:Tryz.prog.follows .mixedOrders=true:=by kernel_rfl

theorem ext2 {P:Program} {f:FuncId} {fn:Func} {e:Array Value→Sem Value} (hf:P.funcs[f]? = some fn) (hname:(fn.name == "runtime.NumGoroutine")=false) (hb:fn.body.isNone=true) (hn:Extern.findNext fn=none) (he:Extern.find fn=some e)
    {a b d:Value} (hr : ∀ w,(e #[a,b]).run P w = .ok d w):Z62 P f [.v a,.v b] (.v d):=by
  intro w I c vs hl ha
  match vs,hl with
  | [x,y],_ =>
    obtain ⟨y0,h0,r0⟩:=ha 0 _ rfl
    obtain ⟨y1,h1,r1⟩:=ha 1 _ rfl
    have r0:y0=a:=r0
    have r1:y1=b:=r1
    have h0:x=y0:=by simpa using h0
    have h1:y=y1:=by simpa using h1
    rw [h0,h1,r0,r1]
    refine ⟨d,?_,rfl⟩
    show (callFunc f #[a,b]).run P w=_
    rw [run_callFunc_extern hf hname hb hn he,hr];rfl
theorem Z74 (s:ByteArray) (c:Int) (r:Int) (h:Z4r s c=some r):Z62 Tryz.prog 141 [.v (.string s),.v (.int .u8 c)] (.v (.int .i64 r)):=by
  cases h
  exact ext2 Tryz.func141 (by kernel_rfl) (by kernel_rfl) (by kernel_rfl) (e:=Extern.BytealgCount.count) (by kernel_rfl) (fun w=>Lib.run_countString s c w)
theorem Z5a (s:ByteArray) (c:Int) (r:Int) (h:Z2k s c=some r):Z62 Tryz.prog 173 [.v (.string s),.v (.int .u8 c)] (.v (.int .i64 r)):=by
  cases h
  exact ext2 Tryz.func173 (by kernel_rfl) (by kernel_rfl) (by kernel_rfl) (e:=Extern.BytealgIndexByte.indexByte) (by kernel_rfl) (fun w=>Lib.run_indexByteString s c w)

/-! Closing tactics. -/
theorem Wy {p:Prop} (h:p:=by first | with_reducible rfl | with_reducible assumption | (symm;with_reducible assumption) | ((try dsimp only [X5,Z0z,nvS])<;>first | with_reducible rfl | omega | (simp (disch:=first | omega | with_reducible exact Zb _ | (simp only [Zq,Zh,Zk,Zm]<;>omega)) only [Yn,Zq,Zh,Zk,Zm,Y0,Ye,Xj,Int.ofNat_eq_natCast,Int.zero_add,Int.sub_zero]<;>first | done | omega | with_reducible assumption | fail)) | rfl | assumption | (symm;assumption) | fail):p:=h
theorem Wf {p:Prop} (h:p:=by
  (try dsimp only)<;>repeat' first
  | exact trivial
  | with_reducible refine And.intro ?_ ?_
  | with_reducible rfl
  | with_reducible assumption
  | (simp (disch:=first | omega | with_reducible exact Zb _ | (simp only [Zq,Zh,Zk,Zm]<;>omega)) only [Yn,Zq,Zh,Zk,Zm,Y0,Ye,Xj,Int.ofNat_eq_natCast,Int.zero_add,Int.sub_zero]<;>first | done | with_reducible assumption | omega | fail)
  | omega
  | rfl
  | fail):p:=h
theorem Wm {p:Prop} (h:p:=by (try dsimp only [X5,Z0z,nvS])<;>first | omega | (simp (disch:=first | omega | with_reducible exact Zb _ | (simp only [Zq,Zh,Zk,Zm]<;>omega)) only [Yn,Zq,Zh,Zk,Zm,Y0,Ye,Xj,Int.ofNat_eq_natCast,Int.zero_add,Int.sub_zero]<;>omega)):p:=h
theorem Woc {p:Prop} (h:p:=by first | exact Zt _ _ | (intro i j;first | exact Zt _ _ | exact Z43 _ | exact out0_str _ | exact Zz (fun i j=>Zt _ _) | exact Zz (fun i j=>Z43 _) | exact Zz (fun i j=>out0_str _) | exact Z6f _ _ | exact Z0h _ _ | exact Z6g _ _ | exact Z4w _ _ | exact Z72 _ _ | exact out_ucd_Data _ _ | exact out_api_Pen _ _ | exact Z73 _ _ | exact Z4x _ _ | exact Z7s _ _ | exact Z90 _ _ | exact Z4c _ _ | exact Z1w _ _ | exact Z5s _ _ | exact Z91 _ _ | exact Z5t _ _ | exact Z92 _ _ | exact Z93 _ _ | exact Z59 _ _ | exact Z7t _ _ | exact Z94 _ _ | exact Z7u _ _ | exact Z2w _ _ | exact Z3k _ _ | exact Zz (fun i j=>Z6f _ _) | exact Zz (fun i j=>Z0h _ _) | exact Zz (fun i j=>Z6g _ _) | exact Zz (fun i j=>Z4w _ _) | exact Zz (fun i j=>Z72 _ _) | exact Zz (fun i j=>out_ucd_Data _ _) | exact Zz (fun i j=>out_api_Pen _ _) | exact Zz (fun i j=>Z73 _ _) | exact Zz (fun i j=>Z4x _ _) | exact Zz (fun i j=>Z7s _ _) | exact Zz (fun i j=>Z90 _ _) | exact Zz (fun i j=>Z4c _ _) | exact Zz (fun i j=>Z1w _ _) | exact Zz (fun i j=>Z5s _ _) | exact Zz (fun i j=>Z91 _ _) | exact Zz (fun i j=>Z5t _ _) | exact Zz (fun i j=>Z92 _ _) | exact Zz (fun i j=>Z93 _ _) | exact Zz (fun i j=>Z59 _ _) | exact Zz (fun i j=>Z7t _ _) | exact Zz (fun i j=>Z94 _ _) | exact Zz (fun i j=>Z7u _ _) | exact Zz (fun i j=>Z2w _ _) | exact Zz (fun i j=>Z3k _ _) | trivial | fail) | fail):p:=h
theorem agg0 {p:Nat→Prop} : ∀ j,j < 0→p j:=fun j h=>absurd h (Nat.not_lt_zero j)
theorem aggS {p:Nat→Prop} {n:Nat} (h0:p 0) (h : ∀ j,j < n→p (j+1)) : ∀ j,j < n+1→p j
  | 0,_=>h0
  | j+1,hj=>h j (Nat.lt_of_succ_lt_succ hj)
theorem Wpj {p:Prop} (h:p:=by (conv=>lhs;whnf)<;>(conv=>rhs;whnf)<;>(try dsimp only [X5,Z0z,nvS])<;>(first | rfl | (simp (disch:=first | omega | with_reducible exact Zb _ | (simp only [Zq,Zh,Zk,Zm]<;>omega)) only [getL_bytes,Zl,Yc,Z4l,Z14,Ye,addSubL,getL_cpy,Int.zero_add,Int.sub_zero,beq_iff_eq,decide_eq_true_eq,Bool.and_eq_true]<;>first | rfl | (split<;>first | rfl | (simp (disch:=first | omega | with_reducible exact Zb _ | (simp only [Zq,Zh,Zk,Zm]<;>omega)) only [Xv,Q2]<;>rfl)) | (simp (disch:=omega) only [Xv,Q2]<;>rfl) | ((simp only [Zh,Zk,Zm,Int.ofNat_eq_natCast])<;>(repeat' split)<;>first | rfl | (exfalso;omega) | (simp (disch:=omega) only [Xv,Q2]<;>rfl) | (congr 3;omega) | fail)) | fail)):p:=h
theorem Wp {p:Prop} (h:p:=by
  intro i i0 i1
  first
  | (exfalso;revert i1;show i < (0:Int)→False;omega)
  | ((try dsimp only [X5,Z0z,nvS] at i1);(try simp only [Int.ofNat_eq_natCast,Zh,Zk,Zm,Zq,Yn] at i1);(try simp (disch:=first | omega | with_reducible exact Zb _ | (simp only [Zq,Zh,Zk,Zm]<;>omega)) only [Ye,Y0,Xj,Int.zero_add,Int.sub_zero] at i1)
     first
     | (repeat' first | exact agg0 | refine aggS ?_ ?_ | exact Wpj | fail
        first | done | fail)
     | ((first | (obtain rfl:i=0:=(by omega)) | (rcases (show i=0∨i=1 by omega) with rfl | rfl) | (rcases (show i=0∨i=1∨i=2 by omega) with rfl | rfl | rfl) | (rcases (show i=0∨i=1∨i=2∨i=3 by omega) with rfl | rfl | rfl | rfl) | (rcases (show i=0∨i=1∨i=2∨i=3∨i=4 by omega) with rfl | rfl | rfl | rfl | rfl) | (rcases (show i=0∨i=1∨i=2∨i=3∨i=4∨i=5 by omega) with rfl | rfl | rfl | rfl | rfl | rfl) | (rcases (show i=0∨i=1∨i=2∨i=3∨i=4∨i=5∨i=6 by omega) with rfl | rfl | rfl | rfl | rfl | rfl | rfl) | (rcases (show i=0∨i=1∨i=2∨i=3∨i=4∨i=5∨i=6∨i=7 by omega) with rfl | rfl | rfl | rfl | rfl | rfl | rfl | rfl)) <;>
        (repeat' first | exact agg0 | refine aggS ?_ ?_ | exact rfl | fail)<;>first | done | fail)
     | fail)
  | fail):p:=h
theorem Wsk {p:Prop} (h:p:=by
  repeat' first
  | exact trivial
  | exact agg0
  | refine aggS ?_ ?_
  | refine And.intro rfl ?_
  | exact rfl
  | intro i
  | fail
  first | done | fail):p:=h
theorem Wpx {p:Prop} (h:p:=by
  intro hb
  (try dsimp only [X5,Z0z,nvS] at hb)
  (try simp only [Int.zero_add] at hb)
  (try simp only [nv_get])
  (try simp (disch:=first | omega | with_reducible exact Zb _ | (simp only [Zq,Zh,Zk,Zm]<;>omega)) only [Zl,Yc,Z4l,Z14,getL_cpy,Zh,Zk,Zm,Zq,Int.zero_add,if_pos hb,if_neg hb,Xv])
  first | exact Wd | exact Wpc | fail):p:=h
theorem Wpc {p:Prop} (h:p:=by
  repeat' first
  | exact agg0
  | refine aggS ?_ ?_
  | exact LeD.of Wpj
  | exact LeD.nil (by (try dsimp only [nvS]);simp (disch:=first | omega | with_reducible exact Zb _ | (simp only [Zq,Zh,Zk,Zm]<;>omega)) only [Z4l];rfl)
  | ((with_reducible refine put_in ?_ ?_ ?_ ?_);(focus exact rfl);(focus exact Wsk);(focus exact Wpx);(focus exact Wpx))
  | ((with_reducible refine put_out ?_ ?_);(focus exact rfl))
  | ((with_reducible refine cat_in ?_ ?_ ?_);(focus exact Wsk);(focus exact Wpx);(focus exact Wpx))
  | exact Wd
  | fail
  first | done | fail):p:=h
theorem Wpd {p:Prop} (h:p:=by
  intro i i0 i1
  (try dsimp only [X5,Z0z,nvS] at i1);(try simp only [Int.ofNat_eq_natCast,Zh,Zk,Zm,Zq,Yn] at i1);(try simp (disch:=first | omega | with_reducible exact Zb _ | (simp only [Zq,Zh,Zk,Zm]<;>omega)) only [Ye,Y0,Xj,Int.zero_add,Int.sub_zero] at i1)
  first | exact Wpc | fail):p:=h
theorem Wpe {p:Prop} (h:p:=by
  intro i i0 i1
  (try dsimp only [X5,Z0z,nvS] at i1);(try simp only [Int.ofNat_eq_natCast,Zh,Zk,Zm,Zq,Yn] at i1)
  (first | (obtain rfl:i=0:=(by omega)) | (rcases (show i=0∨i=1 by omega) with rfl | rfl) | (rcases (show i=0∨i=1∨i=2 by omega) with rfl | rfl | rfl) | (rcases (show i=0∨i=1∨i=2∨i=3 by omega) with rfl | rfl | rfl | rfl) | (rcases (show i=0∨i=1∨i=2∨i=3∨i=4 by omega) with rfl | rfl | rfl | rfl | rfl) | (rcases (show i=0∨i=1∨i=2∨i=3∨i=4∨i=5 by omega) with rfl | rfl | rfl | rfl | rfl | rfl) | (rcases (show i=0∨i=1∨i=2∨i=3∨i=4∨i=5∨i=6 by omega) with rfl | rfl | rfl | rfl | rfl | rfl | rfl) | (rcases (show i=0∨i=1∨i=2∨i=3∨i=4∨i=5∨i=6∨i=7 by omega) with rfl | rfl | rfl | rfl | rfl | rfl | rfl | rfl))<;>(repeat' first | exact agg0 | refine aggS ?_ ?_ | exact Wd | fail)
  first | done | fail):p:=h
theorem Wd {p:Prop} (h:p:=by
  repeat' first
  | exact LeD.refl _
  | exact LeD.junk _
  | exact LeD.nil rfl
  | exact LeD.vec rfl Wy
  | exact LeD.slF Wy Wp
  | exact LeD.sl Wy Wpe
  | exact Qh.refl _
  | exact Qh.arrF Wy Wp
  | exact Qh.arrG Wy Wpd
  | refine Qh.box ?_
  | exact trivial
  | exact agg0
  | refine aggS ?_ ?_
  | refine LeD.agg ?_
  | exact LeD.imm (fun _=>Wd)
  | refine LeD.fn ?_
  | refine LeD.cndT rfl ?_
  | refine LeD.cndF rfl ?_
  | exact LeD.win (by decide) Wd
  | refine And.intro ?_ ?_
  | fail
  first | done | fail):p:=h
theorem Wks {p:Prop} (h:p:=by
  repeat' first
  | exact trivial
  | refine And.intro (Exists.intro _ (And.intro rfl Wd)) ?_
  | fail
  first | done | fail):p:=h
theorem Wos {p:Prop} (h:p:=by
  repeat' first | exact trivial | refine And.intro rfl ?_ | fail
  first | done | fail):p:=h
theorem Wlt {p:Prop} (h:p:=by show (_:Nat) < _;(try dsimp only [X5,Z0z]);first | omega | exact Nat.lt_of_lt_of_le (by apply_assumption) (by omega) | fail):p:=h
theorem Wle {p:Prop} (h:p:=by first | exact Nat.le_refl _ | (refine leC ?_;(try dsimp only [X5,Z0z]);omega) | fail):p:=h
theorem Yk {p:Prop} (h:p:=by first | exact lay_of rfl Wos Wle Wf rfl rfl Wks Wks | fail):p:=h
theorem Wt {c:Prop} [Decidable c] {a b:Prop} (x:a) (h:c:=by exact rfl):if c then a else b:=by rw [if_pos h];exact x
theorem We {c:Prop} [Decidable c] {a b:Prop} (x:b) (h : ¬ c:=by decide):if c then a else b:=by rw [if_neg h];exact x
theorem Wcl {p:Prop} (h:p:=by first
  | exact trivial
  | (intro i _ _
     repeat' first | exact agg0 | refine aggS ?_ ?_ | exact Wcl | fail
     first | done | fail)
  | fail):p:=h
theorem WoN {a b:Nat} (h:a=b):(std Tryz.prog).eqN a b:=h
theorem WoE {a b:Int} (h:a=b):(std Tryz.prog).eqI a b:=h
theorem WoB {a b:Bool} (h:a=b):(std Tryz.prog).eqB a b:=h
theorem WoD {a:Array Oper} {b:List (Nat × Nat)} (h:drOk a b=true):(std Tryz.prog).dr a b:=h
theorem WoA {n:Int} {k:Nat} {f:Int→Nat→Prop} (h : ∀ i:Int,0≤i→i < n→∀ j,j < k→f i j):(std Tryz.prog).all2 n k f:=h
theorem WoT {b:Bool} (h:b=true):(std Tryz.prog).tru b:=h
theorem WoI {b:Bool} {p:Prop} (h:b=true→p):(std Tryz.prog).imp b p:=h
theorem WoK {f:FuncId} {a:List D} {d:D} (h:Ze Tryz.prog f a d∨Z62 Tryz.prog f a d):(std Tryz.prog).ok f a d:=h
theorem WoV {f:FuncId} {a:List D} {d:D} (h:Ze Tryz.prog f a d):(std Tryz.prog).okv f a d:=h
theorem WoL {f:FuncId} {a:List D} {b c:List Ob} {d:D} (h:X4 Tryz.prog f a b c d):(std Tryz.prog).lent f a b c d:=h
theorem Wol1 {a b:Nat} (h:a < b):(std Tryz.prog).ltN a b:=h
theorem Wtr {p:Prop} (h:p:=by first
  | with_reducible assumption
  | ((try dsimp only [X5,Z0z])<;>first | with_reducible rfl | with_reducible assumption | ((try clear h);grind) | fail)
  | fail):p:=h
theorem Wok {p:Prop} (h:p:=by first
  | exact Or.inl (Ze.arg (by assumption) Wd)
  | exact Or.inr (Z62.arg (by assumption) Wd)
  | exact Or.inl (Ze.arg (Ze.sl (by assumption)) Wd)
  | exact Or.inl (Ze.arg (by apply_assumption;assumption) Wd)
  | exact Or.inl (Ze.arg (Ze.sl (by apply_assumption;assumption)) Wd)
  | fail):p:=h
theorem Wob {p:Prop} (h:p:=by first
  | ((with_reducible refine WoN ?_);exact rfl)
  | exact trivial
  | ((with_reducible refine WoT ?_);exact Wtr)
  | ((with_reducible refine WoI ?_);intro hg;first | exact Bool.noConfusion hg | ((try dsimp only [X5,Z0z] at hg);exact Wob) | fail)
  | ((with_reducible refine WoK ?_);exact Wok)
  | ((with_reducible refine WoL ?_);exact X4.arg (by assumption) Wd)
  | ((with_reducible refine WoV ?_);first | exact Ze.arg (by assumption) Wd | exact Ze.arg (by apply_assumption;assumption) Wd | fail)
  | ((with_reducible refine WoA ?_);exact Wcl)
  | ((with_reducible refine WoD ?_);kernel_rfl)
  | ((with_reducible refine Wol1 ?_);exact Wlt)
  | ((with_reducible refine WoE ?_);exact Wy)
  | ((with_reducible refine WoB ?_);exact rfl)
  | ((with_reducible refine And.intro ?_ ?_);(focus exact Wob);(focus exact Wob))
  | (dsimp only [X5,Z0z];first | with_reducible assumption | omega | fail)
  | exact Wcl
  | assumption
  | fail):p:=h
theorem WoS {a b:ByteArray} (h:a=b):(std Tryz.prog).eqS a b:=h
theorem WoC {o m n:Int} (h0:0≤o) (h1:0≤m) (h2:o+m≤n):(std Tryz.prog).cut o ((std Tryz.prog).add o m) n:=cut_end h0 h1 h2
theorem WrA {p:Prop} (h:p:=by first
  | (intro i _ _
     repeat' first | exact agg0 | refine aggS ?_ ?_ | exact Wrt | fail
     first | done | fail)
  | fail):p:=h
theorem Wrt {p:Prop} (h:p:=by
  (try (generalize hp:std Tryz.prog=p;generalize hv:nvS=nv;cbv;subst hp hv))
  repeat' first
  | with_reducible refine And.intro ?_ ?_
  | exact trivial
  | ((with_reducible refine WoN ?_);exact rfl)
  | ((with_reducible refine WoE ?_);(try subst he);exact Wy)
  | ((with_reducible refine WoB ?_);(try subst he);exact rfl)
  | ((with_reducible refine WoS ?_);(try subst he);exact rfl)
  | ((with_reducible refine WoI ?_);exact (fun h=>Bool.noConfusion h))
  | ((with_reducible refine out0_all ?_ ?_);(focus exact Woc);(try subst he);(focus exact Wp))
  | ((with_reducible refine WoA ?_);exact WrA)
  | ((with_reducible refine WoC ?_ ?_ ?_);(focus ((try subst he);exact Wm));(focus exact Zb _);(focus ((try subst he);exact Wm)))
  | ((try subst he);exact rfl)
  | exact Woc
  | fail
  first | done | fail):p:=h
theorem Wret {p:Prop} (h:p:=by
  (try dsimp only [noGoto,Z6r,Z5n])
  repeat (first | refine Wt ?_ | refine We ?_)
  first
  | exact retQ_ret rfl Wos Wrt
  | exact retQ_normal rfl Wos Wrt
  | exact lentQ_r rfl Wos Wrt Wrt
  | exact lentQ_n rfl Wos Wrt Wrt
  | fail):p:=h
theorem Wlv {p:Prop} (h:p:=by first
  | exact Wret
  | (cases he;first | (show LayP _ _ _ _ _ _ _ _;exact Yk) | ((try dsimp only [noGoto,Z6r,Z5n]);(repeat (first | refine Wt ?_ | refine We ?_));intro (he:_=_);exact Wlv) | fail)
  | fail):p:=h
theorem Wend {p:Prop} (h:p:=by
  first
  | (cases h;done)
  | (have he:=Option.some.inj h;clear h;exact Wlv)
  | fail):p:=h
theorem Wb {β:Type} {c d:Bool} {x y:Option β} {r:β} {A B:Prop} (h:Z6 c x y=some r) (e:c=d) (ht:c=true→x=some r→A) (hf:c=false→y=some r→B):(std Tryz.prog).ifb d A B :=
  ⟨fun hc=>ht (e.trans hc) (iteO_t h (e.trans hc)),fun hc=>hf (e.trans hc) (iteO_f h (e.trans hc))⟩
section
variable {β:Type} {k:Option β} {r:β} {G:Prop}
theorem Z5u {c C G:Prop} [Decidable c] (h:chk c k=some r) (f:c→C) (g:c→k=some r→G):C∧G:=⟨f (Xa h).1,g (Xa h).1 (Xa h).2⟩
theorem WsI {i n i' n':Int} (h:chk (0≤i∧i < n) k=some r) (ei:i=i') (en:n=n') (g:0≤i∧i < n→k=some r→G):(std Tryz.prog).inb i' n'∧G:=by
  subst ei;subst en;exact Z5u h (fun q=>q) fun q=>g q
theorem WgI {b d:Bool} {i n i' n':Int} (h:chk (b=true→0≤i∧i < n) k=some r) (eb:b=d) (ei:i=i') (en:n=n') (g:(b=true→0≤i∧i < n)→k=some r→G):(std Tryz.prog).imp d ((std Tryz.prog).inb i' n')∧G:=by
  subst eb;subst ei;subst en;exact Z5u h (fun q=>q) g
theorem WsR {K:IntKind} {x x':Int} (h:chk (inR K x) k=some r) (ex:x=x') (g:inR K x→k=some r→G):(std Tryz.prog).rng K x'∧G:=by
  subst ex;exact Z5u h (fun q=>q) fun q=>g q
theorem WgR {K:IntKind} {b d:Bool} {x x':Int} (h:chk (b=true→inR K x) k=some r) (eb:b=d) (ex:x=x') (g:(b=true→inR K x)→k=some r→G):(std Tryz.prog).imp d ((std Tryz.prog).rng K x')∧G:=by
  subst eb;subst ex;exact Z5u h (fun q=>q) g
theorem WsC {l m n l' m' n':Int} (h:chk (0≤l∧l≤m∧m≤n) k=some r) (el:l=l') (em:m=m') (en:n=n') (g:0≤l∧l≤m∧m≤n→k=some r→G):(std Tryz.prog).cut l' m' n'∧G:=by
  subst el;subst em;subst en;exact Z5u h (fun q=>q) fun q=>g q
theorem WgC {b d:Bool} {l m n l' m' n':Int} (h:chk (b=true→0≤l∧l≤m∧m≤n) k=some r) (eb:b=d) (el:l=l') (em:m=m') (en:n=n') (g:(b=true→0≤l∧l≤m∧m≤n)→k=some r→G):(std Tryz.prog).imp d ((std Tryz.prog).cut l' m' n')∧G:=by
  subst eb;subst el;subst em;subst en;exact Z5u h (fun q=>q) g
theorem WsG {B:Nat} {x x':Int} (h:chk (Yl B x) k=some r) (ex:x=x') (g:Yl B x→k=some r→G):(std Tryz.prog).grow B x'∧G:=by
  subst ex;exact Z5u h (fun q=>q) fun q=>g q
theorem WgG {B:Nat} {b d:Bool} {x x':Int} (h:chk (b=true→Yl B x) k=some r) (eb:b=d) (ex:x=x') (g:(b=true→Yl B x)→k=some r→G):(std Tryz.prog).imp d ((std Tryz.prog).grow B x')∧G:=by
  subst eb;subst ex;exact Z5u h (fun q=>q) g
theorem WsM {B:Nat} {l m l' m':Int} (h:chk (Xy B l m) k=some r) (el:l=l') (em:m=m') (g:Xy B l m∧0≤l∧l≤m→k=some r→G):(std Tryz.prog).make B l' m'∧G:=by
  subst el;subst em;exact Z5u h (fun q=>q) fun q=>g ⟨q,q.1,q.2.1⟩
theorem WgM {B:Nat} {b d:Bool} {l m l' m':Int} (h:chk (b=true→Xy B l m) k=some r) (eb:b=d) (el:l=l') (em:m=m') (g:(b=true→Xy B l m)→k=some r→G):(std Tryz.prog).imp d ((std Tryz.prog).make B l' m')∧G:=by
  subst eb;subst el;subst em;exact Z5u h (fun q=>q) g
theorem WsN {x x':Int} (h:chk (x≠0) k=some r) (ex:x=x') (g:x≠0→k=some r→G):(std Tryz.prog).ne0 x'∧G:=by
  subst ex;exact Z5u h (fun q=>q) fun q=>g q
theorem WgN {b d:Bool} {x x':Int} (h:chk (b=true→x≠0) k=some r) (eb:b=d) (ex:x=x') (g:(b=true→x≠0)→k=some r→G):(std Tryz.prog).imp d ((std Tryz.prog).ne0 x')∧G:=by
  subst eb;subst ex;exact Z5u h (fun q=>q) g
theorem WsZ {x x':Int} (h:chk ((0:Int)≤x) k=some r) (ex:x=x') (g:(0:Int)≤x→k=some r→G):(std Tryz.prog).ge0 x'∧G:=by
  subst ex;exact Z5u h (fun q=>q) fun q=>g q
theorem WgZ {b d:Bool} {x x':Int} (h:chk (b=true→(0:Int)≤x) k=some r) (eb:b=d) (ex:x=x') (g:(b=true→(0:Int)≤x)→k=some r→G):(std Tryz.prog).imp d ((std Tryz.prog).ge0 x')∧G:=by
  subst eb;subst ex;exact Z5u h (fun q=>q) g
end
theorem Wbt {A B:Prop} (h:A):(std Tryz.prog).ifb true A B:=⟨fun _=>h,fun h=>Bool.noConfusion h⟩
theorem Wbf {A B:Prop} (h:B):(std Tryz.prog).ifb false A B:=⟨fun h=>Bool.noConfusion h,fun _=>h⟩
theorem Wct {A B:Prop} {d:Bool} (e:d=true) (h:A):(std Tryz.prog).ifb d A B:=⟨fun _=>h,fun h=>absurd (e.symm.trans h) (by decide)⟩
theorem Wcf {A B:Prop} {d:Bool} (e:d=false) (h:B):(std Tryz.prog).ifb d A B:=⟨fun h=>absurd (e.symm.trans h) (by decide),fun _=>h⟩
theorem Wz {p:Prop} (h:p:=by
  intro N hN
  generalize hp:std Tryz.prog=p;generalize hv:nvS=nv;cbv;subst hp hv
  repeat' first
  | ((with_reducible refine Wb h ?_ ?_ ?_);(focus exact rfl);all_goals (clear h;intro hx h))
  | ((with_reducible refine WsI h ?_ ?_ ?_);(focus exact rfl);(focus exact rfl);(clear h;intro hx h);(try (have hx:=hx;simp only [Int.zero_add] at hx)))
  | ((with_reducible refine WsR h ?_ ?_);(focus exact rfl);(clear h;intro hx h))
  | ((with_reducible refine WsC h ?_ ?_ ?_ ?_);(focus exact rfl);(focus exact rfl);(focus exact rfl);(clear h;intro hx h);(try (have hx:=hx;simp only [Int.zero_add] at hx)))
  | ((with_reducible refine WsG h ?_ ?_);(focus exact rfl);(clear h;intro hx h))
  | ((with_reducible refine WsM h ?_ ?_ ?_);(focus exact rfl);(focus exact rfl);(clear h;intro hx h))
  | ((with_reducible refine WsN h ?_ ?_);(focus exact rfl);(clear h;intro hx h))
  | ((with_reducible refine WsZ h ?_ ?_);(focus exact rfl);(clear h;intro hx h))
  | ((with_reducible refine WgI h ?_ ?_ ?_ ?_);(focus exact rfl);(focus exact rfl);(focus exact rfl);(clear h;intro hx h))
  | ((with_reducible refine WgR h ?_ ?_ ?_);(focus exact rfl);(focus exact rfl);(clear h;intro hx h))
  | ((with_reducible refine WgC h ?_ ?_ ?_ ?_ ?_);(focus exact rfl);(focus exact rfl);(focus exact rfl);(focus exact rfl);(clear h;intro hx h))
  | ((with_reducible refine WgG h ?_ ?_ ?_);(focus exact rfl);(focus exact rfl);(clear h;intro hx h))
  | ((with_reducible refine WgM h ?_ ?_ ?_ ?_);(focus exact rfl);(focus exact rfl);(focus exact rfl);(clear h;intro hx h))
  | ((with_reducible refine WgN h ?_ ?_ ?_);(focus exact rfl);(focus exact rfl);(clear h;intro hx h))
  | ((with_reducible refine WgZ h ?_ ?_ ?_);(focus exact rfl);(focus exact rfl);(clear h;intro hx h))
  | (refine Wbn h (by with_reducible assumption) ?_;clear h;intro hx hx h;(try dsimp only at h))
  | with_reducible refine Wbt ?_
  | with_reducible refine Wbf ?_
  | ((with_reducible refine Wct ?_ ?_);(focus exact rfl))
  | ((with_reducible refine Wcf ?_ ?_);(focus exact rfl))
  | ((with_reducible refine And.intro ?_ ?_);(focus exact Wob))
  | (have hx:=(Xa h).1;replace h:=(Xa h).2)
  | (subst hN;exact Wend)
  | fail
  first | done | fail):p:=h
theorem Wq {G G':Prop} (k:G') (h:Kp G'→G:=by
  intro k h
  intro N hN
  generalize hp:std Tryz.prog=p;generalize hv:nvS=nv;cbv;subst hp hv
  repeat' first
  | ((with_reducible refine Wb h ?_ ?_ ?_);(focus exact rfl);all_goals (clear h;intro hx h))
  | ((with_reducible refine WsI h ?_ ?_ ?_);(focus exact rfl);(focus exact rfl);(clear h;intro hx h);(try (have hx:=hx;simp only [Int.zero_add] at hx)))
  | ((with_reducible refine WsR h ?_ ?_);(focus exact rfl);(clear h;intro hx h))
  | ((with_reducible refine WsC h ?_ ?_ ?_ ?_);(focus exact rfl);(focus exact rfl);(focus exact rfl);(clear h;intro hx h);(try (have hx:=hx;simp only [Int.zero_add] at hx)))
  | ((with_reducible refine WsG h ?_ ?_);(focus exact rfl);(clear h;intro hx h))
  | ((with_reducible refine WsM h ?_ ?_ ?_);(focus exact rfl);(focus exact rfl);(clear h;intro hx h))
  | ((with_reducible refine WsN h ?_ ?_);(focus exact rfl);(clear h;intro hx h))
  | ((with_reducible refine WsZ h ?_ ?_);(focus exact rfl);(clear h;intro hx h))
  | ((with_reducible refine WgI h ?_ ?_ ?_ ?_);(focus exact rfl);(focus exact rfl);(focus exact rfl);(clear h;intro hx h))
  | ((with_reducible refine WgR h ?_ ?_ ?_);(focus exact rfl);(focus exact rfl);(clear h;intro hx h))
  | ((with_reducible refine WgC h ?_ ?_ ?_ ?_ ?_);(focus exact rfl);(focus exact rfl);(focus exact rfl);(focus exact rfl);(clear h;intro hx h))
  | ((with_reducible refine WgG h ?_ ?_ ?_);(focus exact rfl);(focus exact rfl);(clear h;intro hx h))
  | ((with_reducible refine WgM h ?_ ?_ ?_ ?_);(focus exact rfl);(focus exact rfl);(focus exact rfl);(clear h;intro hx h))
  | ((with_reducible refine WgN h ?_ ?_ ?_);(focus exact rfl);(focus exact rfl);(clear h;intro hx h))
  | ((with_reducible refine WgZ h ?_ ?_ ?_);(focus exact rfl);(focus exact rfl);(clear h;intro hx h))
  | (refine Wbn h (by with_reducible assumption) ?_;clear h;intro hx hx h;(try dsimp only at h))
  | with_reducible refine Wbt ?_
  | with_reducible refine Wbf ?_
  | ((with_reducible refine Wct ?_ ?_);(focus exact rfl))
  | ((with_reducible refine Wcf ?_ ?_);(focus exact rfl))
  | ((with_reducible refine And.intro ?_ ?_);(focus exact Wob))
  | (have hx:=(Xa h).1;replace h:=(Xa h).2)
  | (clear k;cases h;first | done | fail)
  | (subst hN;(first | show Tr _ _ _ _ | show Z2u _ _ _ _ _ _ _ | fail);(repeat revert hx);revert h;exact k.get)
  | (clear k;subst hN;exact Wend)
  | fail
  first | done | fail):G:=h ⟨k⟩

abbrev cxW (K:List (Nat × Nat)) (O:List (Nat × CallR)) (I:List Nat) (m:Nat) (G:List (Nat × List Gh)):Cx:=⟨tt0,⟨fun f=>kOf K f,fun k _ _ _=>orcL O k,fun t=>memN I t⟩,m,fun r=>ghL G r⟩
section
variable {c:Code} {Q:Exit→St→Prop} {st:St} {K:List (Nat × Nat)} {O:List (Nat × CallR)}
theorem Wx (I:List Nat) (m:Nat) (G:List (Nat × List Gh)) (h : ∀ N,N=Q→wp (std Tryz.prog) (cxW [] [] I m G) c N st):Tr Tryz.prog c Q st:=Tr.chunk Z24 hPm h
theorem Wk (I:List Nat) (m:Nat) (G:List (Nat × List Gh)) (h : ∀ N,N=Q→wp (std Tryz.prog) (cxW K O I m G) c N st):TrK K O Tryz.prog c Q st:=Tr.chunk Z24 hPm h
theorem Wxp (n:Nat) (I:List Nat) (m:Nat) (G:List (Nat × List Gh)) (h : ∀ N,N=Q→wpPre (std Tryz.prog) (cxW [] [] I m G) n c N st):Tr Tryz.prog c Q st:=Tr.pre Z24 hPm n h
theorem Wkp (n:Nat) (I:List Nat) (m:Nat) (G:List (Nat × List Gh)) (h : ∀ N,N=Q→wpPre (std Tryz.prog) (cxW K O I m G) n c N st):TrK K O Tryz.prog c Q st:=Tr.pre Z24 hPm n h
section
variable {α γ:Type} {A:Option (Fl α γ)} {k:α→Option γ} {r:γ}
theorem Wkc (n:Nat) (I:List Nat) (m:Nat) (G:List (Nat × List Gh)) (h:Zp A k=some r) (c0:Nat) (J U:List (Nat × Nat)) (F:α→Hid→Fr)
    (hB : ∀ (x:α) (c1:Nat) (g:Nat→Nat) (t:Nat→Bool),c0 < c1→(∀ k,g k < c1)→(F x ⟨c1,g,t⟩).p ()→k x=some r→Tr Tryz.prog (restN n c) Q (MF st J U F x ⟨c1,g,t⟩)) (hA : ∀ f,A=some f→∀ N,N=stepF Tryz.prog st c0 J U F r Q f→wpCut (std Tryz.prog) (cxW K O I m G) N n c st):TrK K O Tryz.prog c Q st:=WcutN Z24 hPm n h c0 J U F hB hA
end
theorem Wyp (n:Nat) (I:List Nat) (m:Nat) (G:List (Nat × List Gh)) {L:Prop} (h:L→∀ N,N=Q→wpPre (std Tryz.prog) (cxW [] [] I m G) n c N st):L→Tr Tryz.prog c Q st:=fun l=>Tr.pre Z24 hPm n (h l)
theorem Wjp (n:Nat) (I:List Nat) (m:Nat) (G:List (Nat × List Gh)) {L:Prop} (h:L→∀ N,N=Q→wpPre (std Tryz.prog) (cxW K O I m G) n c N st):L→TrK K O Tryz.prog c Q st:=fun l=>Tr.pre Z24 hPm n (h l)
theorem Wyt (n:Nat) (I:List Nat) (m:Nat) (G:List (Nat × List Gh)) {L:Prop} {id:Nat} {ops:Array Oper} {draw:Bool} (h:L→∀ N,N=Z2u (std Tryz.prog) (cxW [] [] I m G) ops draw n (Q .normal)→wpHead (std Tryz.prog) (cxW [] [] I m G) id ops n N st):L→Tr Tryz.prog (.region id ops draw) Q st:=fun l=>Tr.parts Z24 hPm n (h l)
theorem Wmore (n:Nat) {L:Prop} {cx:Cx} {ops:Array Oper} {draw:Bool} {a:Nat} {Q:St→Prop} {st:St} (h:L→∀ N,N=Z2u (std Tryz.prog) cx ops draw (a+n) Q→wpMid (std Tryz.prog) cx ops a n N st):L→Z2u (std Tryz.prog) cx ops draw a Q st:=fun l=>Z2u.more n (h l)
theorem Wlast {L:Prop} {cx:Cx} {ops:Array Oper} {draw:Bool} {a:Nat} {Q:St→Prop} {st:St} (h:L→∀ N,N=Q→Z2u (std Tryz.prog) cx ops draw a N st):L→Z2u (std Tryz.prog) cx ops draw a Q st:=fun l=>Z2u.last (h l)
end
theorem Wfn {f:FuncId} {args:List D} {res:D} {fn:Func} (hf:Tryz.prog.funcs[f]? = some fn) (c:Code) (h : ∀ ctr,0 < ctr→Tr Tryz.prog c (retQ (std Tryz.prog) tt0 fn.results.toList res) (door args fn.ntmps ctr)) (hn:(fn.name == "runtime.NumGoroutine")=false:=by kernel_rfl) (hb:fn.body=some c:=by kernel_rfl):Ze Tryz.prog f args res:=fn_tr Z24 hf hn hb h
theorem Wfl {f:FuncId} {args:List D} {pre post:List Ob} {res:D} {fn:Func} (hf:Tryz.prog.funcs[f]? = some fn) (c:Code) (h : ∀ ctr,0 < ctr→Tr Tryz.prog c (lentQ (std Tryz.prog) tt0 fn.results.toList post res) (doorL args pre fn.ntmps ctr)) (hn:(fn.name == "runtime.NumGoroutine")=false:=by kernel_rfl) (hb:fn.body=some c:=by kernel_rfl) (hl:post.length=pre.length:=by rfl):X4 Tryz.prog f args pre post res:=lent_tr Z24 hf hn hb hl h
theorem Wcnil (t x a d:Nat) {α γ:Type} {n:Int} {A1 A2:Option (Fl α γ)} {k:α→Option γ} {r:γ} (h:nilO n (Zp A1 k) (Zp A2 k)=some r) (c0:Nat) (J U:List (Nat × Nat)) (F:α→Hid→Fr) {ti:TI} {e:TypeId} {id:Nat} {oa od:Oper} {yt:TypeId} {ca b:Code} {Q:Exit→St→Prop} {st:St} {sz:Nat} {tight:Bool} {f:Int→Nat→D}
    (hB : ∀ (x:α) (c1:Nat) (g:Nat→Nat) (t:Nat→Bool),c0 < c1→(∀ k,g k < c1)→(F x ⟨c1,g,t⟩).p ()→k x=some r→Tr Tryz.prog b Q (MF st J U F x ⟨c1,g,t⟩))
    (h1:n=0→∀ f,A1=some f→Tr Tryz.prog ca (stepF Tryz.prog st c0 J U F r Q f) ⟨(st.slots.set a .junk).set d (.v (.bool true)),st.objs,st.ctr⟩)
    (h2 : ∀ f,A2=some f→Tr Tryz.prog ca (stepF Tryz.prog st c0 J U F r Q f) ⟨(st.slots.set a .junk).set d (.v (.bool false)),st.objs,st.ctr⟩)
    (ht:Xx tt0 t=some ti:=by rfl) (hk:ti.kind = .slice e:=by rfl) (ha:oa.op = .move (.tmp x)∧oa.dst=some a∧oa.guard=none:=by exact ⟨rfl,rfl,rfl⟩) (hd:od.op = .binOp .eql t (.tmp a) (.const (.slice none 0 0)) yt∧od.dst=some d∧od.guard=none:=by exact ⟨rfl,rfl,rfl⟩)
    (hs:st.slots.getD x .junk = .sl sz n tight f:=by rfl) (hal:a < st.slots.length:=by exact of_decide_eq_true rfl):Tr Tryz.prog (.seq (.seq (.region id #[oa,od] false) ca) b) Q st:=nil_cut Z24 h c0 J U F ht hk ha hd hs hal hB h1 h2
end Go.Vx
