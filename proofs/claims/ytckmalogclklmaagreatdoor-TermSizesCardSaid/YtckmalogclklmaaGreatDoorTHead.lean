/- Walks, by program (lift.py): the code does what the lifted functions say. -/
import Derived.Test.YtckmalogclklmaaGreatDoorTLift
import Derived.Test.YtckmalogclklmaaGreatDoorChecked
set_option linter.all false
namespace Go.Vx
open Go.Proofs
set_option maxRecDepth 100000
set_option maxHeartbeats 8000000
set_option linter.unusedVariables false
set_option linter.unusedSimpArgs false
attribute [local irreducible] chk ay av aM lI
def BK (nv:Nv) (x:jG) (j:Nat):D:=match j with
  | 0=>(.v (.int .i64 x.U4))
  | 1=>(.v (.int .i64 x.aci))
  | _=>.junk
def oW (nv:Nv) (x:dK) (j:Nat):D:=match j with
  | 0=>(.v (.int .i64 x.fLo))
  | 1=>(.v (.int .i64 x.fHi))
  | 2=>(.v (.int .i64 x.fV))
  | _=>.junk
def BL (nv:Nv) (x:eY) (j:Nat):D:=match j with
  | 0=>(.sl 3 (nv.len x.fL) false (fun ix jx=>(oW nv (nv.get lJ x.fL ix) jx)))
  | _=>.junk
def wJ (nv:Nv) (x:gy) (j:Nat):D:=match j with
  | 0=>(.v (.int .i64 x.fA))
  | 1=>(.v (.int .i64 x.fB))
  | _=>.junk
def zL (nv:Nv) (x:gI) (j:Nat):D:=match j with
  | 0=>(.v (.int .i64 x.fR))
  | 1=>(.v (.int .i64 x.ko))
  | 2=>(.v (.int .i64 x.fN))
  | _=>.junk
def ER (nv:Nv) (x:dz) (j:Nat):D:=match j with
  | 0=>(.sl 3 (nv.len x.Zh.fL) false (fun ix jx=>(oW nv (nv.get lJ x.Zh.fL ix) jx)))
  | 1=>(.sl 3 (nv.len x.acj.fL) false (fun ix jx=>(oW nv (nv.get lJ x.acj.fL ix) jx)))
  | 2=>(.sl 3 (nv.len x.acn.fL) false (fun ix jx=>(oW nv (nv.get lJ x.acn.fL ix) jx)))
  | 3=>(.sl 2 (nv.len x.abv) false (fun ix jx=>(wJ nv (nv.get zM x.abv ix) jx)))
  | 4=>(.sl 2 (nv.len x.X0) false (fun ix jx=>(wJ nv (nv.get zM x.X0 ix) jx)))
  | 5=>(.sl 3 (nv.len x.Oj) false (fun ix jx=>(zL nv (nv.get zN x.Oj ix) jx)))
  | _=>.junk
def zO (nv:Nv) (x:bS) (j:Nat):D:=match j with
  | 0=>(.v (.int .i64 x.fH))
  | 1=>(.v (.int .i64 x.fW))
  | 2=>(.v (.int .i64 x.jO))
  | 3=>(.v (.int .i64 x.eZ))
  | _=>.junk
def Ol (nv:Nv) (x:qB) (j:Nat):D:=match j with
  | 0=>(.v (.int .u8 x.x0))
  | 1=>(.v (.int .u8 x.x1))
  | 2=>(.v (.int .u8 x.x2))
  | 3=>(.v (.int .u8 x.x3))
  | _=>.junk
def zP (nv:Nv) (x:eG) (j:Nat):D:=match j with
  | 0=>(.v (.int .u8 x.fG.x0))
  | 1=>(.v (.int .u8 x.fG.x1))
  | 2=>(.v (.int .u8 x.fG.x2))
  | 3=>(.v (.int .u8 x.fG.x3))
  | 4=>(.v (.int .i64 x.jH))
  | 5=>(.v (.int .i64 x.kr))
  | 6=>(.v (.int .i64 x.fq))
  | _=>.junk
def Ia (nv:Nv) (x:fZ) (j:Nat):D:=match j with
  | 0=>(.v (.int .i64 x.jP))
  | 1=>(.v (.int .i64 x.jQ))
  | 2=>(.v (.int .i64 x.dU))
  | _=>.junk
def zQ (nv:Nv) (x:cB) (j:Nat):D:=match j with
  | 0=>(.v (.int .i64 x.fX))
  | 1=>(.v (.int .i64 x.fY))
  | 2=>(.v (.bool x.bX))
  | 3=>(.v (.bool x.dH))
  | 4=>(.v (.int .i64 x.bI.jP))
  | 5=>(.v (.int .i64 x.bI.jQ))
  | 6=>(.v (.int .i64 x.bI.dU))
  | 7=>(.v (.int .u8 x.aN.fG.x0))
  | 8=>(.v (.int .u8 x.aN.fG.x1))
  | 9=>(.v (.int .u8 x.aN.fG.x2))
  | 10=>(.v (.int .u8 x.aN.fG.x3))
  | 11=>(.v (.int .i64 x.aN.jH))
  | 12=>(.v (.int .i64 x.aN.kr))
  | 13=>(.v (.int .i64 x.aN.fq))
  | _=>.junk
def wK (nv:Nv) (x:iV) (j:Nat):D:=match j with
  | 0=>(.v (.int .i64 x.x0))
  | 1=>(.v (.int .i64 x.x1))
  | _=>.junk
def dM (nv:Nv) (x:aV) (j:Nat):D:=match j with
  | 0=>(.v (.int .i64 x.fR))
  | 1=>(.v (.int .i64 x.fM.x0))
  | 2=>(.v (.int .i64 x.fM.x1))
  | 3=>(.v (.int .i64 x.fW))
  | 4=>(.v (.int .i64 x.bI.jP))
  | 5=>(.v (.int .i64 x.bI.jQ))
  | 6=>(.v (.int .i64 x.bI.dU))
  | _=>.junk
def bU (nv:Nv) (x:aQ) (j:Nat):D:=match j with
  | 0=>(.sl 7 (nv.len x.aH) false (fun ix jx=>(dM nv (nv.get aD x.aH ix) jx)))
  | 1=>(.v (.bool x.bX))
  | 2=>(.v (.int .i64 x.dJ))
  | 3=>(.v (.bool x.bL))
  | _=>.junk
def Jq (nv:Nv) (x:eP) (j:Nat):D:=match j with
  | 0=>(.sl 4 (nv.len x.aS) false (fun ix jx=>(bU nv (nv.get aA x.aS ix) jx)))
  | _=>.junk
def FR (nv:Nv) (x:eF) (j:Nat):D:=match j with
  | 0=>(.sl 1 (nv.len x.fL) false (fun ix jx=>(.v (.int .i64 (nv.get 0 x.fL ix)))))
  | 1=>(.v (.int .i64 x.fW))
  | _=>.junk
def BM (nv:Nv) (x:dS) (j:Nat):D:=match j with
  | 0=>(.sl 4 (nv.len x.aS) false (fun ix jx=>(bU nv (nv.get aA x.aS ix) jx)))
  | 1=>(.v (.int .i64 x.iF))
  | _=>.junk
def zR (nv:Nv) (x:bK) (j:Nat):D:=match j with
  | 0=>(.sl 4 (nv.len x.fG.aS) false (fun ix jx=>(bU nv (nv.get aA x.fG.aS ix) jx)))
  | 1=>(.v (.int .i64 x.fC.fX))
  | 2=>(.v (.int .i64 x.fC.fY))
  | 3=>(.v (.bool x.fC.bX))
  | 4=>(.v (.bool x.fC.dH))
  | 5=>(.v (.int .i64 x.fC.bI.jP))
  | 6=>(.v (.int .i64 x.fC.bI.jQ))
  | 7=>(.v (.int .i64 x.fC.bI.dU))
  | 8=>(.v (.int .u8 x.fC.aN.fG.x0))
  | 9=>(.v (.int .u8 x.fC.aN.fG.x1))
  | 10=>(.v (.int .u8 x.fC.aN.fG.x2))
  | 11=>(.v (.int .u8 x.fC.aN.fG.x3))
  | 12=>(.v (.int .i64 x.fC.aN.jH))
  | 13=>(.v (.int .i64 x.fC.aN.kr))
  | 14=>(.v (.int .i64 x.fC.aN.fq))
  | 15=>(.v (.int .i64 x.fR.fH))
  | 16=>(.v (.int .i64 x.fR.fW))
  | 17=>(.v (.int .i64 x.fR.jO))
  | 18=>(.v (.int .i64 x.fR.eZ))
  | 19=>(.sl 1 (nv.len x.fT.fL) false (fun ix jx=>(.v (.int .i64 (nv.get 0 x.fT.fL ix)))))
  | 20=>(.v (.int .i64 x.fT.fW))
  | 21=>(.sl 4 (nv.len x.fK.aS) false (fun ix jx=>(bU nv (nv.get aA x.fK.aS ix) jx)))
  | 22=>(.v (.int .i64 x.fK.iF))
  | 23=>(.v (.int .i64 x.dJ))
  | 24=>(.v (.bool x.bL))
  | _=>.junk
def Eb (nv:Nv) (x:iJ) (j:Nat):D:=match j with
  | 0=>(.v (.int .i64 x.mV))
  | _=>.junk
def Om (nv:Nv) (x:dG) (j:Nat):D:=match j with
  | 0=>(.v (.bool x.gU))
  | 1=>(.v (.int .i64 x.fn))
  | _=>.junk
def Dx (nv:Nv) (x:qC) (j:Nat):D:=match j with
  | 0=>(.v (.bool x.x0.gU))
  | 1=>(.v (.int .i64 x.x0.fn))
  | 2=>(.v (.bool x.x1.gU))
  | 3=>(.v (.int .i64 x.x1.fn))
  | 4=>(.v (.bool x.x2.gU))
  | 5=>(.v (.int .i64 x.x2.fn))
  | 6=>(.v (.bool x.x3.gU))
  | 7=>(.v (.int .i64 x.x3.fn))
  | 8=>(.v (.bool x.x4.gU))
  | 9=>(.v (.int .i64 x.x4.fn))
  | 10=>(.v (.bool x.x5.gU))
  | 11=>(.v (.int .i64 x.x5.fn))
  | 12=>(.v (.bool x.x6.gU))
  | 13=>(.v (.int .i64 x.x6.fn))
  | 14=>(.v (.bool x.x7.gU))
  | 15=>(.v (.int .i64 x.x7.fn))
  | 16=>(.v (.bool x.x8.gU))
  | 17=>(.v (.int .i64 x.x8.fn))
  | 18=>(.v (.bool x.x9.gU))
  | 19=>(.v (.int .i64 x.x9.fn))
  | 20=>(.v (.bool x.x10.gU))
  | 21=>(.v (.int .i64 x.x10.fn))
  | 22=>(.v (.bool x.x11.gU))
  | 23=>(.v (.int .i64 x.x11.fn))
  | 24=>(.v (.bool x.x12.gU))
  | 25=>(.v (.int .i64 x.x12.fn))
  | 26=>(.v (.bool x.x13.gU))
  | 27=>(.v (.int .i64 x.x13.fn))
  | 28=>(.v (.bool x.x14.gU))
  | 29=>(.v (.int .i64 x.x14.fn))
  | 30=>(.v (.bool x.x15.gU))
  | 31=>(.v (.int .i64 x.x15.fn))
  | 32=>(.v (.bool x.x16.gU))
  | 33=>(.v (.int .i64 x.x16.fn))
  | 34=>(.v (.bool x.x17.gU))
  | 35=>(.v (.int .i64 x.x17.fn))
  | 36=>(.v (.bool x.x18.gU))
  | 37=>(.v (.int .i64 x.x18.fn))
  | 38=>(.v (.bool x.x19.gU))
  | 39=>(.v (.int .i64 x.x19.fn))
  | 40=>(.v (.bool x.x20.gU))
  | 41=>(.v (.int .i64 x.x20.fn))
  | 42=>(.v (.bool x.x21.gU))
  | 43=>(.v (.int .i64 x.x21.fn))
  | 44=>(.v (.bool x.x22.gU))
  | 45=>(.v (.int .i64 x.x22.fn))
  | 46=>(.v (.bool x.x23.gU))
  | 47=>(.v (.int .i64 x.x23.fn))
  | _=>.junk
def zS (nv:Nv) (x:fO) (j:Nat):D:=match j with
  | 0=>(.v (.int .i64 x.x0.fX))
  | 1=>(.v (.int .i64 x.x0.fY))
  | 2=>(.v (.bool x.x0.bX))
  | 3=>(.v (.bool x.x0.dH))
  | 4=>(.v (.int .i64 x.x0.bI.jP))
  | 5=>(.v (.int .i64 x.x0.bI.jQ))
  | 6=>(.v (.int .i64 x.x0.bI.dU))
  | 7=>(.v (.int .u8 x.x0.aN.fG.x0))
  | 8=>(.v (.int .u8 x.x0.aN.fG.x1))
  | 9=>(.v (.int .u8 x.x0.aN.fG.x2))
  | 10=>(.v (.int .u8 x.x0.aN.fG.x3))
  | 11=>(.v (.int .i64 x.x0.aN.jH))
  | 12=>(.v (.int .i64 x.x0.aN.kr))
  | 13=>(.v (.int .i64 x.x0.aN.fq))
  | 14=>(.v (.int .i64 x.x1.fX))
  | 15=>(.v (.int .i64 x.x1.fY))
  | 16=>(.v (.bool x.x1.bX))
  | 17=>(.v (.bool x.x1.dH))
  | 18=>(.v (.int .i64 x.x1.bI.jP))
  | 19=>(.v (.int .i64 x.x1.bI.jQ))
  | 20=>(.v (.int .i64 x.x1.bI.dU))
  | 21=>(.v (.int .u8 x.x1.aN.fG.x0))
  | 22=>(.v (.int .u8 x.x1.aN.fG.x1))
  | 23=>(.v (.int .u8 x.x1.aN.fG.x2))
  | 24=>(.v (.int .u8 x.x1.aN.fG.x3))
  | 25=>(.v (.int .i64 x.x1.aN.jH))
  | 26=>(.v (.int .i64 x.x1.aN.kr))
  | 27=>(.v (.int .i64 x.x1.aN.fq))
  | _=>.junk
def oM (nv:Nv) (x:bf) (j:Nat):D:=match j with
  | 0=>(.sl 4 (nv.len x.aR.fG.aS) false (fun ix jx=>(bU nv (nv.get aA x.aR.fG.aS ix) jx)))
  | 1=>(.v (.int .i64 x.aR.fC.fX))
  | 2=>(.v (.int .i64 x.aR.fC.fY))
  | 3=>(.v (.bool x.aR.fC.bX))
  | 4=>(.v (.bool x.aR.fC.dH))
  | 5=>(.v (.int .i64 x.aR.fC.bI.jP))
  | 6=>(.v (.int .i64 x.aR.fC.bI.jQ))
  | 7=>(.v (.int .i64 x.aR.fC.bI.dU))
  | 8=>(.v (.int .u8 x.aR.fC.aN.fG.x0))
  | 9=>(.v (.int .u8 x.aR.fC.aN.fG.x1))
  | 10=>(.v (.int .u8 x.aR.fC.aN.fG.x2))
  | 11=>(.v (.int .u8 x.aR.fC.aN.fG.x3))
  | 12=>(.v (.int .i64 x.aR.fC.aN.jH))
  | 13=>(.v (.int .i64 x.aR.fC.aN.kr))
  | 14=>(.v (.int .i64 x.aR.fC.aN.fq))
  | 15=>(.v (.int .i64 x.aR.fR.fH))
  | 16=>(.v (.int .i64 x.aR.fR.fW))
  | 17=>(.v (.int .i64 x.aR.fR.jO))
  | 18=>(.v (.int .i64 x.aR.fR.eZ))
  | 19=>(.sl 1 (nv.len x.aR.fT.fL) false (fun ix jx=>(.v (.int .i64 (nv.get 0 x.aR.fT.fL ix)))))
  | 20=>(.v (.int .i64 x.aR.fT.fW))
  | 21=>(.sl 4 (nv.len x.aR.fK.aS) false (fun ix jx=>(bU nv (nv.get aA x.aR.fK.aS ix) jx)))
  | 22=>(.v (.int .i64 x.aR.fK.iF))
  | 23=>(.v (.int .i64 x.aR.dJ))
  | 24=>(.v (.bool x.aR.bL))
  | 25=>(.sl 4 (nv.len x.aT.fG.aS) false (fun ix jx=>(bU nv (nv.get aA x.aT.fG.aS ix) jx)))
  | 26=>(.v (.int .i64 x.aT.fC.fX))
  | 27=>(.v (.int .i64 x.aT.fC.fY))
  | 28=>(.v (.bool x.aT.fC.bX))
  | 29=>(.v (.bool x.aT.fC.dH))
  | 30=>(.v (.int .i64 x.aT.fC.bI.jP))
  | 31=>(.v (.int .i64 x.aT.fC.bI.jQ))
  | 32=>(.v (.int .i64 x.aT.fC.bI.dU))
  | 33=>(.v (.int .u8 x.aT.fC.aN.fG.x0))
  | 34=>(.v (.int .u8 x.aT.fC.aN.fG.x1))
  | 35=>(.v (.int .u8 x.aT.fC.aN.fG.x2))
  | 36=>(.v (.int .u8 x.aT.fC.aN.fG.x3))
  | 37=>(.v (.int .i64 x.aT.fC.aN.jH))
  | 38=>(.v (.int .i64 x.aT.fC.aN.kr))
  | 39=>(.v (.int .i64 x.aT.fC.aN.fq))
  | 40=>(.v (.int .i64 x.aT.fR.fH))
  | 41=>(.v (.int .i64 x.aT.fR.fW))
  | 42=>(.v (.int .i64 x.aT.fR.jO))
  | 43=>(.v (.int .i64 x.aT.fR.eZ))
  | 44=>(.sl 1 (nv.len x.aT.fT.fL) false (fun ix jx=>(.v (.int .i64 (nv.get 0 x.aT.fT.fL ix)))))
  | 45=>(.v (.int .i64 x.aT.fT.fW))
  | 46=>(.sl 4 (nv.len x.aT.fK.aS) false (fun ix jx=>(bU nv (nv.get aA x.aT.fK.aS ix) jx)))
  | 47=>(.v (.int .i64 x.aT.fK.iF))
  | 48=>(.v (.int .i64 x.aT.dJ))
  | 49=>(.v (.bool x.aT.bL))
  | 50=>(.v (.bool x.pX))
  | 51=>(.v (.int .i64 x.fM.mV))
  | 52=>(.v (.int .i64 x.aK.x0.fX))
  | 53=>(.v (.int .i64 x.aK.x0.fY))
  | 54=>(.v (.bool x.aK.x0.bX))
  | 55=>(.v (.bool x.aK.x0.dH))
  | 56=>(.v (.int .i64 x.aK.x0.bI.jP))
  | 57=>(.v (.int .i64 x.aK.x0.bI.jQ))
  | 58=>(.v (.int .i64 x.aK.x0.bI.dU))
  | 59=>(.v (.int .u8 x.aK.x0.aN.fG.x0))
  | 60=>(.v (.int .u8 x.aK.x0.aN.fG.x1))
  | 61=>(.v (.int .u8 x.aK.x0.aN.fG.x2))
  | 62=>(.v (.int .u8 x.aK.x0.aN.fG.x3))
  | 63=>(.v (.int .i64 x.aK.x0.aN.jH))
  | 64=>(.v (.int .i64 x.aK.x0.aN.kr))
  | 65=>(.v (.int .i64 x.aK.x0.aN.fq))
  | 66=>(.v (.int .i64 x.aK.x1.fX))
  | 67=>(.v (.int .i64 x.aK.x1.fY))
  | 68=>(.v (.bool x.aK.x1.bX))
  | 69=>(.v (.bool x.aK.x1.dH))
  | 70=>(.v (.int .i64 x.aK.x1.bI.jP))
  | 71=>(.v (.int .i64 x.aK.x1.bI.jQ))
  | 72=>(.v (.int .i64 x.aK.x1.bI.dU))
  | 73=>(.v (.int .u8 x.aK.x1.aN.fG.x0))
  | 74=>(.v (.int .u8 x.aK.x1.aN.fG.x1))
  | 75=>(.v (.int .u8 x.aK.x1.aN.fG.x2))
  | 76=>(.v (.int .u8 x.aK.x1.aN.fG.x3))
  | 77=>(.v (.int .i64 x.aK.x1.aN.jH))
  | 78=>(.v (.int .i64 x.aK.x1.aN.kr))
  | 79=>(.v (.int .i64 x.aK.x1.aN.fq))
  | 80=>(.sl 1 (nv.len x.lK) false (fun ix jx=>(.v (.int .u8 (nv.get 0 x.lK ix)))))
  | 81=>(.v (.string x.kY))
  | 82=>(.v (.int .i64 x.lM))
  | _=>.junk
def Jr (nv:Nv) (x:kK) (j:Nat):D:=match j with
  | 0=>(.sl 1 (nv.len x.fB) false (fun ix jx=>(.v (.int .u8 (nv.get 0 x.fB ix)))))
  | _=>.junk
def uF (nv:Nv) (x:iA) (j:Nat):D:=match j with
  | 0=>(.sl 1 (nv.len x.fL) false (fun ix jx=>(.sl 1 (nv.len (nv.get [] x.fL ix)) false (fun kL xL=>(.v (.int .i64 (nv.get 0 (nv.get [] x.fL ix) kL)))))))
  | 1=>(.v (.bool x.fOpen))
  | _=>.junk
def qb (nv:Nv) (x:dA) (j:Nat):D:=match j with
  | 0=>(.v (.int .i64 x.ko))
  | 1=>(.v (.string x.jD))
  | 2=>(.v (.bool x.vw))
  | 3=>(.sl 1 (nv.len x.eu.fL) false (fun ix jx=>(.sl 1 (nv.len (nv.get [] x.eu.fL ix)) false (fun kL xL=>(.v (.int .i64 (nv.get 0 (nv.get [] x.eu.fL ix) kL)))))))
  | 4=>(.v (.bool x.eu.fOpen))
  | 5=>(.v (.string x.fText))
  | 6=>(.v (.int .u8 x.vB))
  | _=>.junk
def qO (nv:Nv) (x:bP) (j:Nat):D:=match j with
  | 0=>(.sl 1 (nv.len x.fU.fB) false (fun ix jx=>(.v (.int .u8 (nv.get 0 x.fU.fB ix)))))
  | 1=>(.v (.int .i64 x.fP.ko))
  | 2=>(.v (.string x.fP.jD))
  | 3=>(.v (.bool x.fP.vw))
  | 4=>(.sl 1 (nv.len x.fP.eu.fL) false (fun ix jx=>(.sl 1 (nv.len (nv.get [] x.fP.eu.fL ix)) false (fun kL xL=>(.v (.int .i64 (nv.get 0 (nv.get [] x.fP.eu.fL ix) kL)))))))
  | 5=>(.v (.bool x.fP.eu.fOpen))
  | 6=>(.v (.string x.fP.fText))
  | 7=>(.v (.int .u8 x.fP.vB))
  | 8=>(.sl 4 (nv.len x.fS.aR.fG.aS) false (fun ix jx=>(bU nv (nv.get aA x.fS.aR.fG.aS ix) jx)))
  | 9=>(.v (.int .i64 x.fS.aR.fC.fX))
  | 10=>(.v (.int .i64 x.fS.aR.fC.fY))
  | 11=>(.v (.bool x.fS.aR.fC.bX))
  | 12=>(.v (.bool x.fS.aR.fC.dH))
  | 13=>(.v (.int .i64 x.fS.aR.fC.bI.jP))
  | 14=>(.v (.int .i64 x.fS.aR.fC.bI.jQ))
  | 15=>(.v (.int .i64 x.fS.aR.fC.bI.dU))
  | 16=>(.v (.int .u8 x.fS.aR.fC.aN.fG.x0))
  | 17=>(.v (.int .u8 x.fS.aR.fC.aN.fG.x1))
  | 18=>(.v (.int .u8 x.fS.aR.fC.aN.fG.x2))
  | 19=>(.v (.int .u8 x.fS.aR.fC.aN.fG.x3))
  | 20=>(.v (.int .i64 x.fS.aR.fC.aN.jH))
  | 21=>(.v (.int .i64 x.fS.aR.fC.aN.kr))
  | 22=>(.v (.int .i64 x.fS.aR.fC.aN.fq))
  | 23=>(.v (.int .i64 x.fS.aR.fR.fH))
  | 24=>(.v (.int .i64 x.fS.aR.fR.fW))
  | 25=>(.v (.int .i64 x.fS.aR.fR.jO))
  | 26=>(.v (.int .i64 x.fS.aR.fR.eZ))
  | 27=>(.sl 1 (nv.len x.fS.aR.fT.fL) false (fun ix jx=>(.v (.int .i64 (nv.get 0 x.fS.aR.fT.fL ix)))))
  | 28=>(.v (.int .i64 x.fS.aR.fT.fW))
  | 29=>(.sl 4 (nv.len x.fS.aR.fK.aS) false (fun ix jx=>(bU nv (nv.get aA x.fS.aR.fK.aS ix) jx)))
  | 30=>(.v (.int .i64 x.fS.aR.fK.iF))
  | 31=>(.v (.int .i64 x.fS.aR.dJ))
  | 32=>(.v (.bool x.fS.aR.bL))
  | 33=>(.sl 4 (nv.len x.fS.aT.fG.aS) false (fun ix jx=>(bU nv (nv.get aA x.fS.aT.fG.aS ix) jx)))
  | 34=>(.v (.int .i64 x.fS.aT.fC.fX))
  | 35=>(.v (.int .i64 x.fS.aT.fC.fY))
  | 36=>(.v (.bool x.fS.aT.fC.bX))
  | 37=>(.v (.bool x.fS.aT.fC.dH))
  | 38=>(.v (.int .i64 x.fS.aT.fC.bI.jP))
  | 39=>(.v (.int .i64 x.fS.aT.fC.bI.jQ))
  | 40=>(.v (.int .i64 x.fS.aT.fC.bI.dU))
  | 41=>(.v (.int .u8 x.fS.aT.fC.aN.fG.x0))
  | 42=>(.v (.int .u8 x.fS.aT.fC.aN.fG.x1))
  | 43=>(.v (.int .u8 x.fS.aT.fC.aN.fG.x2))
  | 44=>(.v (.int .u8 x.fS.aT.fC.aN.fG.x3))
  | 45=>(.v (.int .i64 x.fS.aT.fC.aN.jH))
  | 46=>(.v (.int .i64 x.fS.aT.fC.aN.kr))
  | 47=>(.v (.int .i64 x.fS.aT.fC.aN.fq))
  | 48=>(.v (.int .i64 x.fS.aT.fR.fH))
  | 49=>(.v (.int .i64 x.fS.aT.fR.fW))
  | 50=>(.v (.int .i64 x.fS.aT.fR.jO))
  | 51=>(.v (.int .i64 x.fS.aT.fR.eZ))
  | 52=>(.sl 1 (nv.len x.fS.aT.fT.fL) false (fun ix jx=>(.v (.int .i64 (nv.get 0 x.fS.aT.fT.fL ix)))))
  | 53=>(.v (.int .i64 x.fS.aT.fT.fW))
  | 54=>(.sl 4 (nv.len x.fS.aT.fK.aS) false (fun ix jx=>(bU nv (nv.get aA x.fS.aT.fK.aS ix) jx)))
  | 55=>(.v (.int .i64 x.fS.aT.fK.iF))
  | 56=>(.v (.int .i64 x.fS.aT.dJ))
  | 57=>(.v (.bool x.fS.aT.bL))
  | 58=>(.v (.bool x.fS.pX))
  | 59=>(.v (.int .i64 x.fS.fM.mV))
  | 60=>(.v (.int .i64 x.fS.aK.x0.fX))
  | 61=>(.v (.int .i64 x.fS.aK.x0.fY))
  | 62=>(.v (.bool x.fS.aK.x0.bX))
  | 63=>(.v (.bool x.fS.aK.x0.dH))
  | 64=>(.v (.int .i64 x.fS.aK.x0.bI.jP))
  | 65=>(.v (.int .i64 x.fS.aK.x0.bI.jQ))
  | 66=>(.v (.int .i64 x.fS.aK.x0.bI.dU))
  | 67=>(.v (.int .u8 x.fS.aK.x0.aN.fG.x0))
  | 68=>(.v (.int .u8 x.fS.aK.x0.aN.fG.x1))
  | 69=>(.v (.int .u8 x.fS.aK.x0.aN.fG.x2))
  | 70=>(.v (.int .u8 x.fS.aK.x0.aN.fG.x3))
  | 71=>(.v (.int .i64 x.fS.aK.x0.aN.jH))
  | 72=>(.v (.int .i64 x.fS.aK.x0.aN.kr))
  | 73=>(.v (.int .i64 x.fS.aK.x0.aN.fq))
  | 74=>(.v (.int .i64 x.fS.aK.x1.fX))
  | 75=>(.v (.int .i64 x.fS.aK.x1.fY))
  | 76=>(.v (.bool x.fS.aK.x1.bX))
  | 77=>(.v (.bool x.fS.aK.x1.dH))
  | 78=>(.v (.int .i64 x.fS.aK.x1.bI.jP))
  | 79=>(.v (.int .i64 x.fS.aK.x1.bI.jQ))
  | 80=>(.v (.int .i64 x.fS.aK.x1.bI.dU))
  | 81=>(.v (.int .u8 x.fS.aK.x1.aN.fG.x0))
  | 82=>(.v (.int .u8 x.fS.aK.x1.aN.fG.x1))
  | 83=>(.v (.int .u8 x.fS.aK.x1.aN.fG.x2))
  | 84=>(.v (.int .u8 x.fS.aK.x1.aN.fG.x3))
  | 85=>(.v (.int .i64 x.fS.aK.x1.aN.jH))
  | 86=>(.v (.int .i64 x.fS.aK.x1.aN.kr))
  | 87=>(.v (.int .i64 x.fS.aK.x1.aN.fq))
  | 88=>(.sl 1 (nv.len x.fS.lK) false (fun ix jx=>(.v (.int .u8 (nv.get 0 x.fS.lK ix)))))
  | 89=>(.v (.string x.fS.kY))
  | 90=>(.v (.int .i64 x.fS.lM))
  | 91=>(.v (.int .i64 x.jl))
  | _=>.junk
def BN (nv:Nv) (x:mK) (j:Nat):D:=match j with
  | 0=>(.sl 1 (nv.len x.fb) false (fun ix jx=>(.v (.int .u8 (nv.get 0 x.fb ix)))))
  | _=>.junk
def Nq (nv:Nv) (x:uG) (j:Nat):D:=match j with
  | 0=>(.v (.int .i64 x.vB))
  | 1=>(.v (.int .i64 x.abw))
  | 2=>(.v (.int .i64 x.agL))
  | 3=>(.v (.int .i64 x.fX))
  | 4=>(.v (.int .i64 x.fY))
  | _=>.junk
def ES (nv:Nv) (x:kR) (j:Nat):D:=match j with
  | 0=>(.v (.int .i64 x.Ib))
  | 1=>(.v (.int .i64 x.fA))
  | 2=>(.v (.int .i64 x.fB))
  | 3=>(.v (.int .i64 x.fC))
  | 4=>(.v (.int .i64 x.fD))
  | 5=>(.sl 1 (nv.len x.Zi) false (fun ix jx=>(.v (.int .u8 (nv.get 0 x.Zi ix)))))
  | 6=>(.v (.int .i64 x.Oo.vB))
  | 7=>(.v (.int .i64 x.Oo.abw))
  | 8=>(.v (.int .i64 x.Oo.agL))
  | 9=>(.v (.int .i64 x.Oo.fX))
  | 10=>(.v (.int .i64 x.Oo.fY))
  | _=>.junk
def rO (nv:Nv) (x:dw) (j:Nat):D:=match j with
  | 0=>(.v (.int .i64 x.Ib))
  | 1=>(.v (.int .i64 x.fR))
  | 2=>(.v (.int .u8 x.aed))
  | 3=>(.v (.string x.jD))
  | 4=>(.sl 1 (nv.len x.eu) false (fun ix jx=>(.sl 1 (nv.len (nv.get [] x.eu ix)) false (fun kL xL=>(.v (.int .i64 (nv.get 0 (nv.get [] x.eu ix) kL)))))))
  | 5=>(.v (.string x.fText))
  | _=>.junk
def Ec (nv:Nv) (x:bJ) (j:Nat):D:=match j with
  | 0=>(.v (.string x.aee))
  | 1=>(.v (.int .u8 x.aef))
  | 2=>(.fn (.func (nv.fF x.fdo)) (nv.fK x.fdo) (nv.fC x.fdo))
  | _=>.junk
def BO (nv:Nv) (x:j4) (j:Nat):D:=match j with
  | 0=>(.v (.int .i64 x.j5))
  | 1=>(.v (.int .i64 x.ko))
  | _=>.junk
def bY (nv:Nv) (x:aI) (j:Nat):D:=match j with
  | 0=>(.sl 7 (nv.len x.aH) false (fun ix jx=>(dM nv (nv.get aD x.aH ix) jx)))
  | 1=>(.v (.int .i64 x.dJ))
  | 2=>(.v (.bool x.bL))
  | _=>.junk
def Dy (nv:Nv) (x:qD) (j:Nat):D:=match j with
  | 0=>(.sl 1 (nv.len x.fl) false (fun ix jx=>(.v (.int .i64 (nv.get 0 x.fl ix)))))
  | _=>.junk
def oN (nv:Nv) (x:iw) (j:Nat):D:=match j with
  | 0=>(.v (.int .i64 x.aeg))
  | 1=>(.v (.int .i64 x.X3))
  | 2=>(.v (.bool x.afk))
  | _=>.junk
def zT (nv:Nv) (x:iK) (j:Nat):D:=match j with
  | 0=>(.sl 3 (nv.len x.fl) false (fun ix jx=>(oN nv (nv.get rP x.fl ix) jx)))
  | _=>.junk
def Dh (nv:Nv) (x:iN) (j:Nat):D:=match j with
  | 0=>(.sl 1 (nv.len x.iY) false (fun ix jx=>(.v (.int .i64 (nv.get 0 x.iY ix)))))
  | 1=>(.sl 1 (nv.len x.lN) false (fun ix jx=>(.v (.int .i64 (nv.get 0 x.lN ix)))))
  | 2=>(.sl 1 (nv.len x.jm) false (fun ix jx=>(.v (.bool (nv.get false x.jm ix)))))
  | _=>.junk
def Ic (nv:Nv) (x:kF) (j:Nat):D:=match j with
  | 0=>(.sl 1 (nv.len x.fl) false (fun ix jx=>(.v (.int .i64 (nv.get 0 x.fl ix)))))
  | 1=>(.sl 1 (nv.len x.JY) false (fun ix jx=>(.v (.int .i64 (nv.get 0 x.JY ix)))))
  | 2=>(.v (.int .i64 x.ET))
  | 3=>(.sl 1 (nv.len x.kU.iY) false (fun ix jx=>(.v (.int .i64 (nv.get 0 x.kU.iY ix)))))
  | 4=>(.sl 1 (nv.len x.kU.lN) false (fun ix jx=>(.v (.int .i64 (nv.get 0 x.kU.lN ix)))))
  | 5=>(.sl 1 (nv.len x.kU.jm) false (fun ix jx=>(.v (.bool (nv.get false x.kU.jm ix)))))
  | 6=>(.sl 3 (nv.len x.zU.fl) false (fun ix jx=>(oN nv (nv.get rP x.zU.fl ix) jx)))
  | 7=>(.v (.int .i64 x.Dz))
  | 8=>(.v (.int .i64 x.xM))
  | 9=>(.v (.int .i64 x.Oq))
  | _=>.junk
def Js (nv:Nv) (x:gu) (j:Nat):D:=match j with
  | 0=>(.sl 1 (nv.len x.fl) false (fun ix jx=>(.v (.int .i64 (nv.get 0 x.fl ix)))))
  | 1=>(.v (.int .i64 x.xE))
  | _=>.junk
def SK (nv:Nv) (x:oJ) (j:Nat):D:=match j with
  | 0=>(.sl 1 (nv.len x.fl) false (fun ix jx=>(.v (.int .i64 (nv.get 0 x.fl ix)))))
  | 1=>(.sl 1 (nv.len x.aco) false (fun ix jx=>(.v (.int .i64 (nv.get 0 x.aco ix)))))
  | 2=>(.v (.int .i64 x.xE))
  | 3=>(.v (.int .i64 x.acp))
  | 4=>(.v (.int .i64 x.acr))
  | 5=>(.v (.int .i64 x.TH))
  | 6=>(.sl 2 (nv.len x.Ot) false (fun ix jx=>(wK nv (nv.get iL x.Ot ix) jx)))
  | _=>.junk
def yV (nv:Nv) (x:jR) (j:Nat):D:=match j with
  | 0=>(.v (.int .i64 x.YS))
  | 1=>(.v (.int .i64 x.fto))
  | 2=>(.sl 1 (nv.len x.Rt) false (fun ix jx=>(.v (.int .i64 (nv.get 0 x.Rt ix)))))
  | 3=>(.sl 1 (nv.len x.Rw) false (fun ix jx=>(.v (.int .i64 (nv.get 0 x.Rw ix)))))
  | 4=>(.v (.int .i64 x.ET))
  | _=>.junk
def Jt (nv:Nv) (x:kM) (j:Nat):D:=match j with
  | 0=>(.sl 1 (nv.len x.aiC) false (fun ix jx=>(.v (.int .i64 (nv.get 0 x.aiC ix)))))
  | 1=>(.sl 1 (nv.len x.afl) false (fun ix jx=>(.v (.int .i64 (nv.get 0 x.afl ix)))))
  | 2=>(.sl 7 (nv.len x.aH) false (fun ix jx=>(dM nv (nv.get aD x.aH ix) jx)))
  | 3=>(.v (.int .i64 x.alP))
  | _=>.junk
def tq (nv:Nv) (x:jo) (j:Nat):D:=match j with
  | 0=>(.v (.int .u8 x.fG.x0))
  | 1=>(.v (.int .u8 x.fG.x1))
  | 2=>(.v (.int .u8 x.fG.x2))
  | 3=>(.v (.int .u8 x.fG.x3))
  | 4=>(.v (.int .i64 x.jH))
  | 5=>(.v (.int .i64 x.kr))
  | 6=>(.v (.int .i64 x.fq))
  | _=>.junk
def kZ (nv:Nv) (x:dY) (j:Nat):D:=match j with
  | 0=>(.v (.int .i64 x.fX))
  | 1=>(.v (.int .i64 x.fY))
  | 2=>(.v (.bool x.bX))
  | 3=>(.v (.bool x.dH))
  | 4=>(.v (.int .i64 x.bI.jP))
  | 5=>(.v (.int .i64 x.bI.jQ))
  | 6=>(.v (.int .i64 x.bI.dU))
  | 7=>(.v (.int .u8 x.aN.fG.x0))
  | 8=>(.v (.int .u8 x.aN.fG.x1))
  | 9=>(.v (.int .u8 x.aN.fG.x2))
  | 10=>(.v (.int .u8 x.aN.fG.x3))
  | 11=>(.v (.int .i64 x.aN.jH))
  | 12=>(.v (.int .i64 x.aN.kr))
  | 13=>(.v (.int .i64 x.aN.fq))
  | _=>.junk
def uT (nv:Nv) (x:jK) (j:Nat):D:=match j with
  | 0=>(.sl 4 (nv.len x.aS) false (fun ix jx=>(bU nv (nv.get aA x.aS ix) jx)))
  | _=>.junk
def rQ (nv:Nv) (x:iZ) (j:Nat):D:=match j with
  | 0=>(.v (.int .i64 x.fH))
  | 1=>(.v (.int .i64 x.fW))
  | 2=>(.v (.int .i64 x.jO))
  | 3=>(.v (.int .i64 x.eZ))
  | _=>.junk
def ou (nv:Nv) (x:fQ) (j:Nat):D:=match j with
  | 0=>(.sl 1 (nv.len x.fL) false (fun ix jx=>(.v (.int .i64 (nv.get 0 x.fL ix)))))
  | 1=>(.v (.int .i64 x.fW))
  | _=>.junk
def pR (nv:Nv) (x:gL) (j:Nat):D:=match j with
  | 0=>(.sl 4 (nv.len x.aS) false (fun ix jx=>(bU nv (nv.get aA x.aS ix) jx)))
  | 1=>(.v (.int .i64 x.iF))
  | _=>.junk
def nM (nv:Nv) (x:dP) (j:Nat):D:=match j with
  | 0=>(.sl 4 (nv.len x.fG.aS) false (fun ix jx=>(bU nv (nv.get aA x.fG.aS ix) jx)))
  | 1=>(.v (.int .i64 x.fC.fX))
  | 2=>(.v (.int .i64 x.fC.fY))
  | 3=>(.v (.bool x.fC.bX))
  | 4=>(.v (.bool x.fC.dH))
  | 5=>(.v (.int .i64 x.fC.bI.jP))
  | 6=>(.v (.int .i64 x.fC.bI.jQ))
  | 7=>(.v (.int .i64 x.fC.bI.dU))
  | 8=>(.v (.int .u8 x.fC.aN.fG.x0))
  | 9=>(.v (.int .u8 x.fC.aN.fG.x1))
  | 10=>(.v (.int .u8 x.fC.aN.fG.x2))
  | 11=>(.v (.int .u8 x.fC.aN.fG.x3))
  | 12=>(.v (.int .i64 x.fC.aN.jH))
  | 13=>(.v (.int .i64 x.fC.aN.kr))
  | 14=>(.v (.int .i64 x.fC.aN.fq))
  | 15=>(.v (.int .i64 x.fR.fH))
  | 16=>(.v (.int .i64 x.fR.fW))
  | 17=>(.v (.int .i64 x.fR.jO))
  | 18=>(.v (.int .i64 x.fR.eZ))
  | 19=>(.sl 1 (nv.len x.fT.fL) false (fun ix jx=>(.v (.int .i64 (nv.get 0 x.fT.fL ix)))))
  | 20=>(.v (.int .i64 x.fT.fW))
  | 21=>(.sl 4 (nv.len x.fK.aS) false (fun ix jx=>(bU nv (nv.get aA x.fK.aS ix) jx)))
  | 22=>(.v (.int .i64 x.fK.iF))
  | 23=>(.v (.int .i64 x.dJ))
  | 24=>(.v (.bool x.bL))
  | _=>.junk
def tu (nv:Nv) (x:jq) (j:Nat):D:=match j with
  | 0=>(.v (.int .i64 x.mV))
  | _=>.junk
def nU (nv:Nv) (x:gV) (j:Nat):D:=match j with
  | 0=>(.v (.int .i64 x.x0.fX))
  | 1=>(.v (.int .i64 x.x0.fY))
  | 2=>(.v (.bool x.x0.bX))
  | 3=>(.v (.bool x.x0.dH))
  | 4=>(.v (.int .i64 x.x0.bI.jP))
  | 5=>(.v (.int .i64 x.x0.bI.jQ))
  | 6=>(.v (.int .i64 x.x0.bI.dU))
  | 7=>(.v (.int .u8 x.x0.aN.fG.x0))
  | 8=>(.v (.int .u8 x.x0.aN.fG.x1))
  | 9=>(.v (.int .u8 x.x0.aN.fG.x2))
  | 10=>(.v (.int .u8 x.x0.aN.fG.x3))
  | 11=>(.v (.int .i64 x.x0.aN.jH))
  | 12=>(.v (.int .i64 x.x0.aN.kr))
  | 13=>(.v (.int .i64 x.x0.aN.fq))
  | 14=>(.v (.int .i64 x.x1.fX))
  | 15=>(.v (.int .i64 x.x1.fY))
  | 16=>(.v (.bool x.x1.bX))
  | 17=>(.v (.bool x.x1.dH))
  | 18=>(.v (.int .i64 x.x1.bI.jP))
  | 19=>(.v (.int .i64 x.x1.bI.jQ))
  | 20=>(.v (.int .i64 x.x1.bI.dU))
  | 21=>(.v (.int .u8 x.x1.aN.fG.x0))
  | 22=>(.v (.int .u8 x.x1.aN.fG.x1))
  | 23=>(.v (.int .u8 x.x1.aN.fG.x2))
  | 24=>(.v (.int .u8 x.x1.aN.fG.x3))
  | 25=>(.v (.int .i64 x.x1.aN.jH))
  | 26=>(.v (.int .i64 x.x1.aN.kr))
  | 27=>(.v (.int .i64 x.x1.aN.fq))
  | _=>.junk
def oz (nv:Nv) (x:eX) (j:Nat):D:=match j with
  | 0=>(.sl 4 (nv.len x.aR.fG.aS) false (fun ix jx=>(bU nv (nv.get aA x.aR.fG.aS ix) jx)))
  | 1=>(.v (.int .i64 x.aR.fC.fX))
  | 2=>(.v (.int .i64 x.aR.fC.fY))
  | 3=>(.v (.bool x.aR.fC.bX))
  | 4=>(.v (.bool x.aR.fC.dH))
  | 5=>(.v (.int .i64 x.aR.fC.bI.jP))
  | 6=>(.v (.int .i64 x.aR.fC.bI.jQ))
  | 7=>(.v (.int .i64 x.aR.fC.bI.dU))
  | 8=>(.v (.int .u8 x.aR.fC.aN.fG.x0))
  | 9=>(.v (.int .u8 x.aR.fC.aN.fG.x1))
  | 10=>(.v (.int .u8 x.aR.fC.aN.fG.x2))
  | 11=>(.v (.int .u8 x.aR.fC.aN.fG.x3))
  | 12=>(.v (.int .i64 x.aR.fC.aN.jH))
  | 13=>(.v (.int .i64 x.aR.fC.aN.kr))
  | 14=>(.v (.int .i64 x.aR.fC.aN.fq))
  | 15=>(.v (.int .i64 x.aR.fR.fH))
  | 16=>(.v (.int .i64 x.aR.fR.fW))
  | 17=>(.v (.int .i64 x.aR.fR.jO))
  | 18=>(.v (.int .i64 x.aR.fR.eZ))
  | 19=>(.sl 1 (nv.len x.aR.fT.fL) false (fun ix jx=>(.v (.int .i64 (nv.get 0 x.aR.fT.fL ix)))))
  | 20=>(.v (.int .i64 x.aR.fT.fW))
  | 21=>(.sl 4 (nv.len x.aR.fK.aS) false (fun ix jx=>(bU nv (nv.get aA x.aR.fK.aS ix) jx)))
  | 22=>(.v (.int .i64 x.aR.fK.iF))
  | 23=>(.v (.int .i64 x.aR.dJ))
  | 24=>(.v (.bool x.aR.bL))
  | 25=>(.sl 4 (nv.len x.aT.fG.aS) false (fun ix jx=>(bU nv (nv.get aA x.aT.fG.aS ix) jx)))
  | 26=>(.v (.int .i64 x.aT.fC.fX))
  | 27=>(.v (.int .i64 x.aT.fC.fY))
  | 28=>(.v (.bool x.aT.fC.bX))
  | 29=>(.v (.bool x.aT.fC.dH))
  | 30=>(.v (.int .i64 x.aT.fC.bI.jP))
  | 31=>(.v (.int .i64 x.aT.fC.bI.jQ))
  | 32=>(.v (.int .i64 x.aT.fC.bI.dU))
  | 33=>(.v (.int .u8 x.aT.fC.aN.fG.x0))
  | 34=>(.v (.int .u8 x.aT.fC.aN.fG.x1))
  | 35=>(.v (.int .u8 x.aT.fC.aN.fG.x2))
  | 36=>(.v (.int .u8 x.aT.fC.aN.fG.x3))
  | 37=>(.v (.int .i64 x.aT.fC.aN.jH))
  | 38=>(.v (.int .i64 x.aT.fC.aN.kr))
  | 39=>(.v (.int .i64 x.aT.fC.aN.fq))
  | 40=>(.v (.int .i64 x.aT.fR.fH))
  | 41=>(.v (.int .i64 x.aT.fR.fW))
  | 42=>(.v (.int .i64 x.aT.fR.jO))
  | 43=>(.v (.int .i64 x.aT.fR.eZ))
  | 44=>(.sl 1 (nv.len x.aT.fT.fL) false (fun ix jx=>(.v (.int .i64 (nv.get 0 x.aT.fT.fL ix)))))
  | 45=>(.v (.int .i64 x.aT.fT.fW))
  | 46=>(.sl 4 (nv.len x.aT.fK.aS) false (fun ix jx=>(bU nv (nv.get aA x.aT.fK.aS ix) jx)))
  | 47=>(.v (.int .i64 x.aT.fK.iF))
  | 48=>(.v (.int .i64 x.aT.dJ))
  | 49=>(.v (.bool x.aT.bL))
  | 50=>(.v (.bool x.pX))
  | 51=>(.v (.int .i64 x.fM.mV))
  | 52=>(.v (.int .i64 x.aK.x0.fX))
  | 53=>(.v (.int .i64 x.aK.x0.fY))
  | 54=>(.v (.bool x.aK.x0.bX))
  | 55=>(.v (.bool x.aK.x0.dH))
  | 56=>(.v (.int .i64 x.aK.x0.bI.jP))
  | 57=>(.v (.int .i64 x.aK.x0.bI.jQ))
  | 58=>(.v (.int .i64 x.aK.x0.bI.dU))
  | 59=>(.v (.int .u8 x.aK.x0.aN.fG.x0))
  | 60=>(.v (.int .u8 x.aK.x0.aN.fG.x1))
  | 61=>(.v (.int .u8 x.aK.x0.aN.fG.x2))
  | 62=>(.v (.int .u8 x.aK.x0.aN.fG.x3))
  | 63=>(.v (.int .i64 x.aK.x0.aN.jH))
  | 64=>(.v (.int .i64 x.aK.x0.aN.kr))
  | 65=>(.v (.int .i64 x.aK.x0.aN.fq))
  | 66=>(.v (.int .i64 x.aK.x1.fX))
  | 67=>(.v (.int .i64 x.aK.x1.fY))
  | 68=>(.v (.bool x.aK.x1.bX))
  | 69=>(.v (.bool x.aK.x1.dH))
  | 70=>(.v (.int .i64 x.aK.x1.bI.jP))
  | 71=>(.v (.int .i64 x.aK.x1.bI.jQ))
  | 72=>(.v (.int .i64 x.aK.x1.bI.dU))
  | 73=>(.v (.int .u8 x.aK.x1.aN.fG.x0))
  | 74=>(.v (.int .u8 x.aK.x1.aN.fG.x1))
  | 75=>(.v (.int .u8 x.aK.x1.aN.fG.x2))
  | 76=>(.v (.int .u8 x.aK.x1.aN.fG.x3))
  | 77=>(.v (.int .i64 x.aK.x1.aN.jH))
  | 78=>(.v (.int .i64 x.aK.x1.aN.kr))
  | 79=>(.v (.int .i64 x.aK.x1.aN.fq))
  | 80=>(.sl 1 (nv.len x.lK) false (fun ix jx=>(.v (.int .u8 (nv.get 0 x.lK ix)))))
  | 81=>(.v (.string x.kY))
  | 82=>(.v (.int .i64 x.lM))
  | _=>.junk
def tC (nv:Nv) (x:jr) (j:Nat):D:=match j with
  | 0=>(.sl 1 (nv.len x.fB) false (fun ix jx=>(.v (.int .u8 (nv.get 0 x.fB ix)))))
  | _=>.junk
def uU (nv:Nv) (x:jL) (j:Nat):D:=match j with
  | 0=>(.sl 1 (nv.len x.fL) false (fun ix jx=>(.sl 1 (nv.len (nv.get [] x.fL ix)) false (fun kL xL=>(.v (.int .i64 (nv.get 0 (nv.get [] x.fL ix) kL)))))))
  | 1=>(.v (.bool x.fOpen))
  | _=>.junk
def oC (nv:Nv) (x:gF) (j:Nat):D:=match j with
  | 0=>(.v (.int .i64 x.ko))
  | 1=>(.v (.string x.jD))
  | 2=>(.v (.bool x.vw))
  | 3=>(.sl 1 (nv.len x.eu.fL) false (fun ix jx=>(.sl 1 (nv.len (nv.get [] x.eu.fL ix)) false (fun kL xL=>(.v (.int .i64 (nv.get 0 (nv.get [] x.eu.fL ix) kL)))))))
  | 4=>(.v (.bool x.eu.fOpen))
  | 5=>(.v (.string x.fText))
  | 6=>(.v (.int .u8 x.vB))
  | _=>.junk
def pU (nv:Nv) (x:dV) (j:Nat):D:=match j with
  | 0=>(.sl 1 (nv.len x.fU.fB) false (fun ix jx=>(.v (.int .u8 (nv.get 0 x.fU.fB ix)))))
  | 1=>(.v (.int .i64 x.fP.ko))
  | 2=>(.v (.string x.fP.jD))
  | 3=>(.v (.bool x.fP.vw))
  | 4=>(.sl 1 (nv.len x.fP.eu.fL) false (fun ix jx=>(.sl 1 (nv.len (nv.get [] x.fP.eu.fL ix)) false (fun kL xL=>(.v (.int .i64 (nv.get 0 (nv.get [] x.fP.eu.fL ix) kL)))))))
  | 5=>(.v (.bool x.fP.eu.fOpen))
  | 6=>(.v (.string x.fP.fText))
  | 7=>(.v (.int .u8 x.fP.vB))
  | 8=>(.sl 4 (nv.len x.fS.aR.fG.aS) false (fun ix jx=>(bU nv (nv.get aA x.fS.aR.fG.aS ix) jx)))
  | 9=>(.v (.int .i64 x.fS.aR.fC.fX))
  | 10=>(.v (.int .i64 x.fS.aR.fC.fY))
  | 11=>(.v (.bool x.fS.aR.fC.bX))
  | 12=>(.v (.bool x.fS.aR.fC.dH))
  | 13=>(.v (.int .i64 x.fS.aR.fC.bI.jP))
  | 14=>(.v (.int .i64 x.fS.aR.fC.bI.jQ))
  | 15=>(.v (.int .i64 x.fS.aR.fC.bI.dU))
  | 16=>(.v (.int .u8 x.fS.aR.fC.aN.fG.x0))
  | 17=>(.v (.int .u8 x.fS.aR.fC.aN.fG.x1))
  | 18=>(.v (.int .u8 x.fS.aR.fC.aN.fG.x2))
  | 19=>(.v (.int .u8 x.fS.aR.fC.aN.fG.x3))
  | 20=>(.v (.int .i64 x.fS.aR.fC.aN.jH))
  | 21=>(.v (.int .i64 x.fS.aR.fC.aN.kr))
  | 22=>(.v (.int .i64 x.fS.aR.fC.aN.fq))
  | 23=>(.v (.int .i64 x.fS.aR.fR.fH))
  | 24=>(.v (.int .i64 x.fS.aR.fR.fW))
  | 25=>(.v (.int .i64 x.fS.aR.fR.jO))
  | 26=>(.v (.int .i64 x.fS.aR.fR.eZ))
  | 27=>(.sl 1 (nv.len x.fS.aR.fT.fL) false (fun ix jx=>(.v (.int .i64 (nv.get 0 x.fS.aR.fT.fL ix)))))
  | 28=>(.v (.int .i64 x.fS.aR.fT.fW))
  | 29=>(.sl 4 (nv.len x.fS.aR.fK.aS) false (fun ix jx=>(bU nv (nv.get aA x.fS.aR.fK.aS ix) jx)))
  | 30=>(.v (.int .i64 x.fS.aR.fK.iF))
  | 31=>(.v (.int .i64 x.fS.aR.dJ))
  | 32=>(.v (.bool x.fS.aR.bL))
  | 33=>(.sl 4 (nv.len x.fS.aT.fG.aS) false (fun ix jx=>(bU nv (nv.get aA x.fS.aT.fG.aS ix) jx)))
  | 34=>(.v (.int .i64 x.fS.aT.fC.fX))
  | 35=>(.v (.int .i64 x.fS.aT.fC.fY))
  | 36=>(.v (.bool x.fS.aT.fC.bX))
  | 37=>(.v (.bool x.fS.aT.fC.dH))
  | 38=>(.v (.int .i64 x.fS.aT.fC.bI.jP))
  | 39=>(.v (.int .i64 x.fS.aT.fC.bI.jQ))
  | 40=>(.v (.int .i64 x.fS.aT.fC.bI.dU))
  | 41=>(.v (.int .u8 x.fS.aT.fC.aN.fG.x0))
  | 42=>(.v (.int .u8 x.fS.aT.fC.aN.fG.x1))
  | 43=>(.v (.int .u8 x.fS.aT.fC.aN.fG.x2))
  | 44=>(.v (.int .u8 x.fS.aT.fC.aN.fG.x3))
  | 45=>(.v (.int .i64 x.fS.aT.fC.aN.jH))
  | 46=>(.v (.int .i64 x.fS.aT.fC.aN.kr))
  | 47=>(.v (.int .i64 x.fS.aT.fC.aN.fq))
  | 48=>(.v (.int .i64 x.fS.aT.fR.fH))
  | 49=>(.v (.int .i64 x.fS.aT.fR.fW))
  | 50=>(.v (.int .i64 x.fS.aT.fR.jO))
  | 51=>(.v (.int .i64 x.fS.aT.fR.eZ))
  | 52=>(.sl 1 (nv.len x.fS.aT.fT.fL) false (fun ix jx=>(.v (.int .i64 (nv.get 0 x.fS.aT.fT.fL ix)))))
  | 53=>(.v (.int .i64 x.fS.aT.fT.fW))
  | 54=>(.sl 4 (nv.len x.fS.aT.fK.aS) false (fun ix jx=>(bU nv (nv.get aA x.fS.aT.fK.aS ix) jx)))
  | 55=>(.v (.int .i64 x.fS.aT.fK.iF))
  | 56=>(.v (.int .i64 x.fS.aT.dJ))
  | 57=>(.v (.bool x.fS.aT.bL))
  | 58=>(.v (.bool x.fS.pX))
  | 59=>(.v (.int .i64 x.fS.fM.mV))
  | 60=>(.v (.int .i64 x.fS.aK.x0.fX))
  | 61=>(.v (.int .i64 x.fS.aK.x0.fY))
  | 62=>(.v (.bool x.fS.aK.x0.bX))
  | 63=>(.v (.bool x.fS.aK.x0.dH))
  | 64=>(.v (.int .i64 x.fS.aK.x0.bI.jP))
  | 65=>(.v (.int .i64 x.fS.aK.x0.bI.jQ))
  | 66=>(.v (.int .i64 x.fS.aK.x0.bI.dU))
  | 67=>(.v (.int .u8 x.fS.aK.x0.aN.fG.x0))
  | 68=>(.v (.int .u8 x.fS.aK.x0.aN.fG.x1))
  | 69=>(.v (.int .u8 x.fS.aK.x0.aN.fG.x2))
  | 70=>(.v (.int .u8 x.fS.aK.x0.aN.fG.x3))
  | 71=>(.v (.int .i64 x.fS.aK.x0.aN.jH))
  | 72=>(.v (.int .i64 x.fS.aK.x0.aN.kr))
  | 73=>(.v (.int .i64 x.fS.aK.x0.aN.fq))
  | 74=>(.v (.int .i64 x.fS.aK.x1.fX))
  | 75=>(.v (.int .i64 x.fS.aK.x1.fY))
  | 76=>(.v (.bool x.fS.aK.x1.bX))
  | 77=>(.v (.bool x.fS.aK.x1.dH))
  | 78=>(.v (.int .i64 x.fS.aK.x1.bI.jP))
  | 79=>(.v (.int .i64 x.fS.aK.x1.bI.jQ))
  | 80=>(.v (.int .i64 x.fS.aK.x1.bI.dU))
  | 81=>(.v (.int .u8 x.fS.aK.x1.aN.fG.x0))
  | 82=>(.v (.int .u8 x.fS.aK.x1.aN.fG.x1))
  | 83=>(.v (.int .u8 x.fS.aK.x1.aN.fG.x2))
  | 84=>(.v (.int .u8 x.fS.aK.x1.aN.fG.x3))
  | 85=>(.v (.int .i64 x.fS.aK.x1.aN.jH))
  | 86=>(.v (.int .i64 x.fS.aK.x1.aN.kr))
  | 87=>(.v (.int .i64 x.fS.aK.x1.aN.fq))
  | 88=>(.sl 1 (nv.len x.fS.lK) false (fun ix jx=>(.v (.int .u8 (nv.get 0 x.fS.lK ix)))))
  | 89=>(.v (.string x.fS.kY))
  | 90=>(.v (.int .i64 x.fS.lM))
  | 91=>(.v (.int .i64 x.jl))
  | _=>.junk
abbrev zV (n:Nv) (x:dw):D:=.agg 6 fun j=>rO n x j
abbrev zX (n:Nv) (x:aV):D:=.agg 7 fun j=>dM n x j
abbrev zm (n:Nv) (x:fZ):D:=.agg 3 fun j=>Ia n x j
abbrev jS (n:Nv) (x:aQ):D:=.agg 4 fun j=>bU n x j
abbrev vC (n:Nv) (x:eG):D:=.agg 7 fun j=>zP n x j
abbrev kG (n:Nv) (x:cB):D:=.agg 14 fun j=>zQ n x j
abbrev jg (n:Nv) (x:bS):D:=.agg 4 fun j=>zO n x j
abbrev Di (n:Nv) (x:iN):D:=.agg 3 fun j=>Dh n x j
abbrev JZ (n:Nv) (x:iw):D:=.agg 3 fun j=>oN n x j
abbrev qP (n:Nv) (x:eP):D:=.agg 1 fun j=>Jq n x j
abbrev oO (n:Nv) (x:dS):D:=.agg 2 fun j=>BM n x j
abbrev dF (n:Nv) (x:bf):D:=.agg 83 fun j=>oM n x j
abbrev zY (n:Nv) (x:gF):D:=.agg 7 fun j=>oC n x j
abbrev Bq (n:Nv) (x:gL):D:=.agg 2 fun j=>pR n x j
abbrev zZ (n:Nv) (x:fQ):D:=.agg 2 fun j=>ou n x j
abbrev zn (n:Nv) (x:dY):D:=.agg 14 fun j=>kZ n x j
abbrev nO (n:Nv) (x:dP):D:=.agg 25 fun j=>nM n x j
abbrev oD (n:Nv) (x:eX):D:=.agg 83 fun j=>oz n x j
abbrev mG (n:Nv) (x:dV):D:=.agg 92 fun j=>pU n x j
abbrev Ed (n:Nv) (x:iJ):D:=.agg 1 fun j=>Eb n x j
abbrev YD (n:Nv) (x:iA):D:=.agg 2 fun j=>uF n x j
abbrev gW (n:Nv) (x:dA):D:=.agg 7 fun j=>qb n x j
abbrev wL (n:Nv) (x:eY):D:=.agg 1 fun j=>BL n x j
abbrev Nr (n:Nv) (x:aI):D:=.agg 3 fun j=>bY n x j
abbrev J2 (n:Nv) (x:j4):D:=.agg 2 fun j=>BO n x j
abbrev gJ (n:Nv) (x:bK):D:=.agg 25 fun j=>zR n x j
abbrev vO (n:Nv) (x:eF):D:=.agg 2 fun j=>FR n x j
abbrev U5 (n:Nv) (x:kR):D:=.agg 11 fun j=>ES n x j
abbrev gP (n:Nv) (x:bP):D:=.agg 92 fun j=>qO n x j
abbrev WS (n:Nv) (x:mK):D:=.agg 1 fun j=>BN n x j
abbrev dZ (n:Nv) (x:dz):D:=.agg 6 fun j=>ER n x j
abbrev Ju (n:Nv) (x:kK):D:=.agg 1 fun j=>Jr n x j
abbrev xO (n:Nv) (x:kM):D:=.agg 4 fun j=>Jt n x j
abbrev FT (n:Nv) (x:jR):D:=.agg 5 fun j=>yV n x j
abbrev aaV (n:Nv) (x:gu):D:=.agg 2 fun j=>Js n x j
abbrev tF (n:Nv) (l:List iV):D:=.sl 2 (n.len l) false fun i j=>wK n (n.get iL l i) j
abbrev rR (n:Nv) (l:List dw):D:=.sl 6 (n.len l) false fun i j=>rO n (n.get vP l i) j
abbrev lQ (n:Nv) (l:List aV):D:=.sl 7 (n.len l) false fun i j=>dM n (n.get aD l i) j
abbrev iC (n:Nv) (l:List aQ):D:=.sl 4 (n.len l) false fun i j=>bU n (n.get aA l i) j
abbrev Ns (n:Nv) (l:List bJ):D:=.sl 3 (n.len l) false fun i j=>Ec n (n.get uH l i) j
abbrev Nu (n:Nv) (l:List aI):D:=.sl 3 (n.len l) false fun i j=>bY n (n.get aC l i) j
abbrev acs (n:Nv) (l:List kR):D:=.sl 11 (n.len l) false fun i j=>ES n (n.get Ll l i) j
abbrev Ou (v:Nv) (g:Nat) (n:Int) (t:Bool) (l:List dw):Ob:=.arr g 6 n t fun i j=>rO v (v.get vP l i) j
abbrev kS (v:Nv) (g:Nat) (n:Int) (t:Bool) (l:List aV):Ob:=.arr g 7 n t fun i j=>dM v (v.get aD l i) j
abbrev iM (v:Nv) (g:Nat) (n:Int) (t:Bool) (l:List aQ):Ob:=.arr g 4 n t fun i j=>bU v (v.get aA l i) j
abbrev lg (v:Nv) (g:Nat) (n:Int) (t:Bool) (l:List iw):Ob:=.arr g 3 n t fun i j=>oN v (v.get rP l i) j
abbrev lS (v:Nv) (g:Nat) (n:Int) (t:Bool) (l:List dK):Ob:=.arr g 3 n t fun i j=>oW v (v.get lJ l i) j
abbrev BP (v:Nv) (g:Nat) (n:Int) (t:Bool) (l:List jG):Ob:=.arr g 2 n t fun i j=>BK v (v.get j6 l i) j
abbrev U6 (v:Nv) (g:Nat) (n:Int) (t:Bool) (l:List gI):Ob:=.arr g 3 n t fun i j=>zL v (v.get zN l i) j
abbrev U7 (v:Nv) (g:Nat) (n:Int) (t:Bool) (l:List gy):Ob:=.arr g 2 n t fun i j=>wJ v (v.get zM l i) j
abbrev acu (n:Nv) (l:List iV):D:=.own 2 (n.len l) false fun i j=>wK n (n.get iL l i) j
abbrev Ov (n:Nv) (l:List dw):D:=.own 6 (n.len l) false fun i j=>rO n (n.get vP l i) j
abbrev acv (n:Nv) (l:List aV):D:=.own 7 (n.len l) false fun i j=>dM n (n.get aD l i) j
abbrev DC (n:Nv) (l:List aQ):D:=.own 4 (n.len l) false fun i j=>bU n (n.get aA l i) j
abbrev acw (n:Nv) (l:List gI):D:=.own 3 (n.len l) false fun i j=>zL n (n.get zN l i) j
abbrev acy (n:Nv) (l:List gy):D:=.own 2 (n.len l) false fun i j=>wJ n (n.get zM l i) j
theorem FU {P:Program} (x:jG) (j:Nat):bG (std P) (BK aj x j) (BK aj x j):=match j with
  | 0=>ak _ _
  | 1=>ak _ _
  | _+2=>trivial
theorem oP {P:Program} (x:dK) (j:Nat):bG (std P) (oW aj x j) (oW aj x j):=match j with
  | 0=>ak _ _
  | 1=>ak _ _
  | 2=>ak _ _
  | _+3=>trivial
theorem FW {P:Program} (x:eY) (j:Nat):bG (std P) (BL aj x j) (BL aj x j):=match j with
  | 0=>aL (fun i j=>oP _ _)
  | _+1=>trivial
theorem Aa {P:Program} (x:gy) (j:Nat):bG (std P) (wJ aj x j) (wJ aj x j):=match j with
  | 0=>ak _ _
  | 1=>ak _ _
  | _+2=>trivial
theorem FX {P:Program} (x:gI) (j:Nat):bG (std P) (zL aj x j) (zL aj x j):=match j with
  | 0=>ak _ _
  | 1=>ak _ _
  | 2=>ak _ _
  | _+3=>trivial
theorem Ox {P:Program} (x:dz) (j:Nat):bG (std P) (ER aj x j) (ER aj x j):=match j with
  | 0=>aL (fun i j=>oP _ _)
  | 1=>aL (fun i j=>oP _ _)
  | 2=>aL (fun i j=>oP _ _)
  | 3=>aL (fun i j=>Aa _ _)
  | 4=>aL (fun i j=>Aa _ _)
  | 5=>aL (fun i j=>FX _ _)
  | _+6=>trivial
theorem EG {P:Program} (x:bS) (j:Nat):bG (std P) (zO aj x j) (zO aj x j):=match j with
  | 0=>ak _ _
  | 1=>ak _ _
  | 2=>ak _ _
  | 3=>ak _ _
  | _+4=>trivial
theorem SL {P:Program} (x:qB) (j:Nat):bG (std P) (Ol aj x j) (Ol aj x j):=match j with
  | 0=>ak _ _
  | 1=>ak _ _
  | 2=>ak _ _
  | 3=>ak _ _
  | _+4=>trivial
theorem EH {P:Program} (x:eG) (j:Nat):bG (std P) (zP aj x j) (zP aj x j):=match j with
  | 0=>ak _ _
  | 1=>ak _ _
  | 2=>ak _ _
  | 3=>ak _ _
  | 4=>ak _ _
  | 5=>ak _ _
  | 6=>ak _ _
  | _+7=>trivial
theorem SN {P:Program} (x:fZ) (j:Nat):bG (std P) (Ia aj x j) (Ia aj x j):=match j with
  | 0=>ak _ _
  | 1=>ak _ _
  | 2=>ak _ _
  | _+3=>trivial
theorem EI {P:Program} (x:cB) (j:Nat):bG (std P) (zQ aj x j) (zQ aj x j):=match j with
  | 0=>ak _ _
  | 1=>ak _ _
  | 2=>aP _
  | 3=>aP _
  | 4=>ak _ _
  | 5=>ak _ _
  | 6=>ak _ _
  | 7=>ak _ _
  | 8=>ak _ _
  | 9=>ak _ _
  | 10=>ak _ _
  | 11=>ak _ _
  | 12=>ak _ _
  | 13=>ak _ _
  | _+14=>trivial
theorem FY {P:Program} (x:iV) (j:Nat):bG (std P) (wK aj x j) (wK aj x j):=match j with
  | 0=>ak _ _
  | 1=>ak _ _
  | _+2=>trivial
theorem rM {P:Program} (x:aV) (j:Nat):bG (std P) (dM aj x j) (dM aj x j):=match j with
  | 0=>ak _ _
  | 1=>ak _ _
  | 2=>ak _ _
  | 3=>ak _ _
  | 4=>ak _ _
  | 5=>ak _ _
  | 6=>ak _ _
  | _+7=>trivial
theorem dX {P:Program} (x:aQ) (j:Nat):bG (std P) (bU aj x j) (bU aj x j):=match j with
  | 0=>aL (fun i j=>rM _ _)
  | 1=>aP _
  | 2=>ak _ _
  | 3=>aP _
  | _+4=>trivial
theorem Nw {P:Program} (x:eP) (j:Nat):bG (std P) (Jq aj x j) (Jq aj x j):=match j with
  | 0=>aL (fun i j=>dX _ _)
  | _+1=>trivial
theorem J3 {P:Program} (x:eF) (j:Nat):bG (std P) (FR aj x j) (FR aj x j):=match j with
  | 0=>aL (fun i j=>ak _ _)
  | 1=>ak _ _
  | _+2=>trivial
theorem FZ {P:Program} (x:dS) (j:Nat):bG (std P) (BM aj x j) (BM aj x j):=match j with
  | 0=>aL (fun i j=>dX _ _)
  | 1=>ak _ _
  | _+2=>trivial
theorem xG {P:Program} (x:bK) (j:Nat):bG (std P) (zR aj x j) (zR aj x j):=match j with
  | 0=>aL (fun i j=>dX _ _)
  | 1=>ak _ _
  | 2=>ak _ _
  | 3=>aP _
  | 4=>aP _
  | 5=>ak _ _
  | 6=>ak _ _
  | 7=>ak _ _
  | 8=>ak _ _
  | 9=>ak _ _
  | 10=>ak _ _
  | 11=>ak _ _
  | 12=>ak _ _
  | 13=>ak _ _
  | 14=>ak _ _
  | 15=>ak _ _
  | 16=>ak _ _
  | 17=>ak _ _
  | 18=>ak _ _
  | 19=>aL (fun i j=>ak _ _)
  | 20=>ak _ _
  | 21=>aL (fun i j=>dX _ _)
  | 22=>ak _ _
  | 23=>ak _ _
  | 24=>aP _
  | _+25=>trivial
theorem Ie {P:Program} (x:iJ) (j:Nat):bG (std P) (Eb aj x j) (Eb aj x j):=match j with
  | 0=>ak _ _
  | _+1=>trivial
theorem J4 {P:Program} (x:dG) (j:Nat):bG (std P) (Om aj x j) (Om aj x j):=match j with
  | 0=>aP _
  | 1=>ak _ _
  | _+2=>trivial
theorem tH {P:Program} (x:qC) (j:Nat):bG (std P) (Dx aj x j) (Dx aj x j):=match j with
  | 0=>aP _
  | 1=>ak _ _
  | 2=>aP _
  | 3=>ak _ _
  | 4=>aP _
  | 5=>ak _ _
  | 6=>aP _
  | 7=>ak _ _
  | 8=>aP _
  | 9=>ak _ _
  | 10=>aP _
  | 11=>ak _ _
  | 12=>aP _
  | 13=>ak _ _
  | 14=>aP _
  | 15=>ak _ _
  | 16=>aP _
  | 17=>ak _ _
  | 18=>aP _
  | 19=>ak _ _
  | 20=>aP _
  | 21=>ak _ _
  | 22=>aP _
  | 23=>ak _ _
  | 24=>aP _
  | 25=>ak _ _
  | 26=>aP _
  | 27=>ak _ _
  | 28=>aP _
  | 29=>ak _ _
  | 30=>aP _
  | 31=>ak _ _
  | 32=>aP _
  | 33=>ak _ _
  | 34=>aP _
  | 35=>ak _ _
  | 36=>aP _
  | 37=>ak _ _
  | 38=>aP _
  | 39=>ak _ _
  | 40=>aP _
  | 41=>ak _ _
  | 42=>aP _
  | 43=>ak _ _
  | 44=>aP _
  | 45=>ak _ _
  | 46=>aP _
  | 47=>ak _ _
  | _+48=>trivial
theorem qQ {P:Program} (x:fO) (j:Nat):bG (std P) (zS aj x j) (zS aj x j):=match j with
  | 0=>ak _ _
  | 1=>ak _ _
  | 2=>aP _
  | 3=>aP _
  | 4=>ak _ _
  | 5=>ak _ _
  | 6=>ak _ _
  | 7=>ak _ _
  | 8=>ak _ _
  | 9=>ak _ _
  | 10=>ak _ _
  | 11=>ak _ _
  | 12=>ak _ _
  | 13=>ak _ _
  | 14=>ak _ _
  | 15=>ak _ _
  | 16=>aP _
  | 17=>aP _
  | 18=>ak _ _
  | 19=>ak _ _
  | 20=>ak _ _
  | 21=>ak _ _
  | 22=>ak _ _
  | 23=>ak _ _
  | 24=>ak _ _
  | 25=>ak _ _
  | 26=>ak _ _
  | 27=>ak _ _
  | _+28=>trivial
theorem yX {P:Program} (x:bf) (j:Nat):bG (std P) (oM aj x j) (oM aj x j):=match j with
  | 0=>aL (fun i j=>dX _ _)
  | 1=>ak _ _
  | 2=>ak _ _
  | 3=>aP _
  | 4=>aP _
  | 5=>ak _ _
  | 6=>ak _ _
  | 7=>ak _ _
  | 8=>ak _ _
  | 9=>ak _ _
  | 10=>ak _ _
  | 11=>ak _ _
  | 12=>ak _ _
  | 13=>ak _ _
  | 14=>ak _ _
  | 15=>ak _ _
  | 16=>ak _ _
  | 17=>ak _ _
  | 18=>ak _ _
  | 19=>aL (fun i j=>ak _ _)
  | 20=>ak _ _
  | 21=>aL (fun i j=>dX _ _)
  | 22=>ak _ _
  | 23=>ak _ _
  | 24=>aP _
  | 25=>aL (fun i j=>dX _ _)
  | 26=>ak _ _
  | 27=>ak _ _
  | 28=>aP _
  | 29=>aP _
  | 30=>ak _ _
  | 31=>ak _ _
  | 32=>ak _ _
  | 33=>ak _ _
  | 34=>ak _ _
  | 35=>ak _ _
  | 36=>ak _ _
  | 37=>ak _ _
  | 38=>ak _ _
  | 39=>ak _ _
  | 40=>ak _ _
  | 41=>ak _ _
  | 42=>ak _ _
  | 43=>ak _ _
  | 44=>aL (fun i j=>ak _ _)
  | 45=>ak _ _
  | 46=>aL (fun i j=>dX _ _)
  | 47=>ak _ _
  | 48=>ak _ _
  | 49=>aP _
  | 50=>aP _
  | 51=>ak _ _
  | 52=>ak _ _
  | 53=>ak _ _
  | 54=>aP _
  | 55=>aP _
  | 56=>ak _ _
  | 57=>ak _ _
  | 58=>ak _ _
  | 59=>ak _ _
  | 60=>ak _ _
  | 61=>ak _ _
  | 62=>ak _ _
  | 63=>ak _ _
  | 64=>ak _ _
  | 65=>ak _ _
  | 66=>ak _ _
  | 67=>ak _ _
  | 68=>aP _
  | 69=>aP _
  | 70=>ak _ _
  | 71=>ak _ _
  | 72=>ak _ _
  | 73=>ak _ _
  | 74=>ak _ _
  | 75=>ak _ _
  | 76=>ak _ _
  | 77=>ak _ _
  | 78=>ak _ _
  | 79=>ak _ _
  | 80=>aL (fun i j=>ak _ _)
  | 81=>jv _
  | 82=>ak _ _
  | _+83=>trivial
theorem Ny {P:Program} (x:kK) (j:Nat):bG (std P) (Jr aj x j) (Jr aj x j):=match j with
  | 0=>aL (fun i j=>ak _ _)
  | _+1=>trivial
theorem Ig {P:Program} (x:iA) (j:Nat):bG (std P) (uF aj x j) (uF aj x j):=match j with
  | 0=>aL (fun i j=>aL (fun i j=>ak _ _))
  | 1=>aP _
  | _+2=>trivial
theorem Ih {P:Program} (x:dA) (j:Nat):bG (std P) (qb aj x j) (qb aj x j):=match j with
  | 0=>ak _ _
  | 1=>jv _
  | 2=>aP _
  | 3=>aL (fun i j=>aL (fun i j=>ak _ _))
  | 4=>aP _
  | 5=>jv _
  | 6=>ak _ _
  | _+7=>trivial
theorem Ee {P:Program} (x:bP) (j:Nat):bG (std P) (qO aj x j) (qO aj x j):=match j with
  | 0=>aL (fun i j=>ak _ _)
  | 1=>ak _ _
  | 2=>jv _
  | 3=>aP _
  | 4=>aL (fun i j=>aL (fun i j=>ak _ _))
  | 5=>aP _
  | 6=>jv _
  | 7=>ak _ _
  | 8=>aL (fun i j=>dX _ _)
  | 9=>ak _ _
  | 10=>ak _ _
  | 11=>aP _
  | 12=>aP _
  | 13=>ak _ _
  | 14=>ak _ _
  | 15=>ak _ _
  | 16=>ak _ _
  | 17=>ak _ _
  | 18=>ak _ _
  | 19=>ak _ _
  | 20=>ak _ _
  | 21=>ak _ _
  | 22=>ak _ _
  | 23=>ak _ _
  | 24=>ak _ _
  | 25=>ak _ _
  | 26=>ak _ _
  | 27=>aL (fun i j=>ak _ _)
  | 28=>ak _ _
  | 29=>aL (fun i j=>dX _ _)
  | 30=>ak _ _
  | 31=>ak _ _
  | 32=>aP _
  | 33=>aL (fun i j=>dX _ _)
  | 34=>ak _ _
  | 35=>ak _ _
  | 36=>aP _
  | 37=>aP _
  | 38=>ak _ _
  | 39=>ak _ _
  | 40=>ak _ _
  | 41=>ak _ _
  | 42=>ak _ _
  | 43=>ak _ _
  | 44=>ak _ _
  | 45=>ak _ _
  | 46=>ak _ _
  | 47=>ak _ _
  | 48=>ak _ _
  | 49=>ak _ _
  | 50=>ak _ _
  | 51=>ak _ _
  | 52=>aL (fun i j=>ak _ _)
  | 53=>ak _ _
  | 54=>aL (fun i j=>dX _ _)
  | 55=>ak _ _
  | 56=>ak _ _
  | 57=>aP _
  | 58=>aP _
  | 59=>ak _ _
  | 60=>ak _ _
  | 61=>ak _ _
  | 62=>aP _
  | 63=>aP _
  | 64=>ak _ _
  | 65=>ak _ _
  | 66=>ak _ _
  | 67=>ak _ _
  | 68=>ak _ _
  | 69=>ak _ _
  | 70=>ak _ _
  | 71=>ak _ _
  | 72=>ak _ _
  | 73=>ak _ _
  | 74=>ak _ _
  | 75=>ak _ _
  | 76=>aP _
  | 77=>aP _
  | 78=>ak _ _
  | 79=>ak _ _
  | 80=>ak _ _
  | 81=>ak _ _
  | 82=>ak _ _
  | 83=>ak _ _
  | 84=>ak _ _
  | 85=>ak _ _
  | 86=>ak _ _
  | 87=>ak _ _
  | 88=>aL (fun i j=>ak _ _)
  | 89=>jv _
  | 90=>ak _ _
  | 91=>ak _ _
  | _+92=>trivial
theorem F3 {P:Program} (x:mK) (j:Nat):bG (std P) (BN aj x j) (BN aj x j):=match j with
  | 0=>aL (fun i j=>ak _ _)
  | _+1=>trivial
theorem Ii {P:Program} (x:uG) (j:Nat):bG (std P) (Nq aj x j) (Nq aj x j):=match j with
  | 0=>ak _ _
  | 1=>ak _ _
  | 2=>ak _ _
  | 3=>ak _ _
  | 4=>ak _ _
  | _+5=>trivial
theorem Oy {P:Program} (x:kR) (j:Nat):bG (std P) (ES aj x j) (ES aj x j):=match j with
  | 0=>ak _ _
  | 1=>ak _ _
  | 2=>ak _ _
  | 3=>ak _ _
  | 4=>ak _ _
  | 5=>aL (fun i j=>ak _ _)
  | 6=>ak _ _
  | 7=>ak _ _
  | 8=>ak _ _
  | 9=>ak _ _
  | 10=>ak _ _
  | _+11=>trivial
theorem J5 {P:Program} (x:dw) (j:Nat):bG (std P) (rO aj x j) (rO aj x j):=match j with
  | 0=>ak _ _
  | 1=>ak _ _
  | 2=>ak _ _
  | 3=>jv _
  | 4=>aL (fun i j=>aL (fun i j=>ak _ _))
  | 5=>jv _
  | _+6=>trivial
theorem Ij {P:Program} (x:bJ) (j:Nat):bG (std P) (Ec aj x j) (Ec aj x j):=match j with
  | 0=>jv _
  | 1=>ak _ _
  | 2=>abx _
  | _+3=>trivial
theorem F4 {P:Program} (x:j4) (j:Nat):bG (std P) (BO aj x j) (BO aj x j):=match j with
  | 0=>ak _ _
  | 1=>ak _ _
  | _+2=>trivial
theorem vk {P:Program} (x:aI) (j:Nat):bG (std P) (bY aj x j) (bY aj x j):=match j with
  | 0=>aL (fun i j=>rM _ _)
  | 1=>ak _ _
  | 2=>aP _
  | _+3=>trivial
theorem Ab {P:Program} (x:qD) (j:Nat):bG (std P) (Dy aj x j) (Dy aj x j):=match j with
  | 0=>aL (fun i j=>ak _ _)
  | _+1=>trivial
theorem tJ {P:Program} (x:iw) (j:Nat):bG (std P) (oN aj x j) (oN aj x j):=match j with
  | 0=>ak _ _
  | 1=>ak _ _
  | 2=>aP _
  | _+3=>trivial
theorem EJ {P:Program} (x:iK) (j:Nat):bG (std P) (zT aj x j) (zT aj x j):=match j with
  | 0=>aL (fun i j=>tJ _ _)
  | _+1=>trivial
theorem Nz {P:Program} (x:iN) (j:Nat):bG (std P) (Dh aj x j) (Dh aj x j):=match j with
  | 0=>aL (fun i j=>ak _ _)
  | 1=>aL (fun i j=>ak _ _)
  | 2=>aL (fun i j=>aP _)
  | _+3=>trivial
theorem EL {P:Program} (x:kF) (j:Nat):bG (std P) (Ic aj x j) (Ic aj x j):=match j with
  | 0=>aL (fun i j=>ak _ _)
  | 1=>aL (fun i j=>ak _ _)
  | 2=>ak _ _
  | 3=>aL (fun i j=>ak _ _)
  | 4=>aL (fun i j=>ak _ _)
  | 5=>aL (fun i j=>aP _)
  | 6=>aL (fun i j=>tJ _ _)
  | 7=>ak _ _
  | 8=>ak _ _
  | 9=>ak _ _
  | _+10=>trivial
theorem NA {P:Program} (x:gu) (j:Nat):bG (std P) (Js aj x j) (Js aj x j):=match j with
  | 0=>aL (fun i j=>ak _ _)
  | 1=>ak _ _
  | _+2=>trivial
theorem NC {P:Program} (x:oJ) (j:Nat):bG (std P) (SK aj x j) (SK aj x j):=match j with
  | 0=>aL (fun i j=>ak _ _)
  | 1=>aL (fun i j=>ak _ _)
  | 2=>ak _ _
  | 3=>ak _ _
  | 4=>ak _ _
  | 5=>ak _ _
  | 6=>aL (fun i j=>FY _ _)
  | _+7=>trivial
theorem DF {P:Program} (x:jR) (j:Nat):bG (std P) (yV aj x j) (yV aj x j):=match j with
  | 0=>ak _ _
  | 1=>ak _ _
  | 2=>aL (fun i j=>ak _ _)
  | 3=>aL (fun i j=>ak _ _)
  | 4=>ak _ _
  | _+5=>trivial
theorem ND {P:Program} (x:kM) (j:Nat):bG (std P) (Jt aj x j) (Jt aj x j):=match j with
  | 0=>aL (fun i j=>ak _ _)
  | 1=>aL (fun i j=>ak _ _)
  | 2=>aL (fun i j=>rM _ _)
  | 3=>ak _ _
  | _+4=>trivial
theorem xP {P:Program} (x:jo) (j:Nat):bG (std P) (tq aj x j) (tq aj x j):=match j with
  | 0=>ak _ _
  | 1=>ak _ _
  | 2=>ak _ _
  | 3=>ak _ _
  | 4=>ak _ _
  | 5=>ak _ _
  | 6=>ak _ _
  | _+7=>trivial
theorem xg {P:Program} (x:dY) (j:Nat):bG (std P) (kZ aj x j) (kZ aj x j):=match j with
  | 0=>ak _ _
  | 1=>ak _ _
  | 2=>aP _
  | 3=>aP _
  | 4=>ak _ _
  | 5=>ak _ _
  | 6=>ak _ _
  | 7=>ak _ _
  | 8=>ak _ _
  | 9=>ak _ _
  | 10=>ak _ _
  | 11=>ak _ _
  | 12=>ak _ _
  | 13=>ak _ _
  | _+14=>trivial
theorem zq {P:Program} (x:jK) (j:Nat):bG (std P) (uT aj x j) (uT aj x j):=match j with
  | 0=>aL (fun i j=>dX _ _)
  | _+1=>trivial
theorem xk {P:Program} (x:iZ) (j:Nat):bG (std P) (rQ aj x j) (rQ aj x j):=match j with
  | 0=>ak _ _
  | 1=>ak _ _
  | 2=>ak _ _
  | 3=>ak _ _
  | _+4=>trivial
theorem xQ {P:Program} (x:fQ) (j:Nat):bG (std P) (ou aj x j) (ou aj x j):=match j with
  | 0=>aL (fun i j=>ak _ _)
  | 1=>ak _ _
  | _+2=>trivial
theorem zu {P:Program} (x:gL) (j:Nat):bG (std P) (pR aj x j) (pR aj x j):=match j with
  | 0=>aL (fun i j=>dX _ _)
  | 1=>ak _ _
  | _+2=>trivial
theorem p8 {P:Program} (x:dP) (j:Nat):bG (std P) (nM aj x j) (nM aj x j):=match j with
  | 0=>aL (fun i j=>dX _ _)
  | 1=>ak _ _
  | 2=>ak _ _
  | 3=>aP _
  | 4=>aP _
  | 5=>ak _ _
  | 6=>ak _ _
  | 7=>ak _ _
  | 8=>ak _ _
  | 9=>ak _ _
  | 10=>ak _ _
  | 11=>ak _ _
  | 12=>ak _ _
  | 13=>ak _ _
  | 14=>ak _ _
  | 15=>ak _ _
  | 16=>ak _ _
  | 17=>ak _ _
  | 18=>ak _ _
  | 19=>aL (fun i j=>ak _ _)
  | 20=>ak _ _
  | 21=>aL (fun i j=>dX _ _)
  | 22=>ak _ _
  | 23=>ak _ _
  | 24=>aP _
  | _+25=>trivial
theorem xR {P:Program} (x:jq) (j:Nat):bG (std P) (tu aj x j) (tu aj x j):=match j with
  | 0=>ak _ _
  | _+1=>trivial
theorem mM {P:Program} (x:gV) (j:Nat):bG (std P) (nU aj x j) (nU aj x j):=match j with
  | 0=>ak _ _
  | 1=>ak _ _
  | 2=>aP _
  | 3=>aP _
  | 4=>ak _ _
  | 5=>ak _ _
  | 6=>ak _ _
  | 7=>ak _ _
  | 8=>ak _ _
  | 9=>ak _ _
  | 10=>ak _ _
  | 11=>ak _ _
  | 12=>ak _ _
  | 13=>ak _ _
  | 14=>ak _ _
  | 15=>ak _ _
  | 16=>aP _
  | 17=>aP _
  | 18=>ak _ _
  | 19=>ak _ _
  | 20=>ak _ _
  | 21=>ak _ _
  | 22=>ak _ _
  | 23=>ak _ _
  | 24=>ak _ _
  | 25=>ak _ _
  | 26=>ak _ _
  | 27=>ak _ _
  | _+28=>trivial
theorem qR {P:Program} (x:eX) (j:Nat):bG (std P) (oz aj x j) (oz aj x j):=match j with
  | 0=>aL (fun i j=>dX _ _)
  | 1=>ak _ _
  | 2=>ak _ _
  | 3=>aP _
  | 4=>aP _
  | 5=>ak _ _
  | 6=>ak _ _
  | 7=>ak _ _
  | 8=>ak _ _
  | 9=>ak _ _
  | 10=>ak _ _
  | 11=>ak _ _
  | 12=>ak _ _
  | 13=>ak _ _
  | 14=>ak _ _
  | 15=>ak _ _
  | 16=>ak _ _
  | 17=>ak _ _
  | 18=>ak _ _
  | 19=>aL (fun i j=>ak _ _)
  | 20=>ak _ _
  | 21=>aL (fun i j=>dX _ _)
  | 22=>ak _ _
  | 23=>ak _ _
  | 24=>aP _
  | 25=>aL (fun i j=>dX _ _)
  | 26=>ak _ _
  | 27=>ak _ _
  | 28=>aP _
  | 29=>aP _
  | 30=>ak _ _
  | 31=>ak _ _
  | 32=>ak _ _
  | 33=>ak _ _
  | 34=>ak _ _
  | 35=>ak _ _
  | 36=>ak _ _
  | 37=>ak _ _
  | 38=>ak _ _
  | 39=>ak _ _
  | 40=>ak _ _
  | 41=>ak _ _
  | 42=>ak _ _
  | 43=>ak _ _
  | 44=>aL (fun i j=>ak _ _)
  | 45=>ak _ _
  | 46=>aL (fun i j=>dX _ _)
  | 47=>ak _ _
  | 48=>ak _ _
  | 49=>aP _
  | 50=>aP _
  | 51=>ak _ _
  | 52=>ak _ _
  | 53=>ak _ _
  | 54=>aP _
  | 55=>aP _
  | 56=>ak _ _
  | 57=>ak _ _
  | 58=>ak _ _
  | 59=>ak _ _
  | 60=>ak _ _
  | 61=>ak _ _
  | 62=>ak _ _
  | 63=>ak _ _
  | 64=>ak _ _
  | 65=>ak _ _
  | 66=>ak _ _
  | 67=>ak _ _
  | 68=>aP _
  | 69=>aP _
  | 70=>ak _ _
  | 71=>ak _ _
  | 72=>ak _ _
  | 73=>ak _ _
  | 74=>ak _ _
  | 75=>ak _ _
  | 76=>ak _ _
  | 77=>ak _ _
  | 78=>ak _ _
  | 79=>ak _ _
  | 80=>aL (fun i j=>ak _ _)
  | 81=>jv _
  | 82=>ak _ _
  | _+83=>trivial
theorem xS {P:Program} (x:jr) (j:Nat):bG (std P) (tC aj x j) (tC aj x j):=match j with
  | 0=>aL (fun i j=>ak _ _)
  | _+1=>trivial
theorem zw {P:Program} (x:jL) (j:Nat):bG (std P) (uU aj x j) (uU aj x j):=match j with
  | 0=>aL (fun i j=>aL (fun i j=>ak _ _))
  | 1=>aP _
  | _+2=>trivial
theorem xU {P:Program} (x:gF) (j:Nat):bG (std P) (oC aj x j) (oC aj x j):=match j with
  | 0=>ak _ _
  | 1=>jv _
  | 2=>aP _
  | 3=>aL (fun i j=>aL (fun i j=>ak _ _))
  | 4=>aP _
  | 5=>jv _
  | 6=>ak _ _
  | _+7=>trivial
theorem rT {P:Program} (x:dV) (j:Nat):bG (std P) (pU aj x j) (pU aj x j):=match j with
  | 0=>aL (fun i j=>ak _ _)
  | 1=>ak _ _
  | 2=>jv _
  | 3=>aP _
  | 4=>aL (fun i j=>aL (fun i j=>ak _ _))
  | 5=>aP _
  | 6=>jv _
  | 7=>ak _ _
  | 8=>aL (fun i j=>dX _ _)
  | 9=>ak _ _
  | 10=>ak _ _
  | 11=>aP _
  | 12=>aP _
  | 13=>ak _ _
  | 14=>ak _ _
  | 15=>ak _ _
  | 16=>ak _ _
  | 17=>ak _ _
  | 18=>ak _ _
  | 19=>ak _ _
  | 20=>ak _ _
  | 21=>ak _ _
  | 22=>ak _ _
  | 23=>ak _ _
  | 24=>ak _ _
  | 25=>ak _ _
  | 26=>ak _ _
  | 27=>aL (fun i j=>ak _ _)
  | 28=>ak _ _
  | 29=>aL (fun i j=>dX _ _)
  | 30=>ak _ _
  | 31=>ak _ _
  | 32=>aP _
  | 33=>aL (fun i j=>dX _ _)
  | 34=>ak _ _
  | 35=>ak _ _
  | 36=>aP _
  | 37=>aP _
  | 38=>ak _ _
  | 39=>ak _ _
  | 40=>ak _ _
  | 41=>ak _ _
  | 42=>ak _ _
  | 43=>ak _ _
  | 44=>ak _ _
  | 45=>ak _ _
  | 46=>ak _ _
  | 47=>ak _ _
  | 48=>ak _ _
  | 49=>ak _ _
  | 50=>ak _ _
  | 51=>ak _ _
  | 52=>aL (fun i j=>ak _ _)
  | 53=>ak _ _
  | 54=>aL (fun i j=>dX _ _)
  | 55=>ak _ _
  | 56=>ak _ _
  | 57=>aP _
  | 58=>aP _
  | 59=>ak _ _
  | 60=>ak _ _
  | 61=>ak _ _
  | 62=>aP _
  | 63=>aP _
  | 64=>ak _ _
  | 65=>ak _ _
  | 66=>ak _ _
  | 67=>ak _ _
  | 68=>ak _ _
  | 69=>ak _ _
  | 70=>ak _ _
  | 71=>ak _ _
  | 72=>ak _ _
  | 73=>ak _ _
  | 74=>ak _ _
  | 75=>ak _ _
  | 76=>aP _
  | 77=>aP _
  | 78=>ak _ _
  | 79=>ak _ _
  | 80=>ak _ _
  | 81=>ak _ _
  | 82=>ak _ _
  | 83=>ak _ _
  | 84=>ak _ _
  | 85=>ak _ _
  | 86=>ak _ _
  | 87=>ak _ _
  | 88=>aL (fun i j=>ak _ _)
  | 89=>jv _
  | 90=>ak _ _
  | 91=>ak _ _
  | _+92=>trivial
def xq:TT:=[(2,⟨1,8,.int .i64,some [.int .i64 0],none,true⟩),
  (3,⟨1,8,.int .i64,some [.int .i64 0],none,true⟩),
  (4,⟨1,1,.bool,some [.bool false],none,true⟩),
  (5,⟨1,1,.int .u8,some [.int .u8 0],none,true⟩),
  (9,⟨1,16,.string,some [.string ⟨#[]⟩],none,true⟩),
  (21,⟨1,4,.int .i32,some [.int .i32 0],none,true⟩),
  (22,⟨1,24,.slice 5,some [.slice none 0 0],none,true⟩),
  (24,⟨1,24,.struct [(0,22)],some [.slice none 0 0],none,false⟩),
  (25,⟨1,24,.slice 42,some [.slice none 0 0],none,true⟩),
  (27,⟨2,32,.struct [(0,25),(1,4)],some [.slice none 0 0,.bool false],none,false⟩),
  (29,⟨7,88,.struct [(0,3),(1,9),(2,4),(3,27),(5,9),(6,5)],some [.int .i64 0,.string ⟨#[]⟩,.bool false,.slice none 0 0,.bool false,.string ⟨#[]⟩,.int .u8 0],none,false⟩),
  (30,⟨1,24,.slice 199,some [.slice none 0 0],none,true⟩),
  (32,⟨1,24,.struct [(0,30)],some [.slice none 0 0],none,false⟩),
  (34,⟨3,24,.struct [(0,3),(1,3),(2,3)],some [.int .i64 0,.int .i64 0,.int .i64 0],some [.int .i64,.int .i64,.int .i64],false⟩),
  (35,⟨4,4,.array 4 5,some [.int .u8 0,.int .u8 0,.int .u8 0,.int .u8 0],some [.int .u8,.int .u8,.int .u8,.int .u8],false⟩),
  (37,⟨7,32,.struct [(0,35),(4,3),(5,3),(6,3)],some [.int .u8 0,.int .u8 0,.int .u8 0,.int .u8 0,.int .i64 0,.int .i64 0,.int .i64 0],some [.int .u8,.int .u8,.int .u8,.int .u8,.int .i64,.int .i64,.int .i64],false⟩),
  (39,⟨14,80,.struct [(0,3),(1,3),(2,4),(3,4),(4,34),(7,37)],some [.int .i64 0,.int .i64 0,.bool false,.bool false,.int .i64 0,.int .i64 0,.int .i64 0,.int .u8 0,.int .u8 0,.int .u8 0,.int .u8 0,.int .i64 0,.int .i64 0,.int .i64 0],some [.int .i64,.int .i64,.bool,.bool,.int .i64,.int .i64,.int .i64,.int .u8,.int .u8,.int .u8,.int .u8,.int .i64,.int .i64,.int .i64],false⟩),
  (41,⟨4,32,.struct [(0,3),(1,3),(2,3),(3,3)],some [.int .i64 0,.int .i64 0,.int .i64 0,.int .i64 0],some [.int .i64,.int .i64,.int .i64,.int .i64],false⟩),
  (42,⟨1,24,.slice 3,some [.slice none 0 0],none,true⟩),
  (44,⟨2,32,.struct [(0,42),(1,3)],some [.slice none 0 0,.int .i64 0],none,false⟩),
  (46,⟨2,32,.struct [(0,30),(1,3)],some [.slice none 0 0,.int .i64 0],none,false⟩),
  (48,⟨25,216,.struct [(0,32),(1,39),(15,41),(19,44),(21,46),(23,3),(24,4)],some [.slice none 0 0,.int .i64 0,.int .i64 0,.bool false,.bool false,.int .i64 0,.int .i64 0,.int .i64 0,.int .u8 0,.int .u8 0,.int .u8 0,.int .u8 0,.int .i64 0,.int .i64 0,.int .i64 0,.int .i64 0,.int .i64 0,.int .i64 0,.int .i64 0,.slice none 0 0,.int .i64 0,.slice none 0 0,.int .i64 0,.int .i64 0,.bool false],none,false⟩),
  (50,⟨1,8,.struct [(0,3)],some [.int .i64 0],some [.int .i64],false⟩),
  (51,⟨28,160,.array 2 39,some [.int .i64 0,.int .i64 0,.bool false,.bool false,.int .i64 0,.int .i64 0,.int .i64 0,.int .u8 0,.int .u8 0,.int .u8 0,.int .u8 0,.int .i64 0,.int .i64 0,.int .i64 0,.int .i64 0,.int .i64 0,.bool false,.bool false,.int .i64 0,.int .i64 0,.int .i64 0,.int .u8 0,.int .u8 0,.int .u8 0,.int .u8 0,.int .i64 0,.int .i64 0,.int .i64 0],some [.int .i64,.int .i64,.bool,.bool,.int .i64,.int .i64,.int .i64,.int .u8,.int .u8,.int .u8,.int .u8,.int .i64,.int .i64,.int .i64,.int .i64,.int .i64,.bool,.bool,.int .i64,.int .i64,.int .i64,.int .u8,.int .u8,.int .u8,.int .u8,.int .i64,.int .i64,.int .i64],false⟩),
  (53,⟨83,656,.struct [(0,48),(25,48),(50,4),(51,50),(52,51),(80,22),(81,9),(82,3)],some [.slice none 0 0,.int .i64 0,.int .i64 0,.bool false,.bool false,.int .i64 0,.int .i64 0,.int .i64 0,.int .u8 0,.int .u8 0,.int .u8 0,.int .u8 0,.int .i64 0,.int .i64 0,.int .i64 0,.int .i64 0,.int .i64 0,.int .i64 0,.int .i64 0,.slice none 0 0,.int .i64 0,.slice none 0 0,.int .i64 0,.int .i64 0,.bool false,.slice none 0 0,.int .i64 0,.int .i64 0,.bool false,.bool false,.int .i64 0,.int .i64 0,.int .i64 0,.int .u8 0,.int .u8 0,.int .u8 0,.int .u8 0,.int .i64 0,.int .i64 0,.int .i64 0,.int .i64 0,.int .i64 0,.int .i64 0,.int .i64 0,.slice none 0 0,.int .i64 0,.slice none 0 0,.int .i64 0,.int .i64 0,.bool false,.bool false,.int .i64 0,.int .i64 0,.int .i64 0,.bool false,.bool false,.int .i64 0,.int .i64 0,.int .i64 0,.int .u8 0,.int .u8 0,.int .u8 0,.int .u8 0,.int .i64 0,.int .i64 0,.int .i64 0,.int .i64 0,.int .i64 0,.bool false,.bool false,.int .i64 0,.int .i64 0,.int .i64 0,.int .u8 0,.int .u8 0,.int .u8 0,.int .u8 0,.int .i64 0,.int .i64 0,.int .i64 0,.slice none 0 0,.string ⟨#[]⟩,.int .i64 0],none,false⟩),
  (55,⟨92,776,.struct [(0,24),(1,29),(8,53),(91,3)],some [.slice none 0 0,.int .i64 0,.string ⟨#[]⟩,.bool false,.slice none 0 0,.bool false,.string ⟨#[]⟩,.int .u8 0,.slice none 0 0,.int .i64 0,.int .i64 0,.bool false,.bool false,.int .i64 0,.int .i64 0,.int .i64 0,.int .u8 0,.int .u8 0,.int .u8 0,.int .u8 0,.int .i64 0,.int .i64 0,.int .i64 0,.int .i64 0,.int .i64 0,.int .i64 0,.int .i64 0,.slice none 0 0,.int .i64 0,.slice none 0 0,.int .i64 0,.int .i64 0,.bool false,.slice none 0 0,.int .i64 0,.int .i64 0,.bool false,.bool false,.int .i64 0,.int .i64 0,.int .i64 0,.int .u8 0,.int .u8 0,.int .u8 0,.int .u8 0,.int .i64 0,.int .i64 0,.int .i64 0,.int .i64 0,.int .i64 0,.int .i64 0,.int .i64 0,.slice none 0 0,.int .i64 0,.slice none 0 0,.int .i64 0,.int .i64 0,.bool false,.bool false,.int .i64 0,.int .i64 0,.int .i64 0,.bool false,.bool false,.int .i64 0,.int .i64 0,.int .i64 0,.int .u8 0,.int .u8 0,.int .u8 0,.int .u8 0,.int .i64 0,.int .i64 0,.int .i64 0,.int .i64 0,.int .i64 0,.bool false,.bool false,.int .i64 0,.int .i64 0,.int .i64 0,.int .u8 0,.int .u8 0,.int .u8 0,.int .u8 0,.int .i64 0,.int .i64 0,.int .i64 0,.slice none 0 0,.string ⟨#[]⟩,.int .i64 0,.int .i64 0],none,false⟩),
  (57,⟨1,24,.struct [(0,22)],some [.slice none 0 0],none,false⟩),
  (58,⟨2,32,.struct [(0,25),(1,4)],some [.slice none 0 0,.bool false],none,false⟩),
  (60,⟨7,88,.struct [(0,3),(1,9),(2,4),(3,58),(5,9),(6,5)],some [.int .i64 0,.string ⟨#[]⟩,.bool false,.slice none 0 0,.bool false,.string ⟨#[]⟩,.int .u8 0],none,false⟩),
  (61,⟨1,24,.struct [(0,30)],some [.slice none 0 0],none,false⟩),
  (62,⟨7,32,.struct [(0,35),(4,3),(5,3),(6,3)],some [.int .u8 0,.int .u8 0,.int .u8 0,.int .u8 0,.int .i64 0,.int .i64 0,.int .i64 0],some [.int .u8,.int .u8,.int .u8,.int .u8,.int .i64,.int .i64,.int .i64],false⟩),
  (64,⟨14,80,.struct [(0,3),(1,3),(2,4),(3,4),(4,34),(7,62)],some [.int .i64 0,.int .i64 0,.bool false,.bool false,.int .i64 0,.int .i64 0,.int .i64 0,.int .u8 0,.int .u8 0,.int .u8 0,.int .u8 0,.int .i64 0,.int .i64 0,.int .i64 0],some [.int .i64,.int .i64,.bool,.bool,.int .i64,.int .i64,.int .i64,.int .u8,.int .u8,.int .u8,.int .u8,.int .i64,.int .i64,.int .i64],false⟩),
  (65,⟨4,32,.struct [(0,3),(1,3),(2,3),(3,3)],some [.int .i64 0,.int .i64 0,.int .i64 0,.int .i64 0],some [.int .i64,.int .i64,.int .i64,.int .i64],false⟩),
  (66,⟨2,32,.struct [(0,42),(1,3)],some [.slice none 0 0,.int .i64 0],none,false⟩),
  (67,⟨2,32,.struct [(0,30),(1,3)],some [.slice none 0 0,.int .i64 0],none,false⟩),
  (69,⟨25,216,.struct [(0,61),(1,64),(15,65),(19,66),(21,67),(23,3),(24,4)],some [.slice none 0 0,.int .i64 0,.int .i64 0,.bool false,.bool false,.int .i64 0,.int .i64 0,.int .i64 0,.int .u8 0,.int .u8 0,.int .u8 0,.int .u8 0,.int .i64 0,.int .i64 0,.int .i64 0,.int .i64 0,.int .i64 0,.int .i64 0,.int .i64 0,.slice none 0 0,.int .i64 0,.slice none 0 0,.int .i64 0,.int .i64 0,.bool false],none,false⟩),
  (70,⟨1,8,.struct [(0,3)],some [.int .i64 0],some [.int .i64],false⟩),
  (71,⟨28,160,.array 2 64,some [.int .i64 0,.int .i64 0,.bool false,.bool false,.int .i64 0,.int .i64 0,.int .i64 0,.int .u8 0,.int .u8 0,.int .u8 0,.int .u8 0,.int .i64 0,.int .i64 0,.int .i64 0,.int .i64 0,.int .i64 0,.bool false,.bool false,.int .i64 0,.int .i64 0,.int .i64 0,.int .u8 0,.int .u8 0,.int .u8 0,.int .u8 0,.int .i64 0,.int .i64 0,.int .i64 0],some [.int .i64,.int .i64,.bool,.bool,.int .i64,.int .i64,.int .i64,.int .u8,.int .u8,.int .u8,.int .u8,.int .i64,.int .i64,.int .i64,.int .i64,.int .i64,.bool,.bool,.int .i64,.int .i64,.int .i64,.int .u8,.int .u8,.int .u8,.int .u8,.int .i64,.int .i64,.int .i64],false⟩),
  (73,⟨83,656,.struct [(0,69),(25,69),(50,4),(51,70),(52,71),(80,22),(81,9),(82,3)],some [.slice none 0 0,.int .i64 0,.int .i64 0,.bool false,.bool false,.int .i64 0,.int .i64 0,.int .i64 0,.int .u8 0,.int .u8 0,.int .u8 0,.int .u8 0,.int .i64 0,.int .i64 0,.int .i64 0,.int .i64 0,.int .i64 0,.int .i64 0,.int .i64 0,.slice none 0 0,.int .i64 0,.slice none 0 0,.int .i64 0,.int .i64 0,.bool false,.slice none 0 0,.int .i64 0,.int .i64 0,.bool false,.bool false,.int .i64 0,.int .i64 0,.int .i64 0,.int .u8 0,.int .u8 0,.int .u8 0,.int .u8 0,.int .i64 0,.int .i64 0,.int .i64 0,.int .i64 0,.int .i64 0,.int .i64 0,.int .i64 0,.slice none 0 0,.int .i64 0,.slice none 0 0,.int .i64 0,.int .i64 0,.bool false,.bool false,.int .i64 0,.int .i64 0,.int .i64 0,.bool false,.bool false,.int .i64 0,.int .i64 0,.int .i64 0,.int .u8 0,.int .u8 0,.int .u8 0,.int .u8 0,.int .i64 0,.int .i64 0,.int .i64 0,.int .i64 0,.int .i64 0,.bool false,.bool false,.int .i64 0,.int .i64 0,.int .i64 0,.int .u8 0,.int .u8 0,.int .u8 0,.int .u8 0,.int .i64 0,.int .i64 0,.int .i64 0,.slice none 0 0,.string ⟨#[]⟩,.int .i64 0],none,false⟩),
  (75,⟨92,776,.struct [(0,57),(1,60),(8,73),(91,3)],some [.slice none 0 0,.int .i64 0,.string ⟨#[]⟩,.bool false,.slice none 0 0,.bool false,.string ⟨#[]⟩,.int .u8 0,.slice none 0 0,.int .i64 0,.int .i64 0,.bool false,.bool false,.int .i64 0,.int .i64 0,.int .i64 0,.int .u8 0,.int .u8 0,.int .u8 0,.int .u8 0,.int .i64 0,.int .i64 0,.int .i64 0,.int .i64 0,.int .i64 0,.int .i64 0,.int .i64 0,.slice none 0 0,.int .i64 0,.slice none 0 0,.int .i64 0,.int .i64 0,.bool false,.slice none 0 0,.int .i64 0,.int .i64 0,.bool false,.bool false,.int .i64 0,.int .i64 0,.int .i64 0,.int .u8 0,.int .u8 0,.int .u8 0,.int .u8 0,.int .i64 0,.int .i64 0,.int .i64 0,.int .i64 0,.int .i64 0,.int .i64 0,.int .i64 0,.slice none 0 0,.int .i64 0,.slice none 0 0,.int .i64 0,.int .i64 0,.bool false,.bool false,.int .i64 0,.int .i64 0,.int .i64 0,.bool false,.bool false,.int .i64 0,.int .i64 0,.int .i64 0,.int .u8 0,.int .u8 0,.int .u8 0,.int .u8 0,.int .i64 0,.int .i64 0,.int .i64 0,.int .i64 0,.int .i64 0,.bool false,.bool false,.int .i64 0,.int .i64 0,.int .i64 0,.int .u8 0,.int .u8 0,.int .u8 0,.int .u8 0,.int .i64 0,.int .i64 0,.int .i64 0,.slice none 0 0,.string ⟨#[]⟩,.int .i64 0,.int .i64 0],none,false⟩),
  (85,⟨1,24,.slice 172,some [.slice none 0 0],none,true⟩),
  (87,⟨1,24,.struct [(0,85)],some [.slice none 0 0],none,false⟩),
  (88,⟨1,24,.slice 174,some [.slice none 0 0],none,true⟩),
  (89,⟨1,24,.slice 176,some [.slice none 0 0],none,true⟩),
  (91,⟨6,144,.struct [(0,87),(1,87),(2,87),(3,88),(4,88),(5,89)],some [.slice none 0 0,.slice none 0 0,.slice none 0 0,.slice none 0 0,.slice none 0 0,.slice none 0 0],none,false⟩),
  (94,⟨5,40,.struct [(0,3),(1,3),(2,3),(3,3),(4,3)],some [.int .i64 0,.int .i64 0,.int .i64 0,.int .i64 0,.int .i64 0],some [.int .i64,.int .i64,.int .i64,.int .i64,.int .i64],false⟩),
  (96,⟨11,104,.struct [(0,3),(1,3),(2,3),(3,3),(4,3),(5,22),(6,94)],some [.int .i64 0,.int .i64 0,.int .i64 0,.int .i64 0,.int .i64 0,.slice none 0 0,.int .i64 0,.int .i64 0,.int .i64 0,.int .i64 0,.int .i64 0],none,false⟩),
  (97,⟨1,24,.slice 96,some [.slice none 0 0],none,true⟩),
  (117,⟨1,24,.slice 301,some [.slice none 0 0],none,true⟩),
  (119,⟨4,80,.struct [(0,42),(1,42),(2,117),(3,3)],some [.slice none 0 0,.slice none 0 0,.slice none 0 0,.int .i64 0],none,false⟩),
  (143,⟨1,24,.struct [(0,22)],some [.slice none 0 0],none,false⟩),
  (156,⟨1,8,.int .u64,some [.int .u64 0],none,true⟩),
  (168,⟨1,24,.slice 9,some [.slice none 0 0],none,true⟩),
  (172,⟨3,24,.struct [(0,3),(1,3),(2,3)],some [.int .i64 0,.int .i64 0,.int .i64 0],some [.int .i64,.int .i64,.int .i64],false⟩),
  (174,⟨2,16,.struct [(0,3),(1,3)],some [.int .i64 0,.int .i64 0],some [.int .i64,.int .i64],false⟩),
  (176,⟨3,24,.struct [(0,3),(1,3),(2,3)],some [.int .i64 0,.int .i64 0,.int .i64 0],some [.int .i64,.int .i64,.int .i64],false⟩),
  (199,⟨4,48,.struct [(0,117),(1,4),(2,3),(3,4)],some [.slice none 0 0,.bool false,.int .i64 0,.bool false],none,false⟩),
  (212,⟨1,24,.slice 216,some [.slice none 0 0],none,true⟩),
  (216,⟨6,80,.struct [(0,3),(1,3),(2,5),(3,9),(4,25),(5,9)],some [.int .i64 0,.int .i64 0,.int .u8 0,.string ⟨#[]⟩,.slice none 0 0,.string ⟨#[]⟩],none,false⟩),
  (231,⟨1,16,.iface,some [.nilIface],none,true⟩),
  (234,⟨256,256,.array 256 5,some [.int .u8 0,.int .u8 0,.int .u8 0,.int .u8 0,.int .u8 0,.int .u8 0,.int .u8 0,.int .u8 0,.int .u8 0,.int .u8 0,.int .u8 0,.int .u8 0,.int .u8 0,.int .u8 0,.int .u8 0,.int .u8 0,.int .u8 0,.int .u8 0,.int .u8 0,.int .u8 0,.int .u8 0,.int .u8 0,.int .u8 0,.int .u8 0,.int .u8 0,.int .u8 0,.int .u8 0,.int .u8 0,.int .u8 0,.int .u8 0,.int .u8 0,.int .u8 0,.int .u8 0,.int .u8 0,.int .u8 0,.int .u8 0,.int .u8 0,.int .u8 0,.int .u8 0,.int .u8 0,.int .u8 0,.int .u8 0,.int .u8 0,.int .u8 0,.int .u8 0,.int .u8 0,.int .u8 0,.int .u8 0,.int .u8 0,.int .u8 0,.int .u8 0,.int .u8 0,.int .u8 0,.int .u8 0,.int .u8 0,.int .u8 0,.int .u8 0,.int .u8 0,.int .u8 0,.int .u8 0,.int .u8 0,.int .u8 0,.int .u8 0,.int .u8 0,.int .u8 0,.int .u8 0,.int .u8 0,.int .u8 0,.int .u8 0,.int .u8 0,.int .u8 0,.int .u8 0,.int .u8 0,.int .u8 0,.int .u8 0,.int .u8 0,.int .u8 0,.int .u8 0,.int .u8 0,.int .u8 0,.int .u8 0,.int .u8 0,.int .u8 0,.int .u8 0,.int .u8 0,.int .u8 0,.int .u8 0,.int .u8 0,.int .u8 0,.int .u8 0,.int .u8 0,.int .u8 0,.int .u8 0,.int .u8 0,.int .u8 0,.int .u8 0,.int .u8 0,.int .u8 0,.int .u8 0,.int .u8 0,.int .u8 0,.int .u8 0,.int .u8 0,.int .u8 0,.int .u8 0,.int .u8 0,.int .u8 0,.int .u8 0,.int .u8 0,.int .u8 0,.int .u8 0,.int .u8 0,.int .u8 0,.int .u8 0,.int .u8 0,.int .u8 0,.int .u8 0,.int .u8 0,.int .u8 0,.int .u8 0,.int .u8 0,.int .u8 0,.int .u8 0,.int .u8 0,.int .u8 0,.int .u8 0,.int .u8 0,.int .u8 0,.int .u8 0,.int .u8 0,.int .u8 0,.int .u8 0,.int .u8 0,.int .u8 0,.int .u8 0,.int .u8 0,.int .u8 0,.int .u8 0,.int .u8 0,.int .u8 0,.int .u8 0,.int .u8 0,.int .u8 0,.int .u8 0,.int .u8 0,.int .u8 0,.int .u8 0,.int .u8 0,.int .u8 0,.int .u8 0,.int .u8 0,.int .u8 0,.int .u8 0,.int .u8 0,.int .u8 0,.int .u8 0,.int .u8 0,.int .u8 0,.int .u8 0,.int .u8 0,.int .u8 0,.int .u8 0,.int .u8 0,.int .u8 0,.int .u8 0,.int .u8 0,.int .u8 0,.int .u8 0,.int .u8 0,.int .u8 0,.int .u8 0,.int .u8 0,.int .u8 0,.int .u8 0,.int .u8 0,.int .u8 0,.int .u8 0,.int .u8 0,.int .u8 0,.int .u8 0,.int .u8 0,.int .u8 0,.int .u8 0,.int .u8 0,.int .u8 0,.int .u8 0,.int .u8 0,.int .u8 0,.int .u8 0,.int .u8 0,.int .u8 0,.int .u8 0,.int .u8 0,.int .u8 0,.int .u8 0,.int .u8 0,.int .u8 0,.int .u8 0,.int .u8 0,.int .u8 0,.int .u8 0,.int .u8 0,.int .u8 0,.int .u8 0,.int .u8 0,.int .u8 0,.int .u8 0,.int .u8 0,.int .u8 0,.int .u8 0,.int .u8 0,.int .u8 0,.int .u8 0,.int .u8 0,.int .u8 0,.int .u8 0,.int .u8 0,.int .u8 0,.int .u8 0,.int .u8 0,.int .u8 0,.int .u8 0,.int .u8 0,.int .u8 0,.int .u8 0,.int .u8 0,.int .u8 0,.int .u8 0,.int .u8 0,.int .u8 0,.int .u8 0,.int .u8 0,.int .u8 0,.int .u8 0,.int .u8 0,.int .u8 0,.int .u8 0,.int .u8 0,.int .u8 0,.int .u8 0,.int .u8 0,.int .u8 0,.int .u8 0,.int .u8 0,.int .u8 0,.int .u8 0,.int .u8 0,.int .u8 0,.int .u8 0,.int .u8 0,.int .u8 0,.int .u8 0,.int .u8 0,.int .u8 0,.int .u8 0,.int .u8 0],some [.int .u8,.int .u8,.int .u8,.int .u8,.int .u8,.int .u8,.int .u8,.int .u8,.int .u8,.int .u8,.int .u8,.int .u8,.int .u8,.int .u8,.int .u8,.int .u8,.int .u8,.int .u8,.int .u8,.int .u8,.int .u8,.int .u8,.int .u8,.int .u8,.int .u8,.int .u8,.int .u8,.int .u8,.int .u8,.int .u8,.int .u8,.int .u8,.int .u8,.int .u8,.int .u8,.int .u8,.int .u8,.int .u8,.int .u8,.int .u8,.int .u8,.int .u8,.int .u8,.int .u8,.int .u8,.int .u8,.int .u8,.int .u8,.int .u8,.int .u8,.int .u8,.int .u8,.int .u8,.int .u8,.int .u8,.int .u8,.int .u8,.int .u8,.int .u8,.int .u8,.int .u8,.int .u8,.int .u8,.int .u8,.int .u8,.int .u8,.int .u8,.int .u8,.int .u8,.int .u8,.int .u8,.int .u8,.int .u8,.int .u8,.int .u8,.int .u8,.int .u8,.int .u8,.int .u8,.int .u8,.int .u8,.int .u8,.int .u8,.int .u8,.int .u8,.int .u8,.int .u8,.int .u8,.int .u8,.int .u8,.int .u8,.int .u8,.int .u8,.int .u8,.int .u8,.int .u8,.int .u8,.int .u8,.int .u8,.int .u8,.int .u8,.int .u8,.int .u8,.int .u8,.int .u8,.int .u8,.int .u8,.int .u8,.int .u8,.int .u8,.int .u8,.int .u8,.int .u8,.int .u8,.int .u8,.int .u8,.int .u8,.int .u8,.int .u8,.int .u8,.int .u8,.int .u8,.int .u8,.int .u8,.int .u8,.int .u8,.int .u8,.int .u8,.int .u8,.int .u8,.int .u8,.int .u8,.int .u8,.int .u8,.int .u8,.int .u8,.int .u8,.int .u8,.int .u8,.int .u8,.int .u8,.int .u8,.int .u8,.int .u8,.int .u8,.int .u8,.int .u8,.int .u8,.int .u8,.int .u8,.int .u8,.int .u8,.int .u8,.int .u8,.int .u8,.int .u8,.int .u8,.int .u8,.int .u8,.int .u8,.int .u8,.int .u8,.int .u8,.int .u8,.int .u8,.int .u8,.int .u8,.int .u8,.int .u8,.int .u8,.int .u8,.int .u8,.int .u8,.int .u8,.int .u8,.int .u8,.int .u8,.int .u8,.int .u8,.int .u8,.int .u8,.int .u8,.int .u8,.int .u8,.int .u8,.int .u8,.int .u8,.int .u8,.int .u8,.int .u8,.int .u8,.int .u8,.int .u8,.int .u8,.int .u8,.int .u8,.int .u8,.int .u8,.int .u8,.int .u8,.int .u8,.int .u8,.int .u8,.int .u8,.int .u8,.int .u8,.int .u8,.int .u8,.int .u8,.int .u8,.int .u8,.int .u8,.int .u8,.int .u8,.int .u8,.int .u8,.int .u8,.int .u8,.int .u8,.int .u8,.int .u8,.int .u8,.int .u8,.int .u8,.int .u8,.int .u8,.int .u8,.int .u8,.int .u8,.int .u8,.int .u8,.int .u8,.int .u8,.int .u8,.int .u8,.int .u8,.int .u8,.int .u8,.int .u8,.int .u8,.int .u8,.int .u8,.int .u8,.int .u8,.int .u8,.int .u8,.int .u8,.int .u8,.int .u8,.int .u8,.int .u8,.int .u8,.int .u8,.int .u8,.int .u8,.int .u8],false⟩),
  (236,⟨2,16,.struct [(0,4),(1,3)],some [.bool false,.int .i64 0],some [.bool,.int .i64],false⟩),
  (237,⟨48,384,.array 24 236,some [.bool false,.int .i64 0,.bool false,.int .i64 0,.bool false,.int .i64 0,.bool false,.int .i64 0,.bool false,.int .i64 0,.bool false,.int .i64 0,.bool false,.int .i64 0,.bool false,.int .i64 0,.bool false,.int .i64 0,.bool false,.int .i64 0,.bool false,.int .i64 0,.bool false,.int .i64 0,.bool false,.int .i64 0,.bool false,.int .i64 0,.bool false,.int .i64 0,.bool false,.int .i64 0,.bool false,.int .i64 0,.bool false,.int .i64 0,.bool false,.int .i64 0,.bool false,.int .i64 0,.bool false,.int .i64 0,.bool false,.int .i64 0,.bool false,.int .i64 0,.bool false,.int .i64 0],some [.bool,.int .i64,.bool,.int .i64,.bool,.int .i64,.bool,.int .i64,.bool,.int .i64,.bool,.int .i64,.bool,.int .i64,.bool,.int .i64,.bool,.int .i64,.bool,.int .i64,.bool,.int .i64,.bool,.int .i64,.bool,.int .i64,.bool,.int .i64,.bool,.int .i64,.bool,.int .i64,.bool,.int .i64,.bool,.int .i64,.bool,.int .i64,.bool,.int .i64,.bool,.int .i64,.bool,.int .i64,.bool,.int .i64,.bool,.int .i64],false⟩),
  (243,⟨5,72,.struct [(0,3),(1,3),(2,42),(3,42),(4,3)],some [.int .i64 0,.int .i64 0,.slice none 0 0,.slice none 0 0,.int .i64 0],none,false⟩),
  (251,⟨2,16,.struct [(0,3),(1,3)],some [.int .i64 0,.int .i64 0],some [.int .i64,.int .i64],false⟩),
  (254,⟨1,24,.slice 310,some [.slice none 0 0],none,true⟩),
  (272,⟨1,8,.other,some [.nilFunc],none,true⟩),
  (274,⟨1,24,.slice 329,some [.slice none 0 0],none,true⟩),
  (284,⟨1,24,.slice 286,some [.slice none 0 0],none,true⟩),
  (286,⟨2,16,.struct [(0,3),(1,3)],some [.int .i64 0,.int .i64 0],some [.int .i64,.int .i64],false⟩),
  (299,⟨2,16,.array 2 3,some [.int .i64 0,.int .i64 0],some [.int .i64,.int .i64],false⟩),
  (301,⟨7,56,.struct [(0,3),(1,299),(3,3),(4,34)],some [.int .i64 0,.int .i64 0,.int .i64 0,.int .i64 0,.int .i64 0,.int .i64 0,.int .i64 0],some [.int .i64,.int .i64,.int .i64,.int .i64,.int .i64,.int .i64,.int .i64],false⟩),
  (310,⟨3,40,.struct [(0,117),(1,3),(2,4)],some [.slice none 0 0,.int .i64 0,.bool false],none,false⟩),
  (318,⟨1,8,.int .u64,some [.int .u64 0],none,true⟩),
  (326,⟨1,8,.other,some [.nilFunc],none,true⟩),
  (329,⟨3,32,.struct [(0,9),(1,5),(2,272)],some [.string ⟨#[]⟩,.int .u8 0,.nilFunc],none,false⟩),
  (337,⟨1,8,.other,some [.nilFunc],none,true⟩),
  (341,⟨1,8,.other,some [.nilFunc],none,true⟩),
  (347,⟨1,8,.int .i64,some [.int .i64 0],none,true⟩),
  (382,⟨1,24,.slice 383,some [.slice none 0 0],none,true⟩),
  (383,⟨1,8,.other,some [.nilFunc],none,true⟩),
  (425,⟨1,24,.slice 4,some [.slice none 0 0],none,true⟩),
  (427,⟨3,72,.struct [(0,42),(1,42),(2,425)],some [.slice none 0 0,.slice none 0 0,.slice none 0 0],none,false⟩),
  (434,⟨1,8,.map 3 3,some [.map none],none,true⟩),
  (466,⟨1,24,.struct [(0,42)],some [.slice none 0 0],none,false⟩),
  (469,⟨1,24,.slice 476,some [.slice none 0 0],none,true⟩),
  (471,⟨1,24,.struct [(0,469)],some [.slice none 0 0],none,false⟩),
  (473,⟨10,176,.struct [(0,42),(1,42),(2,3),(3,427),(6,471),(7,3),(8,3),(9,3)],some [.slice none 0 0,.slice none 0 0,.int .i64 0,.slice none 0 0,.slice none 0 0,.slice none 0 0,.slice none 0 0,.int .i64 0,.int .i64 0,.int .i64 0],none,false⟩),
  (476,⟨3,24,.struct [(0,3),(1,3),(2,4)],some [.int .i64 0,.int .i64 0,.bool false],some [.int .i64,.int .i64,.bool],false⟩),
  (480,⟨1,24,.slice 299,some [.slice none 0 0],none,true⟩),
  (483,⟨7,104,.struct [(0,42),(1,42),(2,3),(3,3),(4,3),(5,3),(6,480)],some [.slice none 0 0,.slice none 0 0,.int .i64 0,.int .i64 0,.int .i64 0,.int .i64 0,.slice none 0 0],none,false⟩),
  (484,⟨1,8,.other,some [.nilFunc],none,true⟩),
  (485,⟨1,24,.slice 484,some [.slice none 0 0],none,true⟩),
  (487,⟨2,32,.struct [(0,42),(1,3)],some [.slice none 0 0,.int .i64 0],none,false⟩),
  (488,⟨1,8,.other,some [.nilFunc],none,true⟩),
  (489,⟨1,24,.slice 488,some [.slice none 0 0],none,true⟩)]
theorem iB:gH Tryz.prog xq:=gH.of _ _ (by kernel_rfl)
theorem sQ:Tryz.prog.follows .mixedOrders=true:=by kernel_rfl

theorem aiD {P:Program} {f:FuncId} {fn:Func} {e:Array Value→Sem Value} (hf:P.funcs[f]? = some fn) (hname:(fn.name == "runtime.NumGoroutine")=false) (hb:fn.body.isNone=true) (hn:Extern.findNext fn=none) (he:Extern.find fn=some e)
    {a b d:Value} (hr : ∀ w,(e #[a,b]).run P w = .ok d w):tK P f [.v a,.v b] (.v d):=by
  intro w I c vs hl ha
  match vs,hl with
  | [x,y],_ =>
    obtain ⟨y0,h0,r0⟩:=ha 0 _ rfl
    obtain ⟨y1,h1,r1⟩:=ha 1 _ rfl
    have r0:y0=a:=r0
    have r1:y1=b:=r1
    have h0:x=y0:=by simpa using h0
    have h1:y=y1:=by simpa using h1
    rw [h0,h1,r0,r1]
    refine ⟨d,?_,rfl⟩
    show (callFunc f #[a,b]).run P w=_
    rw [run_callFunc_extern hf hname hb hn he,hr];rfl
theorem Jv (s:ByteArray) (c:Int) (r:Int) (h:Br s c=some r):tK Tryz.prog 249 [.v (.string s),.v (.int .u8 c)] (.v (.int .i64 r)):=by
  cases h
  exact aiD Tryz.func249 (by kernel_rfl) (by kernel_rfl) (by kernel_rfl) (e:=Extern.BytealgCount.count) (by kernel_rfl) (fun w=>Lib.run_countString s c w)
theorem Ef (s:ByteArray) (c:Int) (r:Int) (h:xu s c=some r):tK Tryz.prog 304 [.v (.string s),.v (.int .u8 c)] (.v (.int .i64 r)):=by
  cases h
  exact aiD Tryz.func304 (by kernel_rfl) (by kernel_rfl) (by kernel_rfl) (e:=Extern.BytealgIndexByte.indexByte) (by kernel_rfl) (fun w=>Lib.run_indexByteString s c w)

/-! Closing tactics. -/
theorem aiE (k:Nat) (c:Nat→D):oZ (cellsOf.match_1 (motive:=fun _ _=>List D) k c (fun _=>[]) (fun n c=>c 0 :: cellsOf n fun j=>c (j+1))) ([]++cellsOf k c):=by
  cases k<;>exact oZ.refl _
theorem dW {α β:Type} (xs:List α) (v:β):ah (iG (ah xs) v)=ah xs:=bn v (bQ xs)
theorem Wy {p:Prop} (h:p:=by first | with_reducible rfl | with_reducible assumption | (symm;with_reducible assumption) | ((try dsimp only [bN,dD,aj])<;>first | with_reducible rfl | omega | (simp (disch:=first | omega | with_reducible exact bQ _ | with_reducible exact lT _ | (simp only [aJ,aG,aB,aF]<;>omega) | with_reducible exact iP.2 ⟨bQ _,by omega⟩ | ((try simp only [dW]);simp only [iP,qd,jZ];(try simp (disch:=omega) only [aY,bn]);omega) | ((try simp only [dW]);unfold bH;(try simp (disch:=omega) only [aY,bn]);(repeat' split)<;>omega) | fail) only [bM,aJ,aG,aB,aF,bn,aY,bV,Int.ofNat_eq_natCast,Int.zero_add,Int.sub_zero]<;>first | done | omega | with_reducible assumption | rfl | fail)) | rfl | assumption | (symm;assumption) | fail):p:=h
theorem Wf {p:Prop} (h:p:=by
  (try dsimp only)<;>repeat' first
  | exact trivial
  | with_reducible refine And.intro ?_ ?_
  | with_reducible rfl
  | with_reducible assumption
  | (simp (disch:=first | omega | with_reducible exact bQ _ | with_reducible exact lT _ | (simp only [aJ,aG,aB,aF]<;>omega) | with_reducible exact iP.2 ⟨bQ _,by omega⟩ | ((try simp only [dW]);simp only [iP,qd,jZ];(try simp (disch:=omega) only [aY,bn]);omega) | ((try simp only [dW]);unfold bH;(try simp (disch:=omega) only [aY,bn]);(repeat' split)<;>omega) | fail) only [bM,aJ,aG,aB,aF,bn,aY,bV,Int.ofNat_eq_natCast,Int.zero_add,Int.sub_zero]<;>first | done | with_reducible assumption | omega | rfl | fail)
  | omega
  | rfl
  | fail):p:=h
theorem Wm {p:Prop} (h:p:=by (try dsimp only [bN,dD,aj])<;>first | omega | (simp (disch:=first | omega | with_reducible exact bQ _ | with_reducible exact lT _ | (simp only [aJ,aG,aB,aF]<;>omega) | with_reducible exact iP.2 ⟨bQ _,by omega⟩ | ((try simp only [dW]);simp only [iP,qd,jZ];(try simp (disch:=omega) only [aY,bn]);omega) | ((try simp only [dW]);unfold bH;(try simp (disch:=omega) only [aY,bn]);(repeat' split)<;>omega) | fail) only [bM,aJ,aG,aB,aF,bn,aY,bV,Int.ofNat_eq_natCast,Int.zero_add,Int.sub_zero]<;>omega)):p:=h
theorem Woc {p:Prop} (h:p:=by first | exact ak _ _ | (intro i j;first | exact ak _ _ | exact aP _ | exact jv _ | exact aL (fun i j=>ak _ _) | exact aL (fun i j=>aP _) | exact aL (fun i j=>jv _) | exact FU _ _ | exact oP _ _ | exact FW _ _ | exact Aa _ _ | exact FX _ _ | exact Ox _ _ | exact EG _ _ | exact SL _ _ | exact EH _ _ | exact SN _ _ | exact EI _ _ | exact FY _ _ | exact rM _ _ | exact dX _ _ | exact Nw _ _ | exact J3 _ _ | exact FZ _ _ | exact xG _ _ | exact Ie _ _ | exact J4 _ _ | exact tH _ _ | exact qQ _ _ | exact yX _ _ | exact Ny _ _ | exact Ig _ _ | exact Ih _ _ | exact Ee _ _ | exact F3 _ _ | exact Ii _ _ | exact Oy _ _ | exact J5 _ _ | exact Ij _ _ | exact F4 _ _ | exact vk _ _ | exact Ab _ _ | exact tJ _ _ | exact EJ _ _ | exact Nz _ _ | exact EL _ _ | exact NA _ _ | exact NC _ _ | exact DF _ _ | exact ND _ _ | exact xP _ _ | exact xg _ _ | exact zq _ _ | exact xk _ _ | exact xQ _ _ | exact zu _ _ | exact p8 _ _ | exact xR _ _ | exact mM _ _ | exact qR _ _ | exact xS _ _ | exact zw _ _ | exact xU _ _ | exact rT _ _ | exact aL (fun i j=>FU _ _) | exact aL (fun i j=>oP _ _) | exact aL (fun i j=>FW _ _) | exact aL (fun i j=>Aa _ _) | exact aL (fun i j=>FX _ _) | exact aL (fun i j=>Ox _ _) | exact aL (fun i j=>EG _ _) | exact aL (fun i j=>SL _ _) | exact aL (fun i j=>EH _ _) | exact aL (fun i j=>SN _ _) | exact aL (fun i j=>EI _ _) | exact aL (fun i j=>FY _ _) | exact aL (fun i j=>rM _ _) | exact aL (fun i j=>dX _ _) | exact aL (fun i j=>Nw _ _) | exact aL (fun i j=>J3 _ _) | exact aL (fun i j=>FZ _ _) | exact aL (fun i j=>xG _ _) | exact aL (fun i j=>Ie _ _) | exact aL (fun i j=>J4 _ _) | exact aL (fun i j=>tH _ _) | exact aL (fun i j=>qQ _ _) | exact aL (fun i j=>yX _ _) | exact aL (fun i j=>Ny _ _) | exact aL (fun i j=>Ig _ _) | exact aL (fun i j=>Ih _ _) | exact aL (fun i j=>Ee _ _) | exact aL (fun i j=>F3 _ _) | exact aL (fun i j=>Ii _ _) | exact aL (fun i j=>Oy _ _) | exact aL (fun i j=>J5 _ _) | exact aL (fun i j=>Ij _ _) | exact aL (fun i j=>F4 _ _) | exact aL (fun i j=>vk _ _) | exact aL (fun i j=>Ab _ _) | exact aL (fun i j=>tJ _ _) | exact aL (fun i j=>EJ _ _) | exact aL (fun i j=>Nz _ _) | exact aL (fun i j=>EL _ _) | exact aL (fun i j=>NA _ _) | exact aL (fun i j=>NC _ _) | exact aL (fun i j=>DF _ _) | exact aL (fun i j=>ND _ _) | exact aL (fun i j=>xP _ _) | exact aL (fun i j=>xg _ _) | exact aL (fun i j=>zq _ _) | exact aL (fun i j=>xk _ _) | exact aL (fun i j=>xQ _ _) | exact aL (fun i j=>zu _ _) | exact aL (fun i j=>p8 _ _) | exact aL (fun i j=>xR _ _) | exact aL (fun i j=>mM _ _) | exact aL (fun i j=>qR _ _) | exact aL (fun i j=>xS _ _) | exact aL (fun i j=>zw _ _) | exact aL (fun i j=>xU _ _) | exact aL (fun i j=>rT _ _) | trivial | fail) | fail):p:=h
theorem yY {p:Nat→Prop} : ∀ j,j < 0→p j:=fun j h=>absurd h (Nat.not_lt_zero j)
theorem yZ {p:Nat→Prop} {n:Nat} (h0:p 0) (h : ∀ j,j < n→p (j+1)) : ∀ j,j < n+1→p j
  | 0,_=>h0
  | j+1,hj=>h j (Nat.lt_of_succ_lt_succ hj)
theorem Wpj {p:Prop} (h:p:=by (conv=>lhs;whnf)<;>(conv=>rhs;whnf)<;>(try dsimp only [bN,dD,aj])<;>(first | rfl | (simp (disch:=first | omega | with_reducible exact bQ _ | with_reducible exact lT _ | (simp only [aJ,aG,aB,aF]<;>omega) | with_reducible exact iP.2 ⟨bQ _,by omega⟩ | ((try simp only [dW]);simp only [iP,qd,jZ];(try simp (disch:=omega) only [aY,bn]);omega) | ((try simp only [dW]);unfold bH;(try simp (disch:=omega) only [aY,bn]);(repeat' split)<;>omega) | fail) only [tL,gQ,fI,qU,jT,aY,bn,BQ,pz,Int.zero_add,Int.sub_zero,beq_iff_eq,decide_eq_true_eq,Bool.and_eq_true]<;>first | rfl | (split<;>first | rfl | (exfalso;omega) | (subst_vars;rfl) | (simp (disch:=first | omega | with_reducible exact bQ _ | with_reducible exact lT _ | (simp only [aJ,aG,aB,aF]<;>omega) | with_reducible exact iP.2 ⟨bQ _,by omega⟩ | ((try simp only [dW]);simp only [iP,qd,jZ];(try simp (disch:=omega) only [aY,bn]);omega) | ((try simp only [dW]);unfold bH;(try simp (disch:=omega) only [aY,bn]);(repeat' split)<;>omega) | fail) only [eD,eO]<;>rfl)) | ((repeat' split)<;>first | rfl | (exfalso;omega) | fail) | (simp (disch:=omega) only [eD,eO]<;>rfl) | ((simp only [aG,aB,aF,Int.ofNat_eq_natCast])<;>(repeat' split)<;>first | rfl | (exfalso;omega) | (subst_vars;rfl) | (simp (disch:=omega) only [eD,eO]<;>rfl) | (congr 3;omega) | fail)) | fail)):p:=h
theorem Wp {p:Prop} (h:p:=by
  intro i i0 i1
  first
  | (exfalso;revert i1;show i < (0:Int)→False;omega)
  | ((try dsimp only [bN,dD,aj] at i1);(try simp only [Int.ofNat_eq_natCast,aG,aB,aF,aJ,bM] at i1);(try simp (disch:=first | omega | with_reducible exact bQ _ | with_reducible exact lT _ | (simp only [aJ,aG,aB,aF]<;>omega) | with_reducible exact iP.2 ⟨bQ _,by omega⟩ | ((try simp only [dW]);simp only [iP,qd,jZ];(try simp (disch:=omega) only [aY,bn]);omega) | ((try simp only [dW]);unfold bH;(try simp (disch:=omega) only [aY,bn]);(repeat' split)<;>omega) | fail) only [aY,bn,bV,Int.zero_add,Int.sub_zero] at i1)
     first
     | (repeat' first | exact yY | refine yZ ?_ ?_ | exact Wpj | fail
        first | done | fail)
     | ((first | (obtain rfl:i=0:=(by omega)) | (rcases (show i=0∨i=1 by omega) with rfl | rfl) | (rcases (show i=0∨i=1∨i=2 by omega) with rfl | rfl | rfl) | (rcases (show i=0∨i=1∨i=2∨i=3 by omega) with rfl | rfl | rfl | rfl) | (rcases (show i=0∨i=1∨i=2∨i=3∨i=4 by omega) with rfl | rfl | rfl | rfl | rfl) | (rcases (show i=0∨i=1∨i=2∨i=3∨i=4∨i=5 by omega) with rfl | rfl | rfl | rfl | rfl | rfl) | (rcases (show i=0∨i=1∨i=2∨i=3∨i=4∨i=5∨i=6 by omega) with rfl | rfl | rfl | rfl | rfl | rfl | rfl) | (rcases (show i=0∨i=1∨i=2∨i=3∨i=4∨i=5∨i=6∨i=7 by omega) with rfl | rfl | rfl | rfl | rfl | rfl | rfl | rfl)) <;>
        (repeat' first | exact yY | refine yZ ?_ ?_ | exact rfl | fail)<;>first | done | fail)
     | fail)
  | fail):p:=h
theorem aog {p:Int→Prop} {n:Nat} (h : ∀ k:Nat,k < n→p (k:Int)) : ∀ i:Int,0≤i→i < (n:Int)→p i:=fun i h0 h1=>by
  have:=h i.toNat (by omega)
  rwa [show ((i.toNat:Nat):Int)=i by omega] at this
theorem WpN {p:Prop} (h:p:=by
  refine aog ?_
  (repeat' first | exact yY | refine yZ ?_ ?_ | exact rfl | fail)
  first | done | fail):p:=h
theorem Wsk {p:Prop} (h:p:=by
  repeat' first
  | exact trivial
  | exact yY
  | refine yZ ?_ ?_
  | refine And.intro rfl ?_
  | exact rfl
  | intro i
  | fail
  first | done | fail):p:=h
theorem Wpx {p:Prop} (h:p:=by
  intro hb
  (try dsimp only [bN,dD,aj] at hb)
  (try simp only [Int.zero_add] at hb)
  (try (have hb2:=hb;simp only [aaW] at hb2))
  (try simp only [Zj])
  (first | simp (disch:=first | omega | with_reducible exact bQ _ | with_reducible exact lT _ | (simp only [aJ,aG,aB,aF]<;>omega) | with_reducible exact iP.2 ⟨bQ _,by omega⟩ | ((try simp only [dW]);simp only [iP,qd,jZ];(try simp (disch:=omega) only [aY,bn]);omega) | ((try simp only [dW]);unfold bH;(try simp (disch:=omega) only [aY,bn]);(repeat' split)<;>omega) | fail) only [gQ,fI,qU,jT,pz,aG,aB,aF,aJ,Int.zero_add,if_pos hb,if_neg hb,eD] | simp (disch:=first | omega | with_reducible exact bQ _ | with_reducible exact lT _ | (simp only [aJ,aG,aB,aF]<;>omega) | with_reducible exact iP.2 ⟨bQ _,by omega⟩ | ((try simp only [dW]);simp only [iP,qd,jZ];(try simp (disch:=omega) only [aY,bn]);omega) | ((try simp only [dW]);unfold bH;(try simp (disch:=omega) only [aY,bn]);(repeat' split)<;>omega) | fail) only [gQ,fI,qU,jT,pz,aG,aB,aF,aJ,Int.zero_add,if_pos hb,eD] | skip)
  first | exact Wd | exact Wpc | (exfalso;omega) | fail):p:=h
theorem Wpc {p:Prop} (h:p:=by
  repeat' first
  | exact yY
  | refine yZ ?_ ?_
  | exact aZ.of Wpj
  | exact aZ.nil (by (try dsimp only [bN,dD,aj]);simp (disch:=first | omega | with_reducible exact bQ _ | with_reducible exact lT _ | (simp only [aJ,aG,aB,aF]<;>omega) | with_reducible exact iP.2 ⟨bQ _,by omega⟩ | ((try simp only [dW]);simp only [iP,qd,jZ];(try simp (disch:=omega) only [aY,bn]);omega) | ((try simp only [dW]);unfold bH;(try simp (disch:=omega) only [aY,bn]);(repeat' split)<;>omega) | fail) only [qU];rfl)
  | ((with_reducible refine aeb ?_ ?_ ?_ ?_);(focus exact rfl);(focus exact Wsk);(focus exact Wpx);(focus exact Wpx))
  | ((with_reducible refine ahA ?_ ?_);(focus exact rfl))
  | ((with_reducible refine aec ?_ ?_ ?_);(focus exact Wsk);(focus exact Wpx);(focus exact Wpx))
  | ((with_reducible refine aiF ?_ ?_ ?_);(focus exact Wsk);(focus exact Wpx);(focus exact Wpx))
  | exact Wd
  | fail
  first | done | fail):p:=h
theorem Wpd {p:Prop} (h:p:=by
  intro i i0 i1
  (try dsimp only [bN,dD,aj] at i1);(try simp only [Int.ofNat_eq_natCast,aG,aB,aF,aJ,bM] at i1);(try simp (disch:=first | omega | with_reducible exact bQ _ | with_reducible exact lT _ | (simp only [aJ,aG,aB,aF]<;>omega) | with_reducible exact iP.2 ⟨bQ _,by omega⟩ | ((try simp only [dW]);simp only [iP,qd,jZ];(try simp (disch:=omega) only [aY,bn]);omega) | ((try simp only [dW]);unfold bH;(try simp (disch:=omega) only [aY,bn]);(repeat' split)<;>omega) | fail) only [aY,bn,bV,Int.zero_add,Int.sub_zero] at i1)
  first | exact Wpc | fail):p:=h
theorem Wpe {p:Prop} (h:p:=by
  intro i i0 i1
  (try dsimp only [bN,dD,aj] at i1);(try simp only [Int.ofNat_eq_natCast,aG,aB,aF,aJ,bM] at i1)
  (first | (obtain rfl:i=0:=(by omega)) | (rcases (show i=0∨i=1 by omega) with rfl | rfl) | (rcases (show i=0∨i=1∨i=2 by omega) with rfl | rfl | rfl) | (rcases (show i=0∨i=1∨i=2∨i=3 by omega) with rfl | rfl | rfl | rfl) | (rcases (show i=0∨i=1∨i=2∨i=3∨i=4 by omega) with rfl | rfl | rfl | rfl | rfl) | (rcases (show i=0∨i=1∨i=2∨i=3∨i=4∨i=5 by omega) with rfl | rfl | rfl | rfl | rfl | rfl) | (rcases (show i=0∨i=1∨i=2∨i=3∨i=4∨i=5∨i=6 by omega) with rfl | rfl | rfl | rfl | rfl | rfl | rfl) | (rcases (show i=0∨i=1∨i=2∨i=3∨i=4∨i=5∨i=6∨i=7 by omega) with rfl | rfl | rfl | rfl | rfl | rfl | rfl | rfl))<;>(repeat' first | exact yY | refine yZ ?_ ?_ | exact Wd | fail)
  first | done | fail):p:=h
theorem TJ : ∀ {k:Nat} {c c':Nat→D},cellsOf k c=cellsOf k c'→∀ j,j < k→c j=c' j
  | 0,_,_,_,j,hj=>absurd hj (Nat.not_lt_zero j)
  | k+1,c,c',h,0,_=>(List.cons.inj h).1
  | k+1,c,c',h,j+1,hj=>TJ (c:=fun j=>c (j+1)) (c':=fun j=>c' (j+1)) (List.cons.inj h).2 j (Nat.lt_of_succ_lt_succ hj)
theorem aZ.aoh {k:Nat} {c c':Nat→D} (_:Nat.ble 20 k=true) (h:cellsOf k c=cellsOf k c'):aZ (.agg k c) (.agg k c'):=aZ.agg fun j hj=>aZ.of (TJ h j hj)
theorem afm {objs:List (Option Ob)} : ∀ (d d':D),bG (std Tryz.prog) d d'→aO (std Tryz.prog) objs d d':=by
  intro d
  induction d with
  | agg k c ih =>
    intro d' h
    cases d'<;>try exact h
    rename_i k' c'
    simp only [bG] at h
    simp only [aO]
    split at h
    · rename_i hk
      rw [if_pos hk]
      intro i h0 h1 j hj
      exact ih j _ (h i h0 h1 j hj)
    · exact h.elim
  | fn f k c ih =>
    intro d' h
    cases d'<;>cases f<;>try exact h
    rename_i f' k' c' g
    cases f'<;>try exact h
    obtain ⟨a,b,e⟩:=h
    exact ⟨a,b,fun i h0 h1 j hj=>ih j _ (e i h0 h1 j hj)⟩
  | vec id g sz off n=>intro d' h;cases d'<;>first | exact trivial | exact False.elim h | (simp [bG] at h)
  | dI id g j=>intro d' h;cases d'<;>first | exact trivial | exact False.elim h | (simp [bG] at h)
  | _=>intro d' h;exact h
theorem wM {k:Nat} {c c':Nat→D} {objs:List (Option Ob)} (_:Nat.ble 20 k=true) (ho : ∀ j,bG (std Tryz.prog) (c' j) (c' j)) (h:cellsOf k c=cellsOf k c'):outT (std Tryz.prog) objs [.agg k c] (.agg k c'):=by
  show (if Nat.beq k k then _ else _)
  rw [Nat.beq_refl,if_pos rfl]
  intro _ _ _ j hj
  rw [TJ h j hj]
  exact afm _ _ (ho j)
theorem Wd {p:Prop} (h:p:=by
  repeat' first
  | ((with_reducible refine aZ.aoh ?_ ?_);(focus exact rfl);(focus as_aux_lemma=>kernel_rfl))
  | exact aZ.refl _
  | exact aZ.junk _
  | exact aZ.nil rfl
  | exact aZ.vec rfl Wy
  | exact aZ.slF Wy Wp
  | exact aZ.slF Wy WpN
  | exact aZ.sl Wy Wpe
  | exact dN.refl _
  | exact dN.aoi Wy Wp
  | exact dN.aoj Wy Wpd
  | refine dN.box ?_
  | exact trivial
  | exact yY
  | refine yZ ?_ ?_
  | refine aZ.agg ?_
  | refine aZ.Ac ?_
  | exact aZ.gY (fun _=>Wd)
  | refine aZ.fn ?_
  | refine aZ.afn rfl ?_
  | refine aZ.afo rfl ?_
  | exact aZ.win (by decide) Wd
  | refine And.intro ?_ ?_
  | exact aiE _ _
  | exact oZ.refl _
  | fail
  first | done | fail):p:=h
theorem Wks {p:Prop} (h:p:=by
  repeat' first
  | exact trivial
  | refine And.intro (Exists.intro _ (And.intro rfl Wd)) ?_
  | fail
  first | done | fail):p:=h
theorem Wos {p:Prop} (h:p:=by
  repeat' first | exact trivial | refine And.intro rfl ?_ | fail
  first | done | fail):p:=h
theorem Wlt {p:Prop} (h:p:=by show (_:Nat) < _;(try dsimp only [bN,dD]);first | omega | exact Nat.lt_of_lt_of_le (by apply_assumption) (by omega) | fail):p:=h
theorem Wle {p:Prop} (h:p:=by first | exact Nat.le_refl _ | (refine leC ?_;(try dsimp only [bN,dD]);omega) | fail):p:=h
theorem bW {p:Prop} (h:p:=by first | exact aiG rfl Wos Wle Wf rfl rfl Wks Wks | fail):p:=h
theorem Wt {c:Prop} [Decidable c] {a b:Prop} (x:a) (h:c:=by exact rfl):if c then a else b:=by rw [if_pos h];exact x
theorem We {c:Prop} [Decidable c] {a b:Prop} (x:b) (h : ¬ c:=by decide):if c then a else b:=by rw [if_neg h];exact x
theorem Wcl {p:Prop} (h:p:=by first
  | exact trivial
  | (intro _ _ _ j hj;exact aei _ j hj)
  | (intro i _ _
     repeat' first | exact yY | refine yZ ?_ ?_ | exact Wcl | fail
     first | done | fail)
  | fail):p:=h
theorem WoN {a b:Nat} (h:a=b):(std Tryz.prog).jh a b:=h
theorem WoE {a b:Int} (h:a=b):(std Tryz.prog).nP a b:=h
theorem WoB {a b:Bool} (h:a=b):(std Tryz.prog).NG a b:=h
theorem WoD {a:Array Oper} {b:List (Nat × Nat)} {c:List (Option Nat)} (h:F5 a b c=true):(std Tryz.prog).dr a b c:=h
theorem WoA {n:Int} {k:Nat} {f:Int→Nat→Prop} (h : ∀ i:Int,0≤i→i < n→∀ j,j < k→f i j):(std Tryz.prog).all2 n k f:=h
theorem WoT {b:Bool} (h:b=true):(std Tryz.prog).Bt b:=h
theorem WoI {b:Bool} {p:Prop} (h:b=true→p):(std Tryz.prog).imp b p:=h
theorem WoK {f:FuncId} {a:List D} {d:D} (h:dn Tryz.prog f a d∨tK Tryz.prog f a d):(std Tryz.prog).ok f a d:=h
theorem WoV {f:FuncId} {a:List D} {d:D} (h:dn Tryz.prog f a d):(std Tryz.prog).F6 f a d:=h
theorem WoX {objs:List (Option Ob)} {f:FuncId} {a:List D} {d:D} (h:Lm Tryz.prog objs f a d):(std Tryz.prog).see objs f a d:=h
theorem aiH {p:Prop} (h:p:=by
  repeat' first
  | exact yY
  | refine yZ ?_ ?_
  | exact trivial
  | exact WT _
  | refine ahB ?_
  | (refine aiI ?_;intro i)
  | exact Wcl
  | fail
  first | done | fail):p:=h
theorem aok {p:Prop} (h:p:=by ((try dsimp only [bN,dD])<;>(try simp only [Int.zero_add])<;>first | done | rfl | fail)):p:=h
theorem acz {p:Prop} (h:p:=by
  intro hb
  (try dsimp only [bN,dD,aj] at hb)
  (try simp only [Int.zero_add] at hb)
  (try simp only [Zj])
  (first | simp (disch:=first | omega | with_reducible exact bQ _ | (simp only [aJ,aG,aB,aF]<;>omega)) only [gQ,fI,aG,aB,aF,aJ,Int.zero_add,if_pos hb,if_neg hb,eD] | simp (disch:=first | omega | with_reducible exact bQ _ | (simp only [aJ,aG,aB,aF]<;>omega)) only [gQ,fI,aG,aB,aF,aJ,Int.zero_add,if_pos hb,eD] | skip)
  first | exact afp | fail):p:=h
theorem afp {p:Prop} (h:p:=by
  repeat' first
  | exact yY
  | refine yZ ?_ ?_
  | exact iH.junk
  | exact iH.v
  | ((with_reducible refine iH.jM ?_ ?_ ?_);(focus exact Wsk);(focus exact acz);(focus exact acz))
  | ((with_reducible refine iH.cat ?_ ?_ ?_);(focus exact Wsk);(focus exact acz);(focus exact acz))
  | exact iH.le (P:=Tryz.prog) (aZ.refl _) (WT _)
  | exact iH.le (P:=Tryz.prog) (aZ.of aok) (WT _)
  | refine iH.fn rfl rfl ?_
  | refine iH.afn rfl ?_
  | refine iH.afo rfl ?_
  | refine iH.dI rfl rfl ?_
  | exact iH.le (P:=Tryz.prog) Wd aiH
  | fail
  first | done | fail):p:=h
theorem aol {p:Prop} (h:p:=by
  first
  | ((with_reducible refine iH.sl ?_ ?_);(focus exact Wy);(intro i i0 i1;(try dsimp only [bN,dD,aj] at i1);(try simp only [Int.ofNat_eq_natCast,aG,aB,aF,aJ] at i1);first | ((first | (obtain rfl:i=0:=(by omega)) | (rcases (show i=0∨i=1 by omega) with rfl | rfl) | (rcases (show i=0∨i=1∨i=2 by omega) with rfl | rfl | rfl))<;>exact afp) | exact afp | fail))
  | exact iH.le (P:=Tryz.prog) Wd aiH
  | fail):p:=h
theorem aom {p:Prop} (h:p:=by
  repeat' first
  | exact trivial
  | exact aol
  | refine And.intro ?_ ?_
  | fail
  first | done | fail):p:=h
theorem aon {p:Prop} (h:p:=by
  repeat' first
  | exact yY
  | refine yZ ?_ ?_
  | exact xH.v _
  | exact xH.cO
  | refine xH.agg ?_
  | (refine xH.sl ?_;intro i)
  | fail
  first | done | fail):p:=h
theorem WrX {p:Prop} (h:p:=by
  refine Lm.mk (by assumption) ?_ ?_
  · exact aom
  · exact aon):p:=h
theorem WoL {f:FuncId} {a:List D} {b c:List Ob} {d:D} (h:jc Tryz.prog f a b c d):(std Tryz.prog).Jw f a b c d:=h
theorem aoo {a b:Nat} (h:a < b):(std Tryz.prog).U8 a b:=h
theorem Wtr {p:Prop} (h:p:=by first
  | with_reducible assumption
  | ((try dsimp only [bN,dD])<;>first | with_reducible rfl | with_reducible assumption | ((try clear h);grind) | fail)
  | fail):p:=h
theorem Wok {p:Prop} (h:p:=by first
  | exact Or.inl (dn.arg (by assumption) Wd)
  | exact Or.inr (tK.arg (by assumption) Wd)
  | exact Or.inl (dn.arg (dn.sl (by assumption)) Wd)
  | exact Or.inl (dn.arg (dn.slA (by assumption)) Wd)
  | exact Or.inl (dn.arg (by apply_assumption;assumption) Wd)
  | exact Or.inl (dn.arg (dn.sl (by apply_assumption;assumption)) Wd)
  | fail):p:=h
theorem Wob {p:Prop} (h:p:=by first
  | ((with_reducible refine WoN ?_);exact rfl)
  | exact trivial
  | ((with_reducible refine WoT ?_);exact Wtr)
  | ((with_reducible refine WoI ?_);intro hg;first | exact Bool.noConfusion hg | ((try dsimp only [bN,dD] at hg);exact Wob) | fail)
  | ((with_reducible refine WoK ?_);exact Wok)
  | ((with_reducible refine WoL ?_);exact jc.arg (by assumption) Wd)
  | ((with_reducible refine WoX ?_);exact WrX)
  | ((with_reducible refine WoV ?_);first | exact dn.arg (by assumption) Wd | exact dn.arg (by apply_assumption;assumption) Wd | fail)
  | ((with_reducible refine WoA ?_);exact Wcl)
  | ((with_reducible refine WoD ?_);kernel_rfl)
  | ((with_reducible refine aoo ?_);exact Wlt)
  | ((with_reducible refine WoE ?_);exact Wy)
  | ((with_reducible refine WoB ?_);exact rfl)
  | ((with_reducible refine And.intro ?_ ?_);(focus exact Wob);(focus exact Wob))
  | (dsimp only [bN,dD];first | with_reducible assumption | omega | decide | fail)
  | exact Wcl
  | assumption
  | fail):p:=h
theorem WoS {a b:ByteArray} (h:a=b):(std Tryz.prog).eqS a b:=h
theorem WoC {o m n:Int} (h0:0≤o) (h1:0≤m) (h2:o+m≤n):(std Tryz.prog).cut o ((std Tryz.prog).add o m) n:=ahC h0 h1 h2
theorem WrA {p:Prop} (h:p:=by first
  | (intro i _ _
     repeat' first | exact yY | refine yZ ?_ ?_ | exact U9 | fail
     first | done | fail)
  | fail):p:=h
theorem U9 {p:Prop} (h:p:=by
  first
  | ((try subst he);exact wM rfl (fun j=>xG _ j) (by as_aux_lemma=>kernel_rfl))
  | ((try subst he);exact wM rfl (fun j=>tH _ j) (by as_aux_lemma=>kernel_rfl))
  | ((try subst he);exact wM rfl (fun j=>qQ _ j) (by as_aux_lemma=>kernel_rfl))
  | ((try subst he);exact wM rfl (fun j=>yX _ j) (by as_aux_lemma=>kernel_rfl))
  | ((try subst he);exact wM rfl (fun j=>Ee _ j) (by as_aux_lemma=>kernel_rfl))
  | ((try subst he);exact wM rfl (fun j=>p8 _ j) (by as_aux_lemma=>kernel_rfl))
  | ((try subst he);exact wM rfl (fun j=>mM _ j) (by as_aux_lemma=>kernel_rfl))
  | ((try subst he);exact wM rfl (fun j=>qR _ j) (by as_aux_lemma=>kernel_rfl))
  | ((try subst he);exact wM rfl (fun j=>rT _ j) (by as_aux_lemma=>kernel_rfl))
  | skip
  (try first | show aO (std Tryz.prog) _ _ (aj.fC _ _) | show bG (std Tryz.prog) _ (aj.fC _ _) | fail)
  (try simp only [alQ,alR,alS,alT,alU,alV,alW,alX,alY,alZ,YT,YU,YV,YW,al0,al1,YX])
  (try (generalize hp:std Tryz.prog=p;generalize hv:aj=nv;cbv<;>subst hp hv))
  repeat' first
  | with_reducible refine And.intro ?_ ?_
  | exact trivial
  | ((with_reducible refine WoN ?_);(try subst he);exact rfl)
  | ((with_reducible refine WoE ?_);(try subst he);exact Wy)
  | ((with_reducible refine WoB ?_);(try subst he);exact rfl)
  | ((with_reducible refine WoS ?_);(try subst he);exact rfl)
  | ((with_reducible refine WoI ?_);exact (fun h=>Bool.noConfusion h))
  | ((with_reducible refine TL ?_ ?_);(focus exact Woc);(try subst he);(focus first | exact WpN | exact Wp))
  | exact abx _
  | ((with_reducible refine WoA ?_);(try subst he);intro _ _ _ j hj;first | exact ahD _ j hj | exact Ad _ j hj | fail)
  | ((with_reducible refine WoA ?_);(try (have he:(_:FV)=_:=he;subst he));exact WrA)
  | ((with_reducible refine WoA ?_);(try subst he);exact WrB)
  | ((with_reducible refine WoA ?_);(try subst he);exact WrE)
  | ((with_reducible refine WoC ?_ ?_ ?_);(focus ((try subst he);exact Wm));(focus exact bQ _);(focus ((try subst he);exact Wm)))
  | ((try subst he);exact rfl)
  | exact Woc
  | fail
  first | done | fail):p:=h
theorem WrB {p:Prop} (h:p:=by
  intro i i0 i1
  (try dsimp only [bN,dD,aj] at i1);(try simp only [Int.ofNat_eq_natCast,aB,aF] at i1)
  obtain rfl:i=0:=(by omega)
  (repeat' first | exact yY | refine yZ ?_ ?_ | exact U9 | fail)
  first | done | fail):p:=h
theorem WrF {p:Prop} (h:p:=by
  intro hb
  (try dsimp only [bN,dD,aj] at hb)
  (try simp only [Int.zero_add] at hb)
  (try simp only [Zj,afq])
  (first | simp (disch:=first | omega | with_reducible exact bQ _ | with_reducible exact lT _ | (simp only [aJ,aG,aB,aF]<;>omega) | with_reducible exact iP.2 ⟨bQ _,by omega⟩ | ((try simp only [dW]);simp only [iP,qd,jZ];(try simp (disch:=omega) only [aY,bn]);omega) | ((try simp only [dW]);unfold bH;(try simp (disch:=omega) only [aY,bn]);(repeat' split)<;>omega) | fail) only [fI,aG,aB,aF,Int.zero_add,if_pos hb,if_neg hb,eD] | simp (disch:=first | omega | with_reducible exact bQ _ | with_reducible exact lT _ | (simp only [aJ,aG,aB,aF]<;>omega) | with_reducible exact iP.2 ⟨bQ _,by omega⟩ | ((try simp only [dW]);simp only [iP,qd,jZ];(try simp (disch:=omega) only [aY,bn]);omega) | ((try simp only [dW]);unfold bH;(try simp (disch:=omega) only [aY,bn]);(repeat' split)<;>omega) | fail) only [fI,aG,aB,aF,Int.zero_add,if_pos hb,eD] | skip)
  first | exact U9 | (exfalso;omega) | fail):p:=h
theorem WrE {p:Prop} (h:p:=by
  intro i i0 i1
  (try dsimp only [bN,dD,aj] at i1);(try simp only [Int.ofNat_eq_natCast,aG,aB,aF] at i1)
  (repeat' first | exact yY | refine yZ ?_ ?_ | ((with_reducible refine afr ?_ ?_ ?_);(focus exact Wsk);(focus exact WrF);(focus exact WrF)) | fail)
  first | done | fail):p:=h
theorem aop {p:Prop} (h:p:=by
  (try dsimp only [noGoto,Va,vQ,qE])
  repeat (first | refine Wt ?_ | refine We ?_)
  first
  | exact Lp rfl Wos U9
  | exact aaX rfl Wos U9
  | exact ahE rfl Wos U9 U9
  | exact ahF rfl Wos U9 U9
  | fail):p:=h
theorem Wlv {p:Prop} (h:p:=by first
  | exact aop
  | (cases he;first | (show F7 _ _ _ _ _ _ _ _;exact bW) | ((try dsimp only [noGoto,Va,vQ,qE]);(repeat (first | refine Wt ?_ | refine We ?_));intro (he:_=_);exact Wlv) | fail)
  | fail):p:=h
theorem aiJ {p:Prop} (h:p:=by
  first
  | (cases h;done)
  | (have he:=Option.some.inj h;clear h;exact Wlv)
  | fail):p:=h
theorem Wb {β:Type} {c d:Bool} {x y:Option β} {r:β} {A B:Prop} (h:ay c x y=some r) (e:c=d) (ht:c=true→x=some r→A) (hf:c=false→y=some r→B):(std Tryz.prog).X4 d A B :=
  ⟨fun hc=>ht (e.trans hc) (vR h (e.trans hc)),fun hc=>hf (e.trans hc) (vS h (e.trans hc))⟩
section
variable {β:Type} {k:Option β} {r:β} {G:Prop}
theorem vD {c C G:Prop} [Decidable c] (h:chk c k=some r) (f:c→C) (g:c→k=some r→G):C∧G:=⟨f (dQ h).1,g (dQ h).1 (dQ h).2⟩
theorem WsI {i n i' n':Int} (h:chk (0≤i∧i < n) k=some r) (ei:i=i') (en:n=n') (g:0≤i∧i < n→k=some r→G):(std Tryz.prog).xw i' n'∧G:=by
  subst ei;subst en;exact vD h (fun q=>q) fun q=>g q
theorem WgI {b d:Bool} {i n i' n':Int} (h:chk (b=true→0≤i∧i < n) k=some r) (eb:b=d) (ei:i=i') (en:n=n') (g:(b=true→0≤i∧i < n)→k=some r→G):(std Tryz.prog).imp d ((std Tryz.prog).xw i' n')∧G:=by
  subst eb;subst ei;subst en;exact vD h (fun q=>q) g
theorem WsR {K:IntKind} {x x':Int} (h:chk (aW K x) k=some r) (ex:x=x') (g:aW K x→k=some r→G):(std Tryz.prog).rng K x'∧G:=by
  subst ex;exact vD h (fun q=>q) fun q=>g q
theorem WgR {K:IntKind} {b d:Bool} {x x':Int} (h:chk (b=true→aW K x) k=some r) (eb:b=d) (ex:x=x') (g:(b=true→aW K x)→k=some r→G):(std Tryz.prog).imp d ((std Tryz.prog).rng K x')∧G:=by
  subst eb;subst ex;exact vD h (fun q=>q) g
theorem WsC {l m n l' m' n':Int} (h:chk (0≤l∧l≤m∧m≤n) k=some r) (el:l=l') (em:m=m') (en:n=n') (g:0≤l∧l≤m∧m≤n→k=some r→G):(std Tryz.prog).cut l' m' n'∧G:=by
  subst el;subst em;subst en;exact vD h (fun q=>q) fun q=>g q
theorem WgC {b d:Bool} {l m n l' m' n':Int} (h:chk (b=true→0≤l∧l≤m∧m≤n) k=some r) (eb:b=d) (el:l=l') (em:m=m') (en:n=n') (g:(b=true→0≤l∧l≤m∧m≤n)→k=some r→G):(std Tryz.prog).imp d ((std Tryz.prog).cut l' m' n')∧G:=by
  subst eb;subst el;subst em;subst en;exact vD h (fun q=>q) g
theorem WsG {B:Nat} {x x':Int} (h:chk (dL B x) k=some r) (ex:x=x') (g:dL B x→k=some r→G):(std Tryz.prog).grow B x'∧G:=by
  subst ex;exact vD h (fun q=>q) fun q=>g q
theorem WgG {B:Nat} {b d:Bool} {x x':Int} (h:chk (b=true→dL B x) k=some r) (eb:b=d) (ex:x=x') (g:(b=true→dL B x)→k=some r→G):(std Tryz.prog).imp d ((std Tryz.prog).grow B x')∧G:=by
  subst eb;subst ex;exact vD h (fun q=>q) g
theorem WsM {B:Nat} {l m l' m':Int} (h:chk (gK B l m) k=some r) (el:l=l') (em:m=m') (g:gK B l m∧0≤l∧l≤m→k=some r→G):(std Tryz.prog).make B l' m'∧G:=by
  subst el;subst em;exact vD h (fun q=>q) fun q=>g ⟨q,q.1,q.2.1⟩
theorem WgM {B:Nat} {b d:Bool} {l m l' m':Int} (h:chk (b=true→gK B l m) k=some r) (eb:b=d) (el:l=l') (em:m=m') (g:(b=true→gK B l m)→k=some r→G):(std Tryz.prog).imp d ((std Tryz.prog).make B l' m')∧G:=by
  subst eb;subst el;subst em;exact vD h (fun q=>q) g
theorem WsN {x x':Int} (h:chk (x≠0) k=some r) (ex:x=x') (g:x≠0→k=some r→G):(std Tryz.prog).Vb x'∧G:=by
  subst ex;exact vD h (fun q=>q) fun q=>g q
theorem WgN {b d:Bool} {x x':Int} (h:chk (b=true→x≠0) k=some r) (eb:b=d) (ex:x=x') (g:(b=true→x≠0)→k=some r→G):(std Tryz.prog).imp d ((std Tryz.prog).Vb x')∧G:=by
  subst eb;subst ex;exact vD h (fun q=>q) g
theorem WsZ {x x':Int} (h:chk ((0:Int)≤x) k=some r) (ex:x=x') (g:(0:Int)≤x→k=some r→G):(std Tryz.prog).Vd x'∧G:=by
  subst ex;exact vD h (fun q=>q) fun q=>g q
theorem WgZ {b d:Bool} {x x':Int} (h:chk (b=true→(0:Int)≤x) k=some r) (eb:b=d) (ex:x=x') (g:(b=true→(0:Int)≤x)→k=some r→G):(std Tryz.prog).imp d ((std Tryz.prog).Vd x')∧G:=by
  subst eb;subst ex;exact vD h (fun q=>q) g
end
theorem Wbt {A B:Prop} (h:A):(std Tryz.prog).X4 true A B:=⟨fun _=>h,fun h=>Bool.noConfusion h⟩
theorem Wbf {A B:Prop} (h:B):(std Tryz.prog).X4 false A B:=⟨fun h=>Bool.noConfusion h,fun _=>h⟩
theorem Wct {A B:Prop} {d:Bool} (e:d=true) (h:A):(std Tryz.prog).X4 d A B:=⟨fun _=>h,fun h=>absurd (e.symm.trans h) (by decide)⟩
theorem Wcf {A B:Prop} {d:Bool} (e:d=false) (h:B):(std Tryz.prog).X4 d A B:=⟨fun h=>absurd (e.symm.trans h) (by decide),fun _=>h⟩
theorem Wz {p:Prop} (h:p:=by
  intro N hN
  generalize hp:std Tryz.prog=p;generalize hv:aj=nv;cbv;subst hp hv
  repeat' first
  | ((with_reducible refine Wb h ?_ ?_ ?_);(focus exact rfl);all_goals (clear h;intro hx h))
  | ((with_reducible refine WsI h ?_ ?_ ?_);(focus exact rfl);(focus exact rfl);(clear h;intro hx h);(try (have hx:=hx;simp only [Int.zero_add] at hx)))
  | ((with_reducible refine WsR h ?_ ?_);(focus exact rfl);(clear h;intro hx h))
  | ((with_reducible refine WsC h ?_ ?_ ?_ ?_);(focus exact rfl);(focus exact rfl);(focus exact rfl);(clear h;intro hx h);(try (have hx:=hx;simp only [Int.zero_add] at hx)))
  | ((with_reducible refine WsG h ?_ ?_);(focus exact rfl);(clear h;intro hx h))
  | ((with_reducible refine WsM h ?_ ?_ ?_);(focus exact rfl);(focus exact rfl);(clear h;intro hx h))
  | ((with_reducible refine WsN h ?_ ?_);(focus exact rfl);(clear h;intro hx h))
  | ((with_reducible refine WsZ h ?_ ?_);(focus exact rfl);(clear h;intro hx h))
  | ((with_reducible refine WgI h ?_ ?_ ?_ ?_);(focus exact rfl);(focus exact rfl);(focus exact rfl);(clear h;intro hx h))
  | ((with_reducible refine WgR h ?_ ?_ ?_);(focus exact rfl);(focus exact rfl);(clear h;intro hx h))
  | ((with_reducible refine WgC h ?_ ?_ ?_ ?_ ?_);(focus exact rfl);(focus exact rfl);(focus exact rfl);(focus exact rfl);(clear h;intro hx h))
  | ((with_reducible refine WgG h ?_ ?_ ?_);(focus exact rfl);(focus exact rfl);(clear h;intro hx h))
  | ((with_reducible refine WgM h ?_ ?_ ?_ ?_);(focus exact rfl);(focus exact rfl);(focus exact rfl);(clear h;intro hx h))
  | ((with_reducible refine WgN h ?_ ?_ ?_);(focus exact rfl);(focus exact rfl);(clear h;intro hx h))
  | ((with_reducible refine WgZ h ?_ ?_ ?_);(focus exact rfl);(focus exact rfl);(clear h;intro hx h))
  | (refine Wbn h (by with_reducible assumption) ?_;clear h;intro hx hx h;(try dsimp only at h))
  | with_reducible refine Wbt ?_
  | with_reducible refine Wbf ?_
  | ((with_reducible refine Wct ?_ ?_);(focus exact rfl))
  | ((with_reducible refine Wcf ?_ ?_);(focus exact rfl))
  | ((with_reducible refine And.intro ?_ ?_);(focus exact Wob))
  | (have hx:=(dQ h).1;replace h:=(dQ h).2;(try (have hx:ah _=ah _:=hx;simp (disch:=first | omega | with_reducible exact lT _) only [bn] at hx)))
  | (subst hN;exact aiJ)
  | fail
  first | done | fail):p:=h
theorem Wq {G G':Prop} (k:G') (h:Kp G'→G:=by
  intro k h
  intro N hN
  generalize hp:std Tryz.prog=p;generalize hv:aj=nv;cbv;subst hp hv
  repeat' first
  | ((with_reducible refine Wb h ?_ ?_ ?_);(focus exact rfl);all_goals (clear h;intro hx h))
  | ((with_reducible refine WsI h ?_ ?_ ?_);(focus exact rfl);(focus exact rfl);(clear h;intro hx h);(try (have hx:=hx;simp only [Int.zero_add] at hx)))
  | ((with_reducible refine WsR h ?_ ?_);(focus exact rfl);(clear h;intro hx h))
  | ((with_reducible refine WsC h ?_ ?_ ?_ ?_);(focus exact rfl);(focus exact rfl);(focus exact rfl);(clear h;intro hx h);(try (have hx:=hx;simp only [Int.zero_add] at hx)))
  | ((with_reducible refine WsG h ?_ ?_);(focus exact rfl);(clear h;intro hx h))
  | ((with_reducible refine WsM h ?_ ?_ ?_);(focus exact rfl);(focus exact rfl);(clear h;intro hx h))
  | ((with_reducible refine WsN h ?_ ?_);(focus exact rfl);(clear h;intro hx h))
  | ((with_reducible refine WsZ h ?_ ?_);(focus exact rfl);(clear h;intro hx h))
  | ((with_reducible refine WgI h ?_ ?_ ?_ ?_);(focus exact rfl);(focus exact rfl);(focus exact rfl);(clear h;intro hx h))
  | ((with_reducible refine WgR h ?_ ?_ ?_);(focus exact rfl);(focus exact rfl);(clear h;intro hx h))
  | ((with_reducible refine WgC h ?_ ?_ ?_ ?_ ?_);(focus exact rfl);(focus exact rfl);(focus exact rfl);(focus exact rfl);(clear h;intro hx h))
  | ((with_reducible refine WgG h ?_ ?_ ?_);(focus exact rfl);(focus exact rfl);(clear h;intro hx h))
  | ((with_reducible refine WgM h ?_ ?_ ?_ ?_);(focus exact rfl);(focus exact rfl);(focus exact rfl);(clear h;intro hx h))
  | ((with_reducible refine WgN h ?_ ?_ ?_);(focus exact rfl);(focus exact rfl);(clear h;intro hx h))
  | ((with_reducible refine WgZ h ?_ ?_ ?_);(focus exact rfl);(focus exact rfl);(clear h;intro hx h))
  | (refine Wbn h (by with_reducible assumption) ?_;clear h;intro hx hx h;(try dsimp only at h))
  | with_reducible refine Wbt ?_
  | with_reducible refine Wbf ?_
  | ((with_reducible refine Wct ?_ ?_);(focus exact rfl))
  | ((with_reducible refine Wcf ?_ ?_);(focus exact rfl))
  | ((with_reducible refine And.intro ?_ ?_);(focus exact Wob))
  | (have hx:=(dQ h).1;replace h:=(dQ h).2;(try (have hx:ah _=ah _:=hx;simp (disch:=first | omega | with_reducible exact lT _) only [bn] at hx)))
  | (clear k;cases h;first | done | fail)
  | (subst hN;(first | show Tr _ _ _ _ | show nQ _ _ _ _ _ _ _ | fail);(repeat revert hx);revert h;exact k.get)
  | (clear k;subst hN;exact aiJ)
  | fail
  first | done | fail):G:=h ⟨k⟩

abbrev SQ (K:List (Nat × Nat)) (O:List (Nat × Ik)) (I:List Nat) (m:Nat) (G:List (Nat × List Gh)):Cx:=⟨xq,⟨fun f=>pE K f,fun k _ _ _=>tO O k,fun t=>nC I t⟩,m,fun r=>Ae G r⟩
section
variable {c:Code} {Q:Exit→St→Prop} {st:St} {K:List (Nat × Nat)} {O:List (Nat × Ik)}
theorem Wx (I:List Nat) (m:Nat) (G:List (Nat × List Gh)) (h : ∀ N,N=Q→wp (std Tryz.prog) (SQ [] [] I m G) c N st):Tr Tryz.prog c Q st:=Tr.chunk iB sQ h
theorem Wk (I:List Nat) (m:Nat) (G:List (Nat × List Gh)) (h : ∀ N,N=Q→wp (std Tryz.prog) (SQ K O I m G) c N st):vE K O Tryz.prog c Q st:=Tr.chunk iB sQ h
theorem Zk (n:Nat) (I:List Nat) (m:Nat) (G:List (Nat × List Gh)) (h : ∀ N,N=Q→Lr (std Tryz.prog) (SQ [] [] I m G) n c N st):Tr Tryz.prog c Q st:=Tr.pre iB sQ n h
theorem Wkp (n:Nat) (I:List Nat) (m:Nat) (G:List (Nat × List Gh)) (h : ∀ N,N=Q→Lr (std Tryz.prog) (SQ K O I m G) n c N st):vE K O Tryz.prog c Q st:=Tr.pre iB sQ n h
section
variable {α γ:Type} {A:Option (Fl α γ)} {k:α→Option γ} {r:γ}
theorem Wxc (n:Nat) (I:List Nat) (m:Nat) (G:List (Nat × List Gh)) (h:aM A k=some r) (c0:Nat) (J U:List (Nat × Nat)) (F:α→Hid→Fr)
    (hB : ∀ (x:α) (c1:Nat) (g:Nat→Nat) (t:Nat→Bool),c0 < c1→(∀ k,g k < c1)→(F x ⟨c1,g,t⟩).p ()→k x=some r→Tr Tryz.prog (Ve n c) Q (MF st J U F x ⟨c1,g,t⟩)) (hA : ∀ f,A=some f→∀ N,N=wN Tryz.prog st c0 J U F r Q f→Vf (std Tryz.prog) (SQ [] [] I m G) N n c st):Tr Tryz.prog c Q st:=agQ iB sQ n h c0 J U F hB hA
theorem Wkc (n:Nat) (I:List Nat) (m:Nat) (G:List (Nat × List Gh)) (h:aM A k=some r) (c0:Nat) (J U:List (Nat × Nat)) (F:α→Hid→Fr)
    (hB : ∀ (x:α) (c1:Nat) (g:Nat→Nat) (t:Nat→Bool),c0 < c1→(∀ k,g k < c1)→(F x ⟨c1,g,t⟩).p ()→k x=some r→Tr Tryz.prog (Ve n c) Q (MF st J U F x ⟨c1,g,t⟩)) (hA : ∀ f,A=some f→∀ N,N=wN Tryz.prog st c0 J U F r Q f→Vf (std Tryz.prog) (SQ K O I m G) N n c st):vE K O Tryz.prog c Q st:=agQ iB sQ n h c0 J U F hB hA
end
theorem bE (n:Nat) (I:List Nat) (m:Nat) (G:List (Nat × List Gh)) {L:Prop} (h:L→∀ N,N=Q→Lr (std Tryz.prog) (SQ [] [] I m G) n c N st):L→Tr Tryz.prog c Q st:=fun l=>Tr.pre iB sQ n (h l)
theorem jI (n:Nat) (I:List Nat) (m:Nat) (G:List (Nat × List Gh)) {L:Prop} (h:L→∀ N,N=Q→Lr (std Tryz.prog) (SQ K O I m G) n c N st):L→vE K O Tryz.prog c Q st:=fun l=>Tr.pre iB sQ n (h l)
theorem Wjt (n:Nat) (I:List Nat) (m:Nat) (G:List (Nat × List Gh)) {L:Prop} {id:Nat} {ops:Array Oper} {draw:Bool} (h:L→∀ N,N=nQ (std Tryz.prog) (SQ K O I m G) ops draw n (Q .normal)→Vg (std Tryz.prog) (SQ K O I m G) id ops n N st):L→vE K O Tryz.prog (.region id ops draw) Q st:=fun l=>Tr.parts iB sQ n (h l)
theorem al2 (n:Nat) {L:Prop} {cx:Cx} {ops:Array Oper} {draw:Bool} {a:Nat} {Q:St→Prop} {st:St} (h:L→∀ N,N=nQ (std Tryz.prog) cx ops draw (a+n) Q→Vh (std Tryz.prog) cx ops a n N st):L→nQ (std Tryz.prog) cx ops draw a Q st:=fun l=>nQ.more n (h l)
theorem al3 {L:Prop} {cx:Cx} {ops:Array Oper} {draw:Bool} {a:Nat} {Q:St→Prop} {st:St} (h:L→∀ N,N=Q→nQ (std Tryz.prog) cx ops draw a N st):L→nQ (std Tryz.prog) cx ops draw a Q st:=fun l=>nQ.last (h l)
end
theorem bC {f:FuncId} {args:List D} {res:D} {fn:Func} (hf:Tryz.prog.funcs[f]? = some fn) (h : ∀ ctr,0 < ctr→Tr Tryz.prog (mH fn) (Oz (std Tryz.prog) xq fn.results.toList res) (door args fn.ntmps ctr)) (hn:(fn.name == "runtime.NumGoroutine")=false:=by kernel_rfl) (hb:fn.body=some (mH fn):=by kernel_rfl):dn Tryz.prog f args res:=acA iB hf hn hb h
abbrev Pf (f:FuncId) (a:List D) (d:D):Prop:=dn Tryz.prog f a d
theorem Il {f:FuncId} {args:List D} {pre post:List Ob} {res:D} {fn:Func} (hf:Tryz.prog.funcs[f]? = some fn) (c:Code) (h : ∀ ctr,0 < ctr→Tr Tryz.prog c (Dj (std Tryz.prog) xq fn.results.toList post res) (Vi args pre fn.ntmps ctr)) (hn:(fn.name == "runtime.NumGoroutine")=false:=by kernel_rfl) (hb:fn.body=some c:=by kernel_rfl) (hl:post.length=pre.length:=by rfl):jc Tryz.prog f args pre post res:=ahG iB hf hn hb hl h
theorem al4 (t x a d:Nat) {α γ:Type} {n:Int} {A1 A2:Option (Fl α γ)} {k:α→Option γ} {r:γ} (h:lI n (aM A1 k) (aM A2 k)=some r) (c0:Nat) (J U:List (Nat × Nat)) (F:α→Hid→Fr) {ti:TI} {e:TypeId} {id:Nat} {oa od:Oper} {yt:TypeId} {ca b:Code} {Q:Exit→St→Prop} {st:St} {sz:Nat} {tight:Bool} {f:Int→Nat→D}
    (hB : ∀ (x:α) (c1:Nat) (g:Nat→Nat) (t:Nat→Bool),c0 < c1→(∀ k,g k < c1)→(F x ⟨c1,g,t⟩).p ()→k x=some r→Tr Tryz.prog b Q (MF st J U F x ⟨c1,g,t⟩))
    (h1:n=0→∀ f,A1=some f→Tr Tryz.prog ca (wN Tryz.prog st c0 J U F r Q f) ⟨(st.slots.set a .junk).set d (.v (.bool true)),st.objs,st.ctr⟩)
    (h2 : ∀ f,A2=some f→Tr Tryz.prog ca (wN Tryz.prog st c0 J U F r Q f) ⟨(st.slots.set a .junk).set d (.v (.bool false)),st.objs,st.ctr⟩)
    (ht:d9 xq t=some ti:=by rfl) (hk:ti.kind = .slice e:=by rfl) (ha:oa.op = .move (.tmp x)∧oa.dst=some a∧oa.guard=none:=by exact ⟨rfl,rfl,rfl⟩) (hd:od.op = .binOp .eql t (.tmp a) (.const (.slice none 0 0)) yt∧od.dst=some d∧od.guard=none:=by exact ⟨rfl,rfl,rfl⟩)
    (hs:st.slots.getD x .junk = .sl sz n tight f:=by rfl) (hal:a < st.slots.length:=by exact of_decide_eq_true rfl):Tr Tryz.prog (.seq (.seq (.region id #[oa,od] false) ca) b) Q st:=ahH iB h c0 J U F ht hk ha hd hs hal hB h1 h2
end Go.Vx
