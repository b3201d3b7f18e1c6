/- Walks, by program (lift.py): the code does what the lifted functions say. -/
import Derived.Test.YtmpgicplgjmjkaaGreatDoorTLift
import Derived.Test.YtmpgicplgjmjkaaGreatDoorProg
set_option linter.all false
namespace Go.Vx
open Go.Proofs
set_option maxRecDepth 100000
set_option maxHeartbeats 8000000
set_option linter.unusedVariables false
set_option linter.unusedSimpArgs false
attribute [local irreducible] chk aA au aO oH
def Ko(nv:Nv)(x:mM)(j:Nat):D:=match j with
  | 0=>(.v (.int .i64 x.adk))
  | 1=>(.v (.int .i64 x.alI))
  | _=>.junk
def wh(nv:Nv)(x:gF)(j:Nat):D:=match j with
  | 0=>(.v (.int .i64 x.fLo))
  | 1=>(.v (.int .i64 x.fHi))
  | 2=>(.v (.int .i64 x.fV))
  | _=>.junk
def Kq(nv:Nv)(x:iU)(j:Nat):D:=match j with
  | 0=>(.sl 3 (nv.len x.fL) false (λix jx=>(wh nv (nv.get ny x.fL ix) jx)))
  | _=>.junk
def Ei(nv:Nv)(x:ji)(j:Nat):D:=match j with
  | 0=>(.v (.int .i64 x.fA))
  | 1=>(.v (.int .i64 x.fB))
  | _=>.junk
def Il(nv:Nv)(x:jH)(j:Nat):D:=match j with
  | 0=>(.v (.int .i64 x.fR))
  | 1=>(.v (.int .i64 x.lu))
  | 2=>(.v (.int .i64 x.fN))
  | _=>.junk
def Io(nv:Nv)(x:bL)(j:Nat):D:=match j with
  | 0=>(.sl 3 (nv.len x.ais.fL) false (λix jx=>(wh nv (nv.get ny x.ais.fL ix) jx)))
  | 1=>(.sl 3 (nv.len x.Eb.fL) false (λix jx=>(wh nv (nv.get ny x.Eb.fL ix) jx)))
  | 2=>(.sl 3 (nv.len x.alJ.fL) false (λix jx=>(wh nv (nv.get ny x.alJ.fL ix) jx)))
  | 3=>(.sl 2 (nv.len x.akT) false (λix jx=>(Ei nv (nv.get Ip x.akT ix) jx)))
  | 4=>(.sl 2 (nv.len x.agp) false (λix jx=>(Ei nv (nv.get Ip x.agp ix) jx)))
  | 5=>(.sl 3 (nv.len x.Yz) false (λix jx=>(Il nv (nv.get Iq x.Yz ix) jx)))
  | _=>.junk
def Ir(nv:Nv)(x:bG)(j:Nat):D:=match j with
  | 0=>(.v (.int .i64 x.fH))
  | 1=>(.v (.int .i64 x.fW))
  | 2=>(.v (.int .i64 x.gJ))
  | 3=>(.v (.int .i64 x.dw))
  | _=>.junk
def YA(nv:Nv)(x:mP)(j:Nat):D:=match j with
  | 0=>(.v (.int .u8 x.x0))
  | 1=>(.v (.int .u8 x.x1))
  | 2=>(.v (.int .u8 x.x2))
  | 3=>(.v (.int .u8 x.x3))
  | _=>.junk
def CY(nv:Nv)(x:bQ)(j:Nat):D:=match j with
  | 0=>(.v (.int .u8 x.fG.x0))
  | 1=>(.v (.int .u8 x.fG.x1))
  | 2=>(.v (.int .u8 x.fG.x2))
  | 3=>(.v (.int .u8 x.fG.x3))
  | 4=>(.v (.int .i64 x.jF))
  | 5=>(.v (.int .i64 x.jk))
  | 6=>(.v (.int .i64 x.eO))
  | _=>.junk
def QN(nv:Nv)(x:bU)(j:Nat):D:=match j with
  | 0=>(.v (.int .i64 x.jy))
  | 1=>(.v (.int .i64 x.jq))
  | 2=>(.v (.int .i64 x.dI))
  | _=>.junk
def xM(nv:Nv)(x:aD)(j:Nat):D:=match j with
  | 0=>(.v (.int .i64 x.fX))
  | 1=>(.v (.int .i64 x.fY))
  | 2=>(.v (.bool x.dz))
  | 3=>(.v (.bool x.bO))
  | 4=>(.v (.int .i64 x.bB.jy))
  | 5=>(.v (.int .i64 x.bB.jq))
  | 6=>(.v (.int .i64 x.bB.dI))
  | 7=>(.v (.int .u8 x.aF.fG.x0))
  | 8=>(.v (.int .u8 x.aF.fG.x1))
  | 9=>(.v (.int .u8 x.aF.fG.x2))
  | 10=>(.v (.int .u8 x.aF.fG.x3))
  | 11=>(.v (.int .i64 x.aF.jF))
  | 12=>(.v (.int .i64 x.aF.jk))
  | 13=>(.v (.int .i64 x.aF.eO))
  | _=>.junk
def Ej(nv:Nv)(x:kR)(j:Nat):D:=match j with
  | 0=>(.v (.int .i64 x.x0))
  | 1=>(.v (.int .i64 x.x1))
  | _=>.junk
def qj(nv:Nv)(x:bY)(j:Nat):D:=match j with
  | 0=>(.v (.int .i64 x.fR))
  | 1=>(.v (.int .i64 x.fM.x0))
  | 2=>(.v (.int .i64 x.fM.x1))
  | 3=>(.v (.int .i64 x.fW))
  | 4=>(.v (.int .i64 x.bB.jy))
  | 5=>(.v (.int .i64 x.bB.jq))
  | 6=>(.v (.int .i64 x.bB.dI))
  | _=>.junk
def gB(nv:Nv)(x:aR)(j:Nat):D:=match j with
  | 0=>(.sl 7 (nv.len x.aN) false (λix jx=>(qj nv (nv.get bq x.aN ix) jx)))
  | 1=>(.v (.bool x.dz))
  | 2=>(.v (.int .i64 x.dH))
  | 3=>(.v (.bool x.bA))
  | _=>.junk
def TM(nv:Nv)(x:cZ)(j:Nat):D:=match j with
  | 0=>(.sl 4 (nv.len x.aK) false (λix jx=>(gB nv (nv.get aH x.aK ix) jx)))
  | _=>.junk
def DF(nv:Nv)(x:dJ)(j:Nat):D:=match j with
  | 0=>(.sl 1 (nv.len x.fL) false (λix jx=>(.v (.int .i64 (nv.get 0 x.fL ix)))))
  | 1=>(.v (.int .i64 x.fW))
  | _=>.junk
def Kr(nv:Nv)(x:gI)(j:Nat):D:=match j with
  | 0=>(.sl 4 (nv.len x.aK) false (λix jx=>(gB nv (nv.get aH x.aK ix) jx)))
  | 1=>(.v (.int .i64 x.iw))
  | _=>.junk
def og(nv:Nv)(x:av)(j:Nat):D:=match j with
  | 0=>(.sl 4 (nv.len x.fG.aK) false (λix jx=>(gB nv (nv.get aH x.fG.aK ix) jx)))
  | 1=>(.v (.int .i64 x.fC.fX))
  | 2=>(.v (.int .i64 x.fC.fY))
  | 3=>(.v (.bool x.fC.dz))
  | 4=>(.v (.bool x.fC.bO))
  | 5=>(.v (.int .i64 x.fC.bB.jy))
  | 6=>(.v (.int .i64 x.fC.bB.jq))
  | 7=>(.v (.int .i64 x.fC.bB.dI))
  | 8=>(.v (.int .u8 x.fC.aF.fG.x0))
  | 9=>(.v (.int .u8 x.fC.aF.fG.x1))
  | 10=>(.v (.int .u8 x.fC.aF.fG.x2))
  | 11=>(.v (.int .u8 x.fC.aF.fG.x3))
  | 12=>(.v (.int .i64 x.fC.aF.jF))
  | 13=>(.v (.int .i64 x.fC.aF.jk))
  | 14=>(.v (.int .i64 x.fC.aF.eO))
  | 15=>(.v (.int .i64 x.fR.fH))
  | 16=>(.v (.int .i64 x.fR.fW))
  | 17=>(.v (.int .i64 x.fR.gJ))
  | 18=>(.v (.int .i64 x.fR.dw))
  | 19=>(.sl 1 (nv.len x.fT.fL) false (λix jx=>(.v (.int .i64 (nv.get 0 x.fT.fL ix)))))
  | 20=>(.v (.int .i64 x.fT.fW))
  | 21=>(.sl 4 (nv.len x.fK.aK) false (λix jx=>(gB nv (nv.get aH x.fK.aK ix) jx)))
  | 22=>(.v (.int .i64 x.fK.iw))
  | 23=>(.v (.int .i64 x.dH))
  | 24=>(.v (.bool x.bA))
  | _=>.junk
def Nb(nv:Nv)(x:eG)(j:Nat):D:=match j with
  | 0=>(.v (.int .i64 x.qh))
  | _=>.junk
def YB(nv:Nv)(x:eT)(j:Nat):D:=match j with
  | 0=>(.v (.bool x.jL))
  | 1=>(.v (.int .i64 x.fn))
  | _=>.junk
def DI(nv:Nv)(x:xO)(j:Nat):D:=match j with
  | 0=>(.v (.bool x.x0.jL))
  | 1=>(.v (.int .i64 x.x0.fn))
  | 2=>(.v (.bool x.x1.jL))
  | 3=>(.v (.int .i64 x.x1.fn))
  | 4=>(.v (.bool x.x2.jL))
  | 5=>(.v (.int .i64 x.x2.fn))
  | 6=>(.v (.bool x.x3.jL))
  | 7=>(.v (.int .i64 x.x3.fn))
  | 8=>(.v (.bool x.x4.jL))
  | 9=>(.v (.int .i64 x.x4.fn))
  | 10=>(.v (.bool x.x5.jL))
  | 11=>(.v (.int .i64 x.x5.fn))
  | 12=>(.v (.bool x.x6.jL))
  | 13=>(.v (.int .i64 x.x6.fn))
  | 14=>(.v (.bool x.x7.jL))
  | 15=>(.v (.int .i64 x.x7.fn))
  | 16=>(.v (.bool x.x8.jL))
  | 17=>(.v (.int .i64 x.x8.fn))
  | 18=>(.v (.bool x.x9.jL))
  | 19=>(.v (.int .i64 x.x9.fn))
  | 20=>(.v (.bool x.x10.jL))
  | 21=>(.v (.int .i64 x.x10.fn))
  | 22=>(.v (.bool x.x11.jL))
  | 23=>(.v (.int .i64 x.x11.fn))
  | 24=>(.v (.bool x.x12.jL))
  | 25=>(.v (.int .i64 x.x12.fn))
  | 26=>(.v (.bool x.x13.jL))
  | 27=>(.v (.int .i64 x.x13.fn))
  | 28=>(.v (.bool x.x14.jL))
  | 29=>(.v (.int .i64 x.x14.fn))
  | 30=>(.v (.bool x.x15.jL))
  | 31=>(.v (.int .i64 x.x15.fn))
  | 32=>(.v (.bool x.x16.jL))
  | 33=>(.v (.int .i64 x.x16.fn))
  | 34=>(.v (.bool x.x17.jL))
  | 35=>(.v (.int .i64 x.x17.fn))
  | 36=>(.v (.bool x.x18.jL))
  | 37=>(.v (.int .i64 x.x18.fn))
  | 38=>(.v (.bool x.x19.jL))
  | 39=>(.v (.int .i64 x.x19.fn))
  | 40=>(.v (.bool x.x20.jL))
  | 41=>(.v (.int .i64 x.x20.fn))
  | 42=>(.v (.bool x.x21.jL))
  | 43=>(.v (.int .i64 x.x21.fn))
  | 44=>(.v (.bool x.x22.jL))
  | 45=>(.v (.int .i64 x.x22.fn))
  | 46=>(.v (.bool x.x23.jL))
  | 47=>(.v (.int .i64 x.x23.fn))
  | _=>.junk
def Ah(nv:Nv)(x:gQ)(j:Nat):D:=match j with
  | 0=>(.v (.int .i64 x.x0.fX))
  | 1=>(.v (.int .i64 x.x0.fY))
  | 2=>(.v (.bool x.x0.dz))
  | 3=>(.v (.bool x.x0.bO))
  | 4=>(.v (.int .i64 x.x0.bB.jy))
  | 5=>(.v (.int .i64 x.x0.bB.jq))
  | 6=>(.v (.int .i64 x.x0.bB.dI))
  | 7=>(.v (.int .u8 x.x0.aF.fG.x0))
  | 8=>(.v (.int .u8 x.x0.aF.fG.x1))
  | 9=>(.v (.int .u8 x.x0.aF.fG.x2))
  | 10=>(.v (.int .u8 x.x0.aF.fG.x3))
  | 11=>(.v (.int .i64 x.x0.aF.jF))
  | 12=>(.v (.int .i64 x.x0.aF.jk))
  | 13=>(.v (.int .i64 x.x0.aF.eO))
  | 14=>(.v (.int .i64 x.x1.fX))
  | 15=>(.v (.int .i64 x.x1.fY))
  | 16=>(.v (.bool x.x1.dz))
  | 17=>(.v (.bool x.x1.bO))
  | 18=>(.v (.int .i64 x.x1.bB.jy))
  | 19=>(.v (.int .i64 x.x1.bB.jq))
  | 20=>(.v (.int .i64 x.x1.bB.dI))
  | 21=>(.v (.int .u8 x.x1.aF.fG.x0))
  | 22=>(.v (.int .u8 x.x1.aF.fG.x1))
  | 23=>(.v (.int .u8 x.x1.aF.fG.x2))
  | 24=>(.v (.int .u8 x.x1.aF.fG.x3))
  | 25=>(.v (.int .i64 x.x1.aF.jF))
  | 26=>(.v (.int .i64 x.x1.aF.jk))
  | 27=>(.v (.int .i64 x.x1.aF.eO))
  | _=>.junk
def mO(nv:Nv)(x:ay)(j:Nat):D:=match j with
  | 0=>(.sl 4 (nv.len x.aI.fG.aK) false (λix jx=>(gB nv (nv.get aH x.aI.fG.aK ix) jx)))
  | 1=>(.v (.int .i64 x.aI.fC.fX))
  | 2=>(.v (.int .i64 x.aI.fC.fY))
  | 3=>(.v (.bool x.aI.fC.dz))
  | 4=>(.v (.bool x.aI.fC.bO))
  | 5=>(.v (.int .i64 x.aI.fC.bB.jy))
  | 6=>(.v (.int .i64 x.aI.fC.bB.jq))
  | 7=>(.v (.int .i64 x.aI.fC.bB.dI))
  | 8=>(.v (.int .u8 x.aI.fC.aF.fG.x0))
  | 9=>(.v (.int .u8 x.aI.fC.aF.fG.x1))
  | 10=>(.v (.int .u8 x.aI.fC.aF.fG.x2))
  | 11=>(.v (.int .u8 x.aI.fC.aF.fG.x3))
  | 12=>(.v (.int .i64 x.aI.fC.aF.jF))
  | 13=>(.v (.int .i64 x.aI.fC.aF.jk))
  | 14=>(.v (.int .i64 x.aI.fC.aF.eO))
  | 15=>(.v (.int .i64 x.aI.fR.fH))
  | 16=>(.v (.int .i64 x.aI.fR.fW))
  | 17=>(.v (.int .i64 x.aI.fR.gJ))
  | 18=>(.v (.int .i64 x.aI.fR.dw))
  | 19=>(.sl 1 (nv.len x.aI.fT.fL) false (λix jx=>(.v (.int .i64 (nv.get 0 x.aI.fT.fL ix)))))
  | 20=>(.v (.int .i64 x.aI.fT.fW))
  | 21=>(.sl 4 (nv.len x.aI.fK.aK) false (λix jx=>(gB nv (nv.get aH x.aI.fK.aK ix) jx)))
  | 22=>(.v (.int .i64 x.aI.fK.iw))
  | 23=>(.v (.int .i64 x.aI.dH))
  | 24=>(.v (.bool x.aI.bA))
  | 25=>(.sl 4 (nv.len x.aM.fG.aK) false (λix jx=>(gB nv (nv.get aH x.aM.fG.aK ix) jx)))
  | 26=>(.v (.int .i64 x.aM.fC.fX))
  | 27=>(.v (.int .i64 x.aM.fC.fY))
  | 28=>(.v (.bool x.aM.fC.dz))
  | 29=>(.v (.bool x.aM.fC.bO))
  | 30=>(.v (.int .i64 x.aM.fC.bB.jy))
  | 31=>(.v (.int .i64 x.aM.fC.bB.jq))
  | 32=>(.v (.int .i64 x.aM.fC.bB.dI))
  | 33=>(.v (.int .u8 x.aM.fC.aF.fG.x0))
  | 34=>(.v (.int .u8 x.aM.fC.aF.fG.x1))
  | 35=>(.v (.int .u8 x.aM.fC.aF.fG.x2))
  | 36=>(.v (.int .u8 x.aM.fC.aF.fG.x3))
  | 37=>(.v (.int .i64 x.aM.fC.aF.jF))
  | 38=>(.v (.int .i64 x.aM.fC.aF.jk))
  | 39=>(.v (.int .i64 x.aM.fC.aF.eO))
  | 40=>(.v (.int .i64 x.aM.fR.fH))
  | 41=>(.v (.int .i64 x.aM.fR.fW))
  | 42=>(.v (.int .i64 x.aM.fR.gJ))
  | 43=>(.v (.int .i64 x.aM.fR.dw))
  | 44=>(.sl 1 (nv.len x.aM.fT.fL) false (λix jx=>(.v (.int .i64 (nv.get 0 x.aM.fT.fL ix)))))
  | 45=>(.v (.int .i64 x.aM.fT.fW))
  | 46=>(.sl 4 (nv.len x.aM.fK.aK) false (λix jx=>(gB nv (nv.get aH x.aM.fK.aK ix) jx)))
  | 47=>(.v (.int .i64 x.aM.fK.iw))
  | 48=>(.v (.int .i64 x.aM.dH))
  | 49=>(.v (.bool x.aM.bA))
  | 50=>(.v (.bool x.jA))
  | 51=>(.v (.int .i64 x.fM.qh))
  | 52=>(.v (.int .i64 x.aC.x0.fX))
  | 53=>(.v (.int .i64 x.aC.x0.fY))
  | 54=>(.v (.bool x.aC.x0.dz))
  | 55=>(.v (.bool x.aC.x0.bO))
  | 56=>(.v (.int .i64 x.aC.x0.bB.jy))
  | 57=>(.v (.int .i64 x.aC.x0.bB.jq))
  | 58=>(.v (.int .i64 x.aC.x0.bB.dI))
  | 59=>(.v (.int .u8 x.aC.x0.aF.fG.x0))
  | 60=>(.v (.int .u8 x.aC.x0.aF.fG.x1))
  | 61=>(.v (.int .u8 x.aC.x0.aF.fG.x2))
  | 62=>(.v (.int .u8 x.aC.x0.aF.fG.x3))
  | 63=>(.v (.int .i64 x.aC.x0.aF.jF))
  | 64=>(.v (.int .i64 x.aC.x0.aF.jk))
  | 65=>(.v (.int .i64 x.aC.x0.aF.eO))
  | 66=>(.v (.int .i64 x.aC.x1.fX))
  | 67=>(.v (.int .i64 x.aC.x1.fY))
  | 68=>(.v (.bool x.aC.x1.dz))
  | 69=>(.v (.bool x.aC.x1.bO))
  | 70=>(.v (.int .i64 x.aC.x1.bB.jy))
  | 71=>(.v (.int .i64 x.aC.x1.bB.jq))
  | 72=>(.v (.int .i64 x.aC.x1.bB.dI))
  | 73=>(.v (.int .u8 x.aC.x1.aF.fG.x0))
  | 74=>(.v (.int .u8 x.aC.x1.aF.fG.x1))
  | 75=>(.v (.int .u8 x.aC.x1.aF.fG.x2))
  | 76=>(.v (.int .u8 x.aC.x1.aF.fG.x3))
  | 77=>(.v (.int .i64 x.aC.x1.aF.jF))
  | 78=>(.v (.int .i64 x.aC.x1.aF.jk))
  | 79=>(.v (.int .i64 x.aC.x1.aF.eO))
  | 80=>(.sl 1 (nv.len x.iL) false (λix jx=>(.v (.int .u8 (nv.get 0 x.iL ix)))))
  | 81=>(.v (.string x.fO))
  | 82=>(.v (.int .i64 x.fZ))
  | _=>.junk
def TN(nv:Nv)(x:kE)(j:Nat):D:=match j with
  | 0=>(.sl 1 (nv.len x.fB) false (λix jx=>(.v (.int .u8 (nv.get 0 x.fB ix)))))
  | _=>.junk
def mG(nv:Nv)(x:dA)(j:Nat):D:=match j with
  | 0=>(.sl 1 (nv.len x.fL) false (λix jx=>(.sl 1 (nv.len (nv.get [] x.fL ix)) false (λlW zS=>(.v (.int .i64 (nv.get 0 (nv.get [] x.fL ix) lW)))))))
  | 1=>(.v (.bool x.fOpen))
  | _=>.junk
def uz(nv:Nv)(x:aT)(j:Nat):D:=match j with
  | 0=>(.v (.int .i64 x.lu))
  | 1=>(.v (.string x.dS))
  | 2=>(.v (.bool x.oN))
  | 3=>(.sl 1 (nv.len x.cO.fL) false (λix jx=>(.sl 1 (nv.len (nv.get [] x.cO.fL ix)) false (λlW zS=>(.v (.int .i64 (nv.get 0 (nv.get [] x.cO.fL ix) lW)))))))
  | 4=>(.v (.bool x.cO.fOpen))
  | 5=>(.v (.string x.fText))
  | 6=>(.v (.int .u8 x.nX))
  | _=>.junk
def pX(nv:Nv)(x:bF)(j:Nat):D:=match j with
  | 0=>(.sl 1 (nv.len x.fU.fB) false (λix jx=>(.v (.int .u8 (nv.get 0 x.fU.fB ix)))))
  | 1=>(.v (.int .i64 x.fP.lu))
  | 2=>(.v (.string x.fP.dS))
  | 3=>(.v (.bool x.fP.oN))
  | 4=>(.sl 1 (nv.len x.fP.cO.fL) false (λix jx=>(.sl 1 (nv.len (nv.get [] x.fP.cO.fL ix)) false (λlW zS=>(.v (.int .i64 (nv.get 0 (nv.get [] x.fP.cO.fL ix) lW)))))))
  | 5=>(.v (.bool x.fP.cO.fOpen))
  | 6=>(.v (.string x.fP.fText))
  | 7=>(.v (.int .u8 x.fP.nX))
  | 8=>(.sl 4 (nv.len x.fS.aI.fG.aK) false (λix jx=>(gB nv (nv.get aH x.fS.aI.fG.aK ix) jx)))
  | 9=>(.v (.int .i64 x.fS.aI.fC.fX))
  | 10=>(.v (.int .i64 x.fS.aI.fC.fY))
  | 11=>(.v (.bool x.fS.aI.fC.dz))
  | 12=>(.v (.bool x.fS.aI.fC.bO))
  | 13=>(.v (.int .i64 x.fS.aI.fC.bB.jy))
  | 14=>(.v (.int .i64 x.fS.aI.fC.bB.jq))
  | 15=>(.v (.int .i64 x.fS.aI.fC.bB.dI))
  | 16=>(.v (.int .u8 x.fS.aI.fC.aF.fG.x0))
  | 17=>(.v (.int .u8 x.fS.aI.fC.aF.fG.x1))
  | 18=>(.v (.int .u8 x.fS.aI.fC.aF.fG.x2))
  | 19=>(.v (.int .u8 x.fS.aI.fC.aF.fG.x3))
  | 20=>(.v (.int .i64 x.fS.aI.fC.aF.jF))
  | 21=>(.v (.int .i64 x.fS.aI.fC.aF.jk))
  | 22=>(.v (.int .i64 x.fS.aI.fC.aF.eO))
  | 23=>(.v (.int .i64 x.fS.aI.fR.fH))
  | 24=>(.v (.int .i64 x.fS.aI.fR.fW))
  | 25=>(.v (.int .i64 x.fS.aI.fR.gJ))
  | 26=>(.v (.int .i64 x.fS.aI.fR.dw))
  | 27=>(.sl 1 (nv.len x.fS.aI.fT.fL) false (λix jx=>(.v (.int .i64 (nv.get 0 x.fS.aI.fT.fL ix)))))
  | 28=>(.v (.int .i64 x.fS.aI.fT.fW))
  | 29=>(.sl 4 (nv.len x.fS.aI.fK.aK) false (λix jx=>(gB nv (nv.get aH x.fS.aI.fK.aK ix) jx)))
  | 30=>(.v (.int .i64 x.fS.aI.fK.iw))
  | 31=>(.v (.int .i64 x.fS.aI.dH))
  | 32=>(.v (.bool x.fS.aI.bA))
  | 33=>(.sl 4 (nv.len x.fS.aM.fG.aK) false (λix jx=>(gB nv (nv.get aH x.fS.aM.fG.aK ix) jx)))
  | 34=>(.v (.int .i64 x.fS.aM.fC.fX))
  | 35=>(.v (.int .i64 x.fS.aM.fC.fY))
  | 36=>(.v (.bool x.fS.aM.fC.dz))
  | 37=>(.v (.bool x.fS.aM.fC.bO))
  | 38=>(.v (.int .i64 x.fS.aM.fC.bB.jy))
  | 39=>(.v (.int .i64 x.fS.aM.fC.bB.jq))
  | 40=>(.v (.int .i64 x.fS.aM.fC.bB.dI))
  | 41=>(.v (.int .u8 x.fS.aM.fC.aF.fG.x0))
  | 42=>(.v (.int .u8 x.fS.aM.fC.aF.fG.x1))
  | 43=>(.v (.int .u8 x.fS.aM.fC.aF.fG.x2))
  | 44=>(.v (.int .u8 x.fS.aM.fC.aF.fG.x3))
  | 45=>(.v (.int .i64 x.fS.aM.fC.aF.jF))
  | 46=>(.v (.int .i64 x.fS.aM.fC.aF.jk))
  | 47=>(.v (.int .i64 x.fS.aM.fC.aF.eO))
  | 48=>(.v (.int .i64 x.fS.aM.fR.fH))
  | 49=>(.v (.int .i64 x.fS.aM.fR.fW))
  | 50=>(.v (.int .i64 x.fS.aM.fR.gJ))
  | 51=>(.v (.int .i64 x.fS.aM.fR.dw))
  | 52=>(.sl 1 (nv.len x.fS.aM.fT.fL) false (λix jx=>(.v (.int .i64 (nv.get 0 x.fS.aM.fT.fL ix)))))
  | 53=>(.v (.int .i64 x.fS.aM.fT.fW))
  | 54=>(.sl 4 (nv.len x.fS.aM.fK.aK) false (λix jx=>(gB nv (nv.get aH x.fS.aM.fK.aK ix) jx)))
  | 55=>(.v (.int .i64 x.fS.aM.fK.iw))
  | 56=>(.v (.int .i64 x.fS.aM.dH))
  | 57=>(.v (.bool x.fS.aM.bA))
  | 58=>(.v (.bool x.fS.jA))
  | 59=>(.v (.int .i64 x.fS.fM.qh))
  | 60=>(.v (.int .i64 x.fS.aC.x0.fX))
  | 61=>(.v (.int .i64 x.fS.aC.x0.fY))
  | 62=>(.v (.bool x.fS.aC.x0.dz))
  | 63=>(.v (.bool x.fS.aC.x0.bO))
  | 64=>(.v (.int .i64 x.fS.aC.x0.bB.jy))
  | 65=>(.v (.int .i64 x.fS.aC.x0.bB.jq))
  | 66=>(.v (.int .i64 x.fS.aC.x0.bB.dI))
  | 67=>(.v (.int .u8 x.fS.aC.x0.aF.fG.x0))
  | 68=>(.v (.int .u8 x.fS.aC.x0.aF.fG.x1))
  | 69=>(.v (.int .u8 x.fS.aC.x0.aF.fG.x2))
  | 70=>(.v (.int .u8 x.fS.aC.x0.aF.fG.x3))
  | 71=>(.v (.int .i64 x.fS.aC.x0.aF.jF))
  | 72=>(.v (.int .i64 x.fS.aC.x0.aF.jk))
  | 73=>(.v (.int .i64 x.fS.aC.x0.aF.eO))
  | 74=>(.v (.int .i64 x.fS.aC.x1.fX))
  | 75=>(.v (.int .i64 x.fS.aC.x1.fY))
  | 76=>(.v (.bool x.fS.aC.x1.dz))
  | 77=>(.v (.bool x.fS.aC.x1.bO))
  | 78=>(.v (.int .i64 x.fS.aC.x1.bB.jy))
  | 79=>(.v (.int .i64 x.fS.aC.x1.bB.jq))
  | 80=>(.v (.int .i64 x.fS.aC.x1.bB.dI))
  | 81=>(.v (.int .u8 x.fS.aC.x1.aF.fG.x0))
  | 82=>(.v (.int .u8 x.fS.aC.x1.aF.fG.x1))
  | 83=>(.v (.int .u8 x.fS.aC.x1.aF.fG.x2))
  | 84=>(.v (.int .u8 x.fS.aC.x1.aF.fG.x3))
  | 85=>(.v (.int .i64 x.fS.aC.x1.aF.jF))
  | 86=>(.v (.int .i64 x.fS.aC.x1.aF.jk))
  | 87=>(.v (.int .i64 x.fS.aC.x1.aF.eO))
  | 88=>(.sl 1 (nv.len x.fS.iL) false (λix jx=>(.v (.int .u8 (nv.get 0 x.fS.iL ix)))))
  | 89=>(.v (.string x.fS.fO))
  | 90=>(.v (.int .i64 x.fS.fZ))
  | 91=>(.v (.int .i64 x.iF))
  | _=>.junk
def Kt(nv:Nv)(x:rH)(j:Nat):D:=match j with
  | 0=>(.sl 1 (nv.len x.fb) false (λix jx=>(.v (.int .u8 (nv.get 0 x.fb ix)))))
  | _=>.junk
def Nc(nv:Nv)(x:Bq)(j:Nat):D:=match j with
  | 0=>(.v (.int .i64 x.nX))
  | 1=>(.v (.int .i64 x.akU))
  | 2=>(.v (.int .i64 x.aqz))
  | 3=>(.v (.int .i64 x.fX))
  | 4=>(.v (.int .i64 x.fY))
  | _=>.junk
def Iu(nv:Nv)(x:oO)(j:Nat):D:=match j with
  | 0=>(.v (.int .i64 x.Og))
  | 1=>(.v (.int .i64 x.fA))
  | 2=>(.v (.int .i64 x.fB))
  | 3=>(.v (.int .i64 x.fC))
  | 4=>(.v (.int .i64 x.fD))
  | 5=>(.sl 1 (nv.len x.ait) false (λix jx=>(.v (.int .u8 (nv.get 0 x.ait ix)))))
  | 6=>(.v (.int .i64 x.YC.nX))
  | 7=>(.v (.int .i64 x.YC.akU))
  | 8=>(.v (.int .i64 x.YC.aqz))
  | 9=>(.v (.int .i64 x.YC.fX))
  | 10=>(.v (.int .i64 x.YC.fY))
  | _=>.junk
def wm(nv:Nv)(x:aG)(j:Nat):D:=match j with
  | 0=>(.v (.int .i64 x.Og))
  | 1=>(.v (.int .i64 x.fR))
  | 2=>(.v (.int .u8 x.O3))
  | 3=>(.v (.string x.dS))
  | 4=>(.sl 1 (nv.len x.cO) false (λix jx=>(.sl 1 (nv.len (nv.get [] x.cO ix)) false (λlW zS=>(.v (.int .i64 (nv.get 0 (nv.get [] x.cO ix) lW)))))))
  | 5=>(.v (.string x.fText))
  | _=>.junk
def Nh(nv:Nv)(x:aL)(j:Nat):D:=match j with
  | 0=>(.v (.string x.adg))
  | 1=>(.v (.int .u8 x.adh))
  | 2=>(.fn (.func (nv.fF x.fdo)) (nv.fK x.fdo) (nv.fC x.fdo))
  | _=>.junk
def ML(nv:Nv)(x:xP)(j:Nat):D:=match j with
  | 0=>(.sl 1 (nv.len x.fl) false (λix jx=>(.v (.int .i64 (nv.get 0 x.fl ix)))))
  | _=>.junk
def vC(nv:Nv)(x:jY)(j:Nat):D:=match j with
  | 0=>(.v (.int .i64 x.anH))
  | 1=>(.v (.int .i64 x.agq))
  | 2=>(.v (.bool x.apf))
  | _=>.junk
def Iw(nv:Nv)(x:kS)(j:Nat):D:=match j with
  | 0=>(.sl 3 (nv.len x.fl) false (λix jx=>(vC nv (nv.get zw x.fl ix) jx)))
  | _=>.junk
def Lx(nv:Nv)(x:kV)(j:Nat):D:=match j with
  | 0=>(.sl 1 (nv.len x.lI) false (λix jx=>(.v (.int .i64 (nv.get 0 x.lI ix)))))
  | 1=>(.sl 1 (nv.len x.ql) false (λix jx=>(.v (.int .i64 (nv.get 0 x.ql ix)))))
  | 2=>(.sl 1 (nv.len x.l5) false (λix jx=>(.v (.bool (nv.get false x.l5 ix)))))
  | _=>.junk
def Iy(nv:Nv)(x:oh)(j:Nat):D:=match j with
  | 0=>(.sl 1 (nv.len x.fl) false (λix jx=>(.v (.int .i64 (nv.get 0 x.fl ix)))))
  | 1=>(.sl 1 (nv.len x.Uy) false (λix jx=>(.v (.int .i64 (nv.get 0 x.Uy ix)))))
  | 2=>(.v (.int .i64 x.Oh))
  | 3=>(.sl 1 (nv.len x.pz.lI) false (λix jx=>(.v (.int .i64 (nv.get 0 x.pz.lI ix)))))
  | 4=>(.sl 1 (nv.len x.pz.ql) false (λix jx=>(.v (.int .i64 (nv.get 0 x.pz.ql ix)))))
  | 5=>(.sl 1 (nv.len x.pz.l5) false (λix jx=>(.v (.bool (nv.get false x.pz.l5 ix)))))
  | 6=>(.sl 3 (nv.len x.Iz.fl) false (λix jx=>(vC nv (nv.get zw x.Iz.fl ix) jx)))
  | 7=>(.v (.int .i64 x.MN))
  | 8=>(.v (.int .i64 x.FI))
  | 9=>(.v (.int .i64 x.YD))
  | _=>.junk
def TP(nv:Nv)(x:jh)(j:Nat):D:=match j with
  | 0=>(.sl 1 (nv.len x.fl) false (λix jx=>(.v (.int .i64 (nv.get 0 x.fl ix)))))
  | 1=>(.v (.int .i64 x.EY))
  | _=>.junk
def TQ(nv:Nv)(x:vo)(j:Nat):D:=match j with
  | 0=>(.sl 1 (nv.len x.fl) false (λix jx=>(.v (.int .i64 (nv.get 0 x.fl ix)))))
  | 1=>(.sl 1 (nv.len x.alK) false (λix jx=>(.v (.int .i64 (nv.get 0 x.alK ix)))))
  | 2=>(.v (.int .i64 x.EY))
  | 3=>(.v (.int .i64 x.alL))
  | 4=>(.v (.int .i64 x.alM))
  | 5=>(.v (.int .i64 x.ab0))
  | 6=>(.sl 2 (nv.len x.YE) false (λix jx=>(Ej nv (nv.get jP x.YE ix) jx)))
  | _=>.junk
def Ai(nv:Nv)(x:nA)(j:Nat):D:=match j with
  | 0=>(.v (.int .i64 x.ahn))
  | 1=>(.v (.int .i64 x.fto))
  | 2=>(.sl 1 (nv.len x.aat) false (λix jx=>(.v (.int .i64 (nv.get 0 x.aat ix)))))
  | 3=>(.sl 1 (nv.len x.aau) false (λix jx=>(.v (.int .i64 (nv.get 0 x.aau ix)))))
  | 4=>(.v (.int .i64 x.Oh))
  | _=>.junk
def TR(nv:Nv)(x:oI)(j:Nat):D:=match j with
  | 0=>(.sl 1 (nv.len x.atz) false (λix jx=>(.v (.int .i64 (nv.get 0 x.atz ix)))))
  | 1=>(.sl 1 (nv.len x.apg) false (λix jx=>(.v (.int .i64 (nv.get 0 x.apg ix)))))
  | 2=>(.sl 7 (nv.len x.aN) false (λix jx=>(qj nv (nv.get bq x.aN ix) jx)))
  | 3=>(.v (.int .i64 x.avM))
  | _=>.junk
def uV(nv:Nv)(x:l6)(j:Nat):D:=match j with
  | 0=>(.v (.int .u8 x.fG.x0))
  | 1=>(.v (.int .u8 x.fG.x1))
  | 2=>(.v (.int .u8 x.fG.x2))
  | 3=>(.v (.int .u8 x.fG.x3))
  | 4=>(.v (.int .i64 x.jF))
  | 5=>(.v (.int .i64 x.jk))
  | 6=>(.v (.int .i64 x.eO))
  | _=>.junk
def ni(nv:Nv)(x:iq)(j:Nat):D:=match j with
  | 0=>(.v (.int .i64 x.fX))
  | 1=>(.v (.int .i64 x.fY))
  | 2=>(.v (.bool x.dz))
  | 3=>(.v (.bool x.bO))
  | 4=>(.v (.int .i64 x.bB.jy))
  | 5=>(.v (.int .i64 x.bB.jq))
  | 6=>(.v (.int .i64 x.bB.dI))
  | 7=>(.v (.int .u8 x.aF.fG.x0))
  | 8=>(.v (.int .u8 x.aF.fG.x1))
  | 9=>(.v (.int .u8 x.aF.fG.x2))
  | 10=>(.v (.int .u8 x.aF.fG.x3))
  | 11=>(.v (.int .i64 x.aF.jF))
  | 12=>(.v (.int .i64 x.aF.jk))
  | 13=>(.v (.int .i64 x.aF.eO))
  | _=>.junk
def BX(nv:Nv)(x:mR)(j:Nat):D:=match j with
  | 0=>(.sl 4 (nv.len x.aK) false (λix jx=>(gB nv (nv.get aH x.aK ix) jx)))
  | _=>.junk
def zx(nv:Nv)(x:lJ)(j:Nat):D:=match j with
  | 0=>(.v (.int .i64 x.fH))
  | 1=>(.v (.int .i64 x.fW))
  | 2=>(.v (.int .i64 x.gJ))
  | 3=>(.v (.int .i64 x.dw))
  | _=>.junk
def uW(nv:Nv)(x:iZ)(j:Nat):D:=match j with
  | 0=>(.sl 1 (nv.len x.fL) false (λix jx=>(.v (.int .i64 (nv.get 0 x.fL ix)))))
  | 1=>(.v (.int .i64 x.fW))
  | _=>.junk
def wK(nv:Nv)(x:jJ)(j:Nat):D:=match j with
  | 0=>(.sl 4 (nv.len x.aK) false (λix jx=>(gB nv (nv.get aH x.aK ix) jx)))
  | 1=>(.v (.int .i64 x.iw))
  | _=>.junk
def pI(nv:Nv)(x:dZ)(j:Nat):D:=match j with
  | 0=>(.sl 4 (nv.len x.fG.aK) false (λix jx=>(gB nv (nv.get aH x.fG.aK ix) jx)))
  | 1=>(.v (.int .i64 x.fC.fX))
  | 2=>(.v (.int .i64 x.fC.fY))
  | 3=>(.v (.bool x.fC.dz))
  | 4=>(.v (.bool x.fC.bO))
  | 5=>(.v (.int .i64 x.fC.bB.jy))
  | 6=>(.v (.int .i64 x.fC.bB.jq))
  | 7=>(.v (.int .i64 x.fC.bB.dI))
  | 8=>(.v (.int .u8 x.fC.aF.fG.x0))
  | 9=>(.v (.int .u8 x.fC.aF.fG.x1))
  | 10=>(.v (.int .u8 x.fC.aF.fG.x2))
  | 11=>(.v (.int .u8 x.fC.aF.fG.x3))
  | 12=>(.v (.int .i64 x.fC.aF.jF))
  | 13=>(.v (.int .i64 x.fC.aF.jk))
  | 14=>(.v (.int .i64 x.fC.aF.eO))
  | 15=>(.v (.int .i64 x.fR.fH))
  | 16=>(.v (.int .i64 x.fR.fW))
  | 17=>(.v (.int .i64 x.fR.gJ))
  | 18=>(.v (.int .i64 x.fR.dw))
  | 19=>(.sl 1 (nv.len x.fT.fL) false (λix jx=>(.v (.int .i64 (nv.get 0 x.fT.fL ix)))))
  | 20=>(.v (.int .i64 x.fT.fW))
  | 21=>(.sl 4 (nv.len x.fK.aK) false (λix jx=>(gB nv (nv.get aH x.fK.aK ix) jx)))
  | 22=>(.v (.int .i64 x.fK.iw))
  | 23=>(.v (.int .i64 x.dH))
  | 24=>(.v (.bool x.bA))
  | _=>.junk
def Aj(nv:Nv)(x:l7)(j:Nat):D:=match j with
  | 0=>(.v (.int .i64 x.qh))
  | _=>.junk
def oP(nv:Nv)(x:jM)(j:Nat):D:=match j with
  | 0=>(.v (.int .i64 x.x0.fX))
  | 1=>(.v (.int .i64 x.x0.fY))
  | 2=>(.v (.bool x.x0.dz))
  | 3=>(.v (.bool x.x0.bO))
  | 4=>(.v (.int .i64 x.x0.bB.jy))
  | 5=>(.v (.int .i64 x.x0.bB.jq))
  | 6=>(.v (.int .i64 x.x0.bB.dI))
  | 7=>(.v (.int .u8 x.x0.aF.fG.x0))
  | 8=>(.v (.int .u8 x.x0.aF.fG.x1))
  | 9=>(.v (.int .u8 x.x0.aF.fG.x2))
  | 10=>(.v (.int .u8 x.x0.aF.fG.x3))
  | 11=>(.v (.int .i64 x.x0.aF.jF))
  | 12=>(.v (.int .i64 x.x0.aF.jk))
  | 13=>(.v (.int .i64 x.x0.aF.eO))
  | 14=>(.v (.int .i64 x.x1.fX))
  | 15=>(.v (.int .i64 x.x1.fY))
  | 16=>(.v (.bool x.x1.dz))
  | 17=>(.v (.bool x.x1.bO))
  | 18=>(.v (.int .i64 x.x1.bB.jy))
  | 19=>(.v (.int .i64 x.x1.bB.jq))
  | 20=>(.v (.int .i64 x.x1.bB.dI))
  | 21=>(.v (.int .u8 x.x1.aF.fG.x0))
  | 22=>(.v (.int .u8 x.x1.aF.fG.x1))
  | 23=>(.v (.int .u8 x.x1.aF.fG.x2))
  | 24=>(.v (.int .u8 x.x1.aF.fG.x3))
  | 25=>(.v (.int .i64 x.x1.aF.jF))
  | 26=>(.v (.int .i64 x.x1.aF.jk))
  | 27=>(.v (.int .i64 x.x1.aF.eO))
  | _=>.junk
def qo(nv:Nv)(x:gV)(j:Nat):D:=match j with
  | 0=>(.sl 4 (nv.len x.aI.fG.aK) false (λix jx=>(gB nv (nv.get aH x.aI.fG.aK ix) jx)))
  | 1=>(.v (.int .i64 x.aI.fC.fX))
  | 2=>(.v (.int .i64 x.aI.fC.fY))
  | 3=>(.v (.bool x.aI.fC.dz))
  | 4=>(.v (.bool x.aI.fC.bO))
  | 5=>(.v (.int .i64 x.aI.fC.bB.jy))
  | 6=>(.v (.int .i64 x.aI.fC.bB.jq))
  | 7=>(.v (.int .i64 x.aI.fC.bB.dI))
  | 8=>(.v (.int .u8 x.aI.fC.aF.fG.x0))
  | 9=>(.v (.int .u8 x.aI.fC.aF.fG.x1))
  | 10=>(.v (.int .u8 x.aI.fC.aF.fG.x2))
  | 11=>(.v (.int .u8 x.aI.fC.aF.fG.x3))
  | 12=>(.v (.int .i64 x.aI.fC.aF.jF))
  | 13=>(.v (.int .i64 x.aI.fC.aF.jk))
  | 14=>(.v (.int .i64 x.aI.fC.aF.eO))
  | 15=>(.v (.int .i64 x.aI.fR.fH))
  | 16=>(.v (.int .i64 x.aI.fR.fW))
  | 17=>(.v (.int .i64 x.aI.fR.gJ))
  | 18=>(.v (.int .i64 x.aI.fR.dw))
  | 19=>(.sl 1 (nv.len x.aI.fT.fL) false (λix jx=>(.v (.int .i64 (nv.get 0 x.aI.fT.fL ix)))))
  | 20=>(.v (.int .i64 x.aI.fT.fW))
  | 21=>(.sl 4 (nv.len x.aI.fK.aK) false (λix jx=>(gB nv (nv.get aH x.aI.fK.aK ix) jx)))
  | 22=>(.v (.int .i64 x.aI.fK.iw))
  | 23=>(.v (.int .i64 x.aI.dH))
  | 24=>(.v (.bool x.aI.bA))
  | 25=>(.sl 4 (nv.len x.aM.fG.aK) false (λix jx=>(gB nv (nv.get aH x.aM.fG.aK ix) jx)))
  | 26=>(.v (.int .i64 x.aM.fC.fX))
  | 27=>(.v (.int .i64 x.aM.fC.fY))
  | 28=>(.v (.bool x.aM.fC.dz))
  | 29=>(.v (.bool x.aM.fC.bO))
  | 30=>(.v (.int .i64 x.aM.fC.bB.jy))
  | 31=>(.v (.int .i64 x.aM.fC.bB.jq))
  | 32=>(.v (.int .i64 x.aM.fC.bB.dI))
  | 33=>(.v (.int .u8 x.aM.fC.aF.fG.x0))
  | 34=>(.v (.int .u8 x.aM.fC.aF.fG.x1))
  | 35=>(.v (.int .u8 x.aM.fC.aF.fG.x2))
  | 36=>(.v (.int .u8 x.aM.fC.aF.fG.x3))
  | 37=>(.v (.int .i64 x.aM.fC.aF.jF))
  | 38=>(.v (.int .i64 x.aM.fC.aF.jk))
  | 39=>(.v (.int .i64 x.aM.fC.aF.eO))
  | 40=>(.v (.int .i64 x.aM.fR.fH))
  | 41=>(.v (.int .i64 x.aM.fR.fW))
  | 42=>(.v (.int .i64 x.aM.fR.gJ))
  | 43=>(.v (.int .i64 x.aM.fR.dw))
  | 44=>(.sl 1 (nv.len x.aM.fT.fL) false (λix jx=>(.v (.int .i64 (nv.get 0 x.aM.fT.fL ix)))))
  | 45=>(.v (.int .i64 x.aM.fT.fW))
  | 46=>(.sl 4 (nv.len x.aM.fK.aK) false (λix jx=>(gB nv (nv.get aH x.aM.fK.aK ix) jx)))
  | 47=>(.v (.int .i64 x.aM.fK.iw))
  | 48=>(.v (.int .i64 x.aM.dH))
  | 49=>(.v (.bool x.aM.bA))
  | 50=>(.v (.bool x.jA))
  | 51=>(.v (.int .i64 x.fM.qh))
  | 52=>(.v (.int .i64 x.aC.x0.fX))
  | 53=>(.v (.int .i64 x.aC.x0.fY))
  | 54=>(.v (.bool x.aC.x0.dz))
  | 55=>(.v (.bool x.aC.x0.bO))
  | 56=>(.v (.int .i64 x.aC.x0.bB.jy))
  | 57=>(.v (.int .i64 x.aC.x0.bB.jq))
  | 58=>(.v (.int .i64 x.aC.x0.bB.dI))
  | 59=>(.v (.int .u8 x.aC.x0.aF.fG.x0))
  | 60=>(.v (.int .u8 x.aC.x0.aF.fG.x1))
  | 61=>(.v (.int .u8 x.aC.x0.aF.fG.x2))
  | 62=>(.v (.int .u8 x.aC.x0.aF.fG.x3))
  | 63=>(.v (.int .i64 x.aC.x0.aF.jF))
  | 64=>(.v (.int .i64 x.aC.x0.aF.jk))
  | 65=>(.v (.int .i64 x.aC.x0.aF.eO))
  | 66=>(.v (.int .i64 x.aC.x1.fX))
  | 67=>(.v (.int .i64 x.aC.x1.fY))
  | 68=>(.v (.bool x.aC.x1.dz))
  | 69=>(.v (.bool x.aC.x1.bO))
  | 70=>(.v (.int .i64 x.aC.x1.bB.jy))
  | 71=>(.v (.int .i64 x.aC.x1.bB.jq))
  | 72=>(.v (.int .i64 x.aC.x1.bB.dI))
  | 73=>(.v (.int .u8 x.aC.x1.aF.fG.x0))
  | 74=>(.v (.int .u8 x.aC.x1.aF.fG.x1))
  | 75=>(.v (.int .u8 x.aC.x1.aF.fG.x2))
  | 76=>(.v (.int .u8 x.aC.x1.aF.fG.x3))
  | 77=>(.v (.int .i64 x.aC.x1.aF.jF))
  | 78=>(.v (.int .i64 x.aC.x1.aF.jk))
  | 79=>(.v (.int .i64 x.aC.x1.aF.eO))
  | 80=>(.sl 1 (nv.len x.iL) false (λix jx=>(.v (.int .u8 (nv.get 0 x.iL ix)))))
  | 81=>(.v (.string x.fO))
  | 82=>(.v (.int .i64 x.fZ))
  | _=>.junk
def Ak(nv:Nv)(x:l8)(j:Nat):D:=match j with
  | 0=>(.sl 1 (nv.len x.fB) false (λix jx=>(.v (.int .u8 (nv.get 0 x.fB ix)))))
  | _=>.junk
def BZ(nv:Nv)(x:mU)(j:Nat):D:=match j with
  | 0=>(.sl 1 (nv.len x.fL) false (λix jx=>(.sl 1 (nv.len (nv.get [] x.fL ix)) false (λlW zS=>(.v (.int .i64 (nv.get 0 (nv.get [] x.fL ix) lW)))))))
  | 1=>(.v (.bool x.fOpen))
  | _=>.junk
def qp(nv:Nv)(x:jw)(j:Nat):D:=match j with
  | 0=>(.v (.int .i64 x.lu))
  | 1=>(.v (.string x.dS))
  | 2=>(.v (.bool x.oN))
  | 3=>(.sl 1 (nv.len x.cO.fL) false (λix jx=>(.sl 1 (nv.len (nv.get [] x.cO.fL ix)) false (λlW zS=>(.v (.int .i64 (nv.get 0 (nv.get [] x.cO.fL ix) lW)))))))
  | 4=>(.v (.bool x.cO.fOpen))
  | 5=>(.v (.string x.fText))
  | 6=>(.v (.int .u8 x.nX))
  | _=>.junk
def rC(nv:Nv)(x:fI)(j:Nat):D:=match j with
  | 0=>(.sl 1 (nv.len x.fU.fB) false (λix jx=>(.v (.int .u8 (nv.get 0 x.fU.fB ix)))))
  | 1=>(.v (.int .i64 x.fP.lu))
  | 2=>(.v (.string x.fP.dS))
  | 3=>(.v (.bool x.fP.oN))
  | 4=>(.sl 1 (nv.len x.fP.cO.fL) false (λix jx=>(.sl 1 (nv.len (nv.get [] x.fP.cO.fL ix)) false (λlW zS=>(.v (.int .i64 (nv.get 0 (nv.get [] x.fP.cO.fL ix) lW)))))))
  | 5=>(.v (.bool x.fP.cO.fOpen))
  | 6=>(.v (.string x.fP.fText))
  | 7=>(.v (.int .u8 x.fP.nX))
  | 8=>(.sl 4 (nv.len x.fS.aI.fG.aK) false (λix jx=>(gB nv (nv.get aH x.fS.aI.fG.aK ix) jx)))
  | 9=>(.v (.int .i64 x.fS.aI.fC.fX))
  | 10=>(.v (.int .i64 x.fS.aI.fC.fY))
  | 11=>(.v (.bool x.fS.aI.fC.dz))
  | 12=>(.v (.bool x.fS.aI.fC.bO))
  | 13=>(.v (.int .i64 x.fS.aI.fC.bB.jy))
  | 14=>(.v (.int .i64 x.fS.aI.fC.bB.jq))
  | 15=>(.v (.int .i64 x.fS.aI.fC.bB.dI))
  | 16=>(.v (.int .u8 x.fS.aI.fC.aF.fG.x0))
  | 17=>(.v (.int .u8 x.fS.aI.fC.aF.fG.x1))
  | 18=>(.v (.int .u8 x.fS.aI.fC.aF.fG.x2))
  | 19=>(.v (.int .u8 x.fS.aI.fC.aF.fG.x3))
  | 20=>(.v (.int .i64 x.fS.aI.fC.aF.jF))
  | 21=>(.v (.int .i64 x.fS.aI.fC.aF.jk))
  | 22=>(.v (.int .i64 x.fS.aI.fC.aF.eO))
  | 23=>(.v (.int .i64 x.fS.aI.fR.fH))
  | 24=>(.v (.int .i64 x.fS.aI.fR.fW))
  | 25=>(.v (.int .i64 x.fS.aI.fR.gJ))
  | 26=>(.v (.int .i64 x.fS.aI.fR.dw))
  | 27=>(.sl 1 (nv.len x.fS.aI.fT.fL) false (λix jx=>(.v (.int .i64 (nv.get 0 x.fS.aI.fT.fL ix)))))
  | 28=>(.v (.int .i64 x.fS.aI.fT.fW))
  | 29=>(.sl 4 (nv.len x.fS.aI.fK.aK) false (λix jx=>(gB nv (nv.get aH x.fS.aI.fK.aK ix) jx)))
  | 30=>(.v (.int .i64 x.fS.aI.fK.iw))
  | 31=>(.v (.int .i64 x.fS.aI.dH))
  | 32=>(.v (.bool x.fS.aI.bA))
  | 33=>(.sl 4 (nv.len x.fS.aM.fG.aK) false (λix jx=>(gB nv (nv.get aH x.fS.aM.fG.aK ix) jx)))
  | 34=>(.v (.int .i64 x.fS.aM.fC.fX))
  | 35=>(.v (.int .i64 x.fS.aM.fC.fY))
  | 36=>(.v (.bool x.fS.aM.fC.dz))
  | 37=>(.v (.bool x.fS.aM.fC.bO))
  | 38=>(.v (.int .i64 x.fS.aM.fC.bB.jy))
  | 39=>(.v (.int .i64 x.fS.aM.fC.bB.jq))
  | 40=>(.v (.int .i64 x.fS.aM.fC.bB.dI))
  | 41=>(.v (.int .u8 x.fS.aM.fC.aF.fG.x0))
  | 42=>(.v (.int .u8 x.fS.aM.fC.aF.fG.x1))
  | 43=>(.v (.int .u8 x.fS.aM.fC.aF.fG.x2))
  | 44=>(.v (.int .u8 x.fS.aM.fC.aF.fG.x3))
  | 45=>(.v (.int .i64 x.fS.aM.fC.aF.jF))
  | 46=>(.v (.int .i64 x.fS.aM.fC.aF.jk))
  | 47=>(.v (.int .i64 x.fS.aM.fC.aF.eO))
  | 48=>(.v (.int .i64 x.fS.aM.fR.fH))
  | 49=>(.v (.int .i64 x.fS.aM.fR.fW))
  | 50=>(.v (.int .i64 x.fS.aM.fR.gJ))
  | 51=>(.v (.int .i64 x.fS.aM.fR.dw))
  | 52=>(.sl 1 (nv.len x.fS.aM.fT.fL) false (λix jx=>(.v (.int .i64 (nv.get 0 x.fS.aM.fT.fL ix)))))
  | 53=>(.v (.int .i64 x.fS.aM.fT.fW))
  | 54=>(.sl 4 (nv.len x.fS.aM.fK.aK) false (λix jx=>(gB nv (nv.get aH x.fS.aM.fK.aK ix) jx)))
  | 55=>(.v (.int .i64 x.fS.aM.fK.iw))
  | 56=>(.v (.int .i64 x.fS.aM.dH))
  | 57=>(.v (.bool x.fS.aM.bA))
  | 58=>(.v (.bool x.fS.jA))
  | 59=>(.v (.int .i64 x.fS.fM.qh))
  | 60=>(.v (.int .i64 x.fS.aC.x0.fX))
  | 61=>(.v (.int .i64 x.fS.aC.x0.fY))
  | 62=>(.v (.bool x.fS.aC.x0.dz))
  | 63=>(.v (.bool x.fS.aC.x0.bO))
  | 64=>(.v (.int .i64 x.fS.aC.x0.bB.jy))
  | 65=>(.v (.int .i64 x.fS.aC.x0.bB.jq))
  | 66=>(.v (.int .i64 x.fS.aC.x0.bB.dI))
  | 67=>(.v (.int .u8 x.fS.aC.x0.aF.fG.x0))
  | 68=>(.v (.int .u8 x.fS.aC.x0.aF.fG.x1))
  | 69=>(.v (.int .u8 x.fS.aC.x0.aF.fG.x2))
  | 70=>(.v (.int .u8 x.fS.aC.x0.aF.fG.x3))
  | 71=>(.v (.int .i64 x.fS.aC.x0.aF.jF))
  | 72=>(.v (.int .i64 x.fS.aC.x0.aF.jk))
  | 73=>(.v (.int .i64 x.fS.aC.x0.aF.eO))
  | 74=>(.v (.int .i64 x.fS.aC.x1.fX))
  | 75=>(.v (.int .i64 x.fS.aC.x1.fY))
  | 76=>(.v (.bool x.fS.aC.x1.dz))
  | 77=>(.v (.bool x.fS.aC.x1.bO))
  | 78=>(.v (.int .i64 x.fS.aC.x1.bB.jy))
  | 79=>(.v (.int .i64 x.fS.aC.x1.bB.jq))
  | 80=>(.v (.int .i64 x.fS.aC.x1.bB.dI))
  | 81=>(.v (.int .u8 x.fS.aC.x1.aF.fG.x0))
  | 82=>(.v (.int .u8 x.fS.aC.x1.aF.fG.x1))
  | 83=>(.v (.int .u8 x.fS.aC.x1.aF.fG.x2))
  | 84=>(.v (.int .u8 x.fS.aC.x1.aF.fG.x3))
  | 85=>(.v (.int .i64 x.fS.aC.x1.aF.jF))
  | 86=>(.v (.int .i64 x.fS.aC.x1.aF.jk))
  | 87=>(.v (.int .i64 x.fS.aC.x1.aF.eO))
  | 88=>(.sl 1 (nv.len x.fS.iL) false (λix jx=>(.v (.int .u8 (nv.get 0 x.fS.iL ix)))))
  | 89=>(.v (.string x.fS.fO))
  | 90=>(.v (.int .i64 x.fS.fZ))
  | 91=>(.v (.int .i64 x.iF))
  | _=>.junk
abbrev gG(n:Nv)(x:aG):D:=.agg 6 λj=>wm n x j
abbrev VT(n:Nv)(x:bY):D:=.agg 7 λj=>qj n x j
abbrev jN(n:Nv)(x:bU):D:=.agg 3 λj=>QN n x j
abbrev gH(n:Nv)(x:aR):D:=.agg 4 λj=>gB n x j
abbrev iT(n:Nv)(x:bQ):D:=.agg 7 λj=>CY n x j
abbrev gu(n:Nv)(x:aD):D:=.agg 14 λj=>xM n x j
abbrev iD(n:Nv)(x:bG):D:=.agg 4 λj=>Ir n x j
abbrev LA(n:Nv)(x:kV):D:=.agg 3 λj=>Lx n x j
abbrev Uz(n:Nv)(x:jY):D:=.agg 3 λj=>vC n x j
abbrev kW(n:Nv)(x:cZ):D:=.agg 1 λj=>TM n x j
abbrev vD(n:Nv)(x:gI):D:=.agg 2 λj=>Kr n x j
abbrev aV(n:Nv)(x:ay):D:=.agg 83 λj=>mO n x j
abbrev IB(n:Nv)(x:jw):D:=.agg 7 λj=>qp n x j
abbrev JH(n:Nv)(x:jJ):D:=.agg 2 λj=>wK n x j
abbrev IC(n:Nv)(x:iZ):D:=.agg 2 λj=>uW n x j
abbrev Hg(n:Nv)(x:iq):D:=.agg 14 λj=>ni n x j
abbrev pJ(n:Nv)(x:dZ):D:=.agg 25 λj=>pI n x j
abbrev qw(n:Nv)(x:gV):D:=.agg 83 λj=>qo n x j
abbrev oC(n:Nv)(x:fI):D:=.agg 92 λj=>rC n x j
abbrev w9(n:Nv)(x:eG):D:=.agg 1 λj=>Nb n x j
abbrev ag1(n:Nv)(x:dA):D:=.agg 2 λj=>mG n x j
abbrev iJ(n:Nv)(x:aT):D:=.agg 7 λj=>uz n x j
abbrev Em(n:Nv)(x:iU):D:=.agg 1 λj=>Kq n x j
abbrev aS(n:Nv)(x:av):D:=.agg 25 λj=>og n x j
abbrev nC(n:Nv)(x:dJ):D:=.agg 2 λj=>DF n x j
abbrev adl(n:Nv)(x:oO):D:=.agg 11 λj=>Iu n x j
abbrev jK(n:Nv)(x:bF):D:=.agg 92 λj=>pX n x j
abbrev ae6(n:Nv)(x:rH):D:=.agg 1 λj=>Kt n x j
abbrev dF(n:Nv)(x:bL):D:=.agg 6 λj=>Io n x j
abbrev TS(n:Nv)(x:kE):D:=.agg 1 λj=>TN n x j
abbrev FJ(n:Nv)(x:oI):D:=.agg 4 λj=>TR n x j
abbrev Pm(n:Nv)(x:nA):D:=.agg 5 λj=>Ai n x j
abbrev aj9(n:Nv)(x:jh):D:=.agg 2 λj=>TP n x j
abbrev Am(n:Nv)(l:List kR):D:=.sl 2 (n.len l) false λi j=>Ej n (n.get jP l i) j
abbrev tu(n:Nv)(l:List aG):D:=.sl 6 (n.len l) false λi j=>wm n (n.get sN l i) j
abbrev Ao(n:Nv)(l:List bY):D:=.sl 7 (n.len l) false λi j=>qj n (n.get bq l i) j
abbrev lX(n:Nv)(l:List aR):D:=.sl 4 (n.len l) false λi j=>gB n (n.get aH l i) j
abbrev Br(n:Nv)(l:List aL):D:=.sl 3 (n.len l) false λi j=>Nh n (n.get Bt l i) j
abbrev alN(n:Nv)(l:List oO):D:=.sl 11 (n.len l) false λi j=>Iu n (n.get VU l i) j
abbrev YF(v:Nv)(g:Nat)(n:Int)(t:Bool)(l:List aG):Ob:=.arr g 6 n t λi j=>wm v (v.get sN l i) j
abbrev jQ(v:Nv)(g:Nat)(n:Int)(t:Bool)(l:List bY):Ob:=.arr g 7 n t λi j=>qj v (v.get bq l i) j
abbrev kT(v:Nv)(g:Nat)(n:Int)(t:Bool)(l:List aR):Ob:=.arr g 4 n t λi j=>gB v (v.get aH l i) j
abbrev pK(v:Nv)(g:Nat)(n:Int)(t:Bool)(l:List jY):Ob:=.arr g 3 n t λi j=>vC v (v.get zw l i) j
abbrev qy(v:Nv)(g:Nat)(n:Int)(t:Bool)(l:List gF):Ob:=.arr g 3 n t λi j=>wh v (v.get ny l i) j
abbrev Ku(v:Nv)(g:Nat)(n:Int)(t:Bool)(l:List mM):Ob:=.arr g 2 n t λi j=>Ko v (v.get nO l i) j
abbrev adn(v:Nv)(g:Nat)(n:Int)(t:Bool)(l:List jH):Ob:=.arr g 3 n t λi j=>Il v (v.get Iq l i) j
abbrev ado(v:Nv)(g:Nat)(n:Int)(t:Bool)(l:List ji):Ob:=.arr g 2 n t λi j=>Ei v (v.get Ip l i) j
abbrev alO(n:Nv)(l:List kR):D:=.own 2 (n.len l) false λi j=>Ej n (n.get jP l i) j
abbrev Pn(n:Nv)(l:List aG):D:=.own 6 (n.len l) false λi j=>wm n (n.get sN l i) j
abbrev alP(n:Nv)(l:List bY):D:=.own 7 (n.len l) false λi j=>qj n (n.get bq l i) j
abbrev YG(n:Nv)(l:List aR):D:=.own 4 (n.len l) false λi j=>gB n (n.get aH l i) j
abbrev alQ(n:Nv)(l:List jH):D:=.own 3 (n.len l) false λi j=>Il n (n.get Iq l i) j
abbrev alR(n:Nv)(l:List ji):D:=.own 2 (n.len l) false λi j=>Ei n (n.get Ip l i) j
theorem Po{P:Program}(x:mM)(j:Nat):cK (std P) (Ko aj x j) (Ko aj x j):=match j with
  | 0=>bI _ _
  | 1=>bI _ _
  | _+2=>trivial
theorem En{P:Program}(x:gF)(j:Nat):cK (std P) (wh aj x j) (wh aj x j):=match j with
  | 0=>bI _ _
  | 1=>bI _ _
  | 2=>bI _ _
  | _+3=>trivial
theorem Pq{P:Program}(x:iU)(j:Nat):cK (std P) (Kq aj x j) (Kq aj x j):=match j with
  | 0=>bJ (λi j=>En _ _)
  | _+1=>trivial
theorem Pv{P:Program}(x:ji)(j:Nat):cK (std P) (Ei aj x j) (Ei aj x j):=match j with
  | 0=>bI _ _
  | 1=>bI _ _
  | _+2=>trivial
theorem Px{P:Program}(x:jH)(j:Nat):cK (std P) (Il aj x j) (Il aj x j):=match j with
  | 0=>bI _ _
  | 1=>bI _ _
  | 2=>bI _ _
  | _+3=>trivial
theorem YH{P:Program}(x:bL)(j:Nat):cK (std P) (Io aj x j) (Io aj x j):=by
  unfold Io;split<;>first|exact bJ (λi j=>En _ _)|exact bJ (λi j=>Pv _ _)|exact bJ (λi j=>Px _ _)|exact trivial
theorem NC{P:Program}(x:bG)(j:Nat):cK (std P) (Ir aj x j) (Ir aj x j):=match j with
  | 0=>bI _ _
  | 1=>bI _ _
  | 2=>bI _ _
  | 3=>bI _ _
  | _+4=>trivial
theorem abq{P:Program}(x:mP)(j:Nat):cK (std P) (YA aj x j) (YA aj x j):=match j with
  | 0=>bI _ _
  | 1=>bI _ _
  | 2=>bI _ _
  | 3=>bI _ _
  | _+4=>trivial
theorem ND{P:Program}(x:bQ)(j:Nat):cK (std P) (CY aj x j) (CY aj x j):=by
  unfold CY;split<;>first|exact bI _ _|exact trivial
theorem abr{P:Program}(x:bU)(j:Nat):cK (std P) (QN aj x j) (QN aj x j):=match j with
  | 0=>bI _ _
  | 1=>bI _ _
  | 2=>bI _ _
  | _+3=>trivial
theorem NG{P:Program}(x:aD)(j:Nat):cK (std P) (xM aj x j) (xM aj x j):=by
  unfold xM;split<;>first|exact bI _ _|exact iX _|exact trivial
theorem Py{P:Program}(x:kR)(j:Nat):cK (std P) (Ej aj x j) (Ej aj x j):=match j with
  | 0=>bI _ _
  | 1=>bI _ _
  | _+2=>trivial
theorem IE{P:Program}(x:bY)(j:Nat):cK (std P) (qj aj x j) (qj aj x j):=by
  unfold qj;split<;>first|exact bI _ _|exact trivial
theorem nJ{P:Program}(x:aR)(j:Nat):cK (std P) (gB aj x j) (gB aj x j):=match j with
  | 0=>bJ (λi j=>IE _ _)
  | 1=>iX _
  | 2=>bI _ _
  | 3=>iX _
  | _+4=>trivial
theorem XH{P:Program}(x:cZ)(j:Nat):cK (std P) (TM aj x j) (TM aj x j):=match j with
  | 0=>bJ (λi j=>nJ _ _)
  | _+1=>trivial
theorem UA{P:Program}(x:dJ)(j:Nat):cK (std P) (DF aj x j) (DF aj x j):=match j with
  | 0=>bJ (λi j=>bI _ _)
  | 1=>bI _ _
  | _+2=>trivial
theorem Pz{P:Program}(x:gI)(j:Nat):cK (std P) (Kr aj x j) (Kr aj x j):=match j with
  | 0=>bJ (λi j=>nJ _ _)
  | 1=>bI _ _
  | _+2=>trivial
theorem EZ{P:Program}(x:av)(j:Nat):cK (std P) (og aj x j) (og aj x j):=by
  unfold og;split<;>first|exact bJ (λi j=>nJ _ _)|exact bI _ _|exact iX _|exact bJ (λi j=>bI _ _)|exact trivial
theorem QO{P:Program}(x:eG)(j:Nat):cK (std P) (Nb aj x j) (Nb aj x j):=match j with
  | 0=>bI _ _
  | _+1=>trivial
theorem UC{P:Program}(x:eT)(j:Nat):cK (std P) (YB aj x j) (YB aj x j):=match j with
  | 0=>iX _
  | 1=>bI _ _
  | _+2=>trivial
theorem Ap{P:Program}(x:xO)(j:Nat):cK (std P) (DI aj x j) (DI aj x j):=by
  unfold DI;split<;>first|exact iX _|exact bI _ _|exact trivial
theorem yD{P:Program}(x:gQ)(j:Nat):cK (std P) (Ah aj x j) (Ah aj x j):=by
  unfold Ah;split<;>first|exact bI _ _|exact iX _|exact trivial
theorem GA{P:Program}(x:ay)(j:Nat):cK (std P) (mO aj x j) (mO aj x j):=by
  unfold mO;split<;>first|exact bJ (λi j=>nJ _ _)|exact bI _ _|exact iX _|exact bJ (λi j=>bI _ _)|exact uD _|exact trivial
theorem XI{P:Program}(x:kE)(j:Nat):cK (std P) (TN aj x j) (TN aj x j):=match j with
  | 0=>bJ (λi j=>bI _ _)
  | _+1=>trivial
theorem QS{P:Program}(x:dA)(j:Nat):cK (std P) (mG aj x j) (mG aj x j):=match j with
  | 0=>bJ (λi j=>bJ (λi j=>bI _ _))
  | 1=>iX _
  | _+2=>trivial
theorem QT{P:Program}(x:aT)(j:Nat):cK (std P) (uz aj x j) (uz aj x j):=by
  unfold uz;split<;>first|exact bI _ _|exact uD _|exact iX _|exact bJ (λi j=>bJ (λi j=>bI _ _))|exact trivial
theorem Ni{P:Program}(x:bF)(j:Nat):cK (std P) (pX aj x j) (pX aj x j):=by
  unfold pX;split<;>first|exact bJ (λi j=>bI _ _)|exact bI _ _|exact uD _|exact iX _|exact bJ (λi j=>bJ (λi j=>bI _ _))|exact bJ (λi j=>nJ _ _)|exact trivial
theorem PD{P:Program}(x:rH)(j:Nat):cK (std P) (Kt aj x j) (Kt aj x j):=match j with
  | 0=>bJ (λi j=>bI _ _)
  | _+1=>trivial
theorem QU{P:Program}(x:Bq)(j:Nat):cK (std P) (Nc aj x j) (Nc aj x j):=by
  unfold Nc;split<;>first|exact bI _ _|exact trivial
theorem YI{P:Program}(x:oO)(j:Nat):cK (std P) (Iu aj x j) (Iu aj x j):=by
  unfold Iu;split<;>first|exact bI _ _|exact bJ (λi j=>bI _ _)|exact trivial
theorem Kv{P:Program}(x:aG)(j:Nat):cK (std P) (wm aj x j) (wm aj x j):=by
  unfold wm;split<;>first|exact bI _ _|exact uD _|exact bJ (λi j=>bJ (λi j=>bI _ _))|exact trivial
theorem QV{P:Program}(x:aL)(j:Nat):cK (std P) (Nh aj x j) (Nh aj x j):=match j with
  | 0=>uD _
  | 1=>bI _ _
  | 2=>akV _
  | _+3=>trivial
theorem IG{P:Program}(x:xP)(j:Nat):cK (std P) (ML aj x j) (ML aj x j):=match j with
  | 0=>bJ (λi j=>bI _ _)
  | _+1=>trivial
theorem Aq{P:Program}(x:jY)(j:Nat):cK (std P) (vC aj x j) (vC aj x j):=match j with
  | 0=>bI _ _
  | 1=>bI _ _
  | 2=>iX _
  | _+3=>trivial
theorem NH{P:Program}(x:kS)(j:Nat):cK (std P) (Iw aj x j) (Iw aj x j):=match j with
  | 0=>bJ (λi j=>Aq _ _)
  | _+1=>trivial
theorem XJ{P:Program}(x:kV)(j:Nat):cK (std P) (Lx aj x j) (Lx aj x j):=match j with
  | 0=>bJ (λi j=>bI _ _)
  | 1=>bJ (λi j=>bI _ _)
  | 2=>bJ (λi j=>iX _)
  | _+3=>trivial
theorem NI{P:Program}(x:oh)(j:Nat):cK (std P) (Iy aj x j) (Iy aj x j):=by
  unfold Iy;split<;>first|exact bJ (λi j=>bI _ _)|exact bI _ _|exact bJ (λi j=>iX _)|exact bJ (λi j=>Aq _ _)|exact trivial
theorem XK{P:Program}(x:jh)(j:Nat):cK (std P) (TP aj x j) (TP aj x j):=match j with
  | 0=>bJ (λi j=>bI _ _)
  | 1=>bI _ _
  | _+2=>trivial
theorem XL{P:Program}(x:vo)(j:Nat):cK (std P) (TQ aj x j) (TQ aj x j):=by
  unfold TQ;split<;>first|exact bJ (λi j=>bI _ _)|exact bI _ _|exact bJ (λi j=>Py _ _)|exact trivial
theorem MO{P:Program}(x:nA)(j:Nat):cK (std P) (Ai aj x j) (Ai aj x j):=by
  unfold Ai;split<;>first|exact bI _ _|exact bJ (λi j=>bI _ _)|exact trivial
theorem XM{P:Program}(x:oI)(j:Nat):cK (std P) (TR aj x j) (TR aj x j):=match j with
  | 0=>bJ (λi j=>bI _ _)
  | 1=>bJ (λi j=>bI _ _)
  | 2=>bJ (λi j=>IE _ _)
  | 3=>bI _ _
  | _+4=>trivial
theorem FK{P:Program}(x:l6)(j:Nat):cK (std P) (uV aj x j) (uV aj x j):=by
  unfold uV;split<;>first|exact bI _ _|exact trivial
theorem ER{P:Program}(x:iq)(j:Nat):cK (std P) (ni aj x j) (ni aj x j):=by
  unfold ni;split<;>first|exact bI _ _|exact iX _|exact trivial
theorem Hl{P:Program}(x:mR)(j:Nat):cK (std P) (BX aj x j) (BX aj x j):=match j with
  | 0=>bJ (λi j=>nJ _ _)
  | _+1=>trivial
theorem ES{P:Program}(x:lJ)(j:Nat):cK (std P) (zx aj x j) (zx aj x j):=match j with
  | 0=>bI _ _
  | 1=>bI _ _
  | 2=>bI _ _
  | 3=>bI _ _
  | _+4=>trivial
theorem FL{P:Program}(x:iZ)(j:Nat):cK (std P) (uW aj x j) (uW aj x j):=match j with
  | 0=>bJ (λi j=>bI _ _)
  | 1=>bI _ _
  | _+2=>trivial
theorem Ho{P:Program}(x:jJ)(j:Nat):cK (std P) (wK aj x j) (wK aj x j):=match j with
  | 0=>bJ (λi j=>nJ _ _)
  | 1=>bI _ _
  | _+2=>trivial
theorem wR{P:Program}(x:dZ)(j:Nat):cK (std P) (pI aj x j) (pI aj x j):=by
  unfold pI;split<;>first|exact bJ (λi j=>nJ _ _)|exact bI _ _|exact iX _|exact bJ (λi j=>bI _ _)|exact trivial
theorem FM{P:Program}(x:l7)(j:Nat):cK (std P) (Aj aj x j) (Aj aj x j):=match j with
  | 0=>bI _ _
  | _+1=>trivial
theorem rJ{P:Program}(x:jM)(j:Nat):cK (std P) (oP aj x j) (oP aj x j):=by
  unfold oP;split<;>first|exact bI _ _|exact iX _|exact trivial
theorem yE{P:Program}(x:gV)(j:Nat):cK (std P) (qo aj x j) (qo aj x j):=by
  unfold qo;split<;>first|exact bJ (λi j=>nJ _ _)|exact bI _ _|exact iX _|exact bJ (λi j=>bI _ _)|exact uD _|exact trivial
theorem FN{P:Program}(x:l8)(j:Nat):cK (std P) (Ak aj x j) (Ak aj x j):=match j with
  | 0=>bJ (λi j=>bI _ _)
  | _+1=>trivial
theorem Hq{P:Program}(x:mU)(j:Nat):cK (std P) (BZ aj x j) (BZ aj x j):=match j with
  | 0=>bJ (λi j=>bJ (λi j=>bI _ _))
  | 1=>iX _
  | _+2=>trivial
theorem FP{P:Program}(x:jw)(j:Nat):cK (std P) (qp aj x j) (qp aj x j):=by
  unfold qp;split<;>first|exact bI _ _|exact uD _|exact iX _|exact bJ (λi j=>bJ (λi j=>bI _ _))|exact trivial
theorem zy{P:Program}(x:fI)(j:Nat):cK (std P) (rC aj x j) (rC aj x j):=by
  unfold rC;split<;>first|exact bJ (λi j=>bI _ _)|exact bI _ _|exact uD _|exact iX _|exact bJ (λi j=>bJ (λi j=>bI _ _))|exact bJ (λi j=>nJ _ _)|exact trivial
abbrev aJ:Value:=.int .i64 0
abbrev aQ:Value:=.int .u8 0
abbrev gL:Value:=.bool false
abbrev gP:Value:=.slice none 0 0
abbrev dD:EK:=.int .i64
abbrev bD:EK:=.int .u8
def tt0:TT:=[(2,⟨1,8,.int .i64,some [aJ],none,true⟩),
  (3,⟨1,8,.int .i64,some [aJ],none,true⟩),
  (4,⟨1,1,.bool,some [gL],none,true⟩),
  (5,⟨1,1,.int .u8,some [aQ],none,true⟩),
  (9,⟨1,16,.string,some [.string ⟨#[]⟩],none,true⟩),
  (21,⟨1,4,.int .i32,some [.int .i32 0],none,true⟩),
  (22,⟨1,24,.slice 5,some [gP],none,true⟩),
  (23,⟨1,24,.slice 3,some [gP],none,true⟩),
  (25,⟨1,24,.slice 142,some [gP],none,true⟩),
  (27,⟨1,24,.struct [(0,25)],some [gP],none,false⟩),
  (28,⟨1,24,.slice 144,some [gP],none,true⟩),
  (29,⟨1,24,.slice 146,some [gP],none,true⟩),
  (31,⟨6,144,.struct [(0,27),(1,27),(2,27),(3,28),(4,28),(5,29)],some [gP,gP,gP,gP,gP,gP],none,false⟩),
  (34,⟨1,24,.struct [(0,22)],some [gP],none,false⟩),
  (35,⟨1,24,.slice 23,some [gP],none,true⟩),
  (37,⟨2,32,.struct [(0,35),(1,4)],some [gP,gL],none,false⟩),
  (39,⟨7,88,.struct [(0,3),(1,9),(2,4),(3,37),(5,9),(6,5)],some [aJ,.string ⟨#[]⟩,gL,gP,gL,.string ⟨#[]⟩,aQ],none,false⟩),
  (40,⟨1,24,.slice 177,some [gP],none,true⟩),
  (42,⟨1,24,.struct [(0,40)],some [gP],none,false⟩),
  (44,⟨3,24,.struct [(0,3),(1,3),(2,3)],some [aJ,aJ,aJ],some [dD,dD,dD],false⟩),
  (45,⟨4,4,.array 4 5,some [aQ,aQ,aQ,aQ],some [bD,bD,bD,bD],false⟩),
  (47,⟨7,32,.struct [(0,45),(4,3),(5,3),(6,3)],some [aQ,aQ,aQ,aQ,aJ,aJ,aJ],some [bD,bD,bD,bD,dD,dD,dD],false⟩),
  (49,⟨14,80,.struct [(0,3),(1,3),(2,4),(3,4),(4,44),(7,47)],some [aJ,aJ,gL,gL,aJ,aJ,aJ,aQ,aQ,aQ,aQ,aJ,aJ,aJ],some [dD,dD,.bool,.bool,dD,dD,dD,bD,bD,bD,bD,dD,dD,dD],false⟩),
  (51,⟨4,32,.struct [(0,3),(1,3),(2,3),(3,3)],some [aJ,aJ,aJ,aJ],some [dD,dD,dD,dD],false⟩),
  (53,⟨2,32,.struct [(0,23),(1,3)],some [gP,aJ],none,false⟩),
  (55,⟨2,32,.struct [(0,40),(1,3)],some [gP,aJ],none,false⟩),
  (57,⟨25,216,.struct [(0,42),(1,49),(15,51),(19,53),(21,55),(23,3),(24,4)],some [gP,aJ,aJ,gL,gL,aJ,aJ,aJ,aQ,aQ,aQ,aQ,aJ,aJ,aJ,aJ,aJ,aJ,aJ,gP,aJ,gP,aJ,aJ,gL],none,false⟩),
  (59,⟨1,8,.struct [(0,3)],some [aJ],some [dD],false⟩),
  (60,⟨28,160,.array 2 49,some [aJ,aJ,gL,gL,aJ,aJ,aJ,aQ,aQ,aQ,aQ,aJ,aJ,aJ,aJ,aJ,gL,gL,aJ,aJ,aJ,aQ,aQ,aQ,aQ,aJ,aJ,aJ],some [dD,dD,.bool,.bool,dD,dD,dD,bD,bD,bD,bD,dD,dD,dD,dD,dD,.bool,.bool,dD,dD,dD,bD,bD,bD,bD,dD,dD,dD],false⟩),
  (62,⟨83,656,.struct [(0,57),(25,57),(50,4),(51,59),(52,60),(80,22),(81,9),(82,3)],some [gP,aJ,aJ,gL,gL,aJ,aJ,aJ,aQ,aQ,aQ,aQ,aJ,aJ,aJ,aJ,aJ,aJ,aJ,gP,aJ,gP,aJ,aJ,gL,gP,aJ,aJ,gL,gL,aJ,aJ,aJ,aQ,aQ,aQ,aQ,aJ,aJ,aJ,aJ,aJ,aJ,aJ,gP,aJ,gP,aJ,aJ,gL,gL,aJ,aJ,aJ,gL,gL,aJ,aJ,aJ,aQ,aQ,aQ,aQ,aJ,aJ,aJ,aJ,aJ,gL,gL,aJ,aJ,aJ,aQ,aQ,aQ,aQ,aJ,aJ,aJ,gP,.string ⟨#[]⟩,aJ],none,false⟩),
  (64,⟨92,776,.struct [(0,34),(1,39),(8,62),(91,3)],some [gP,aJ,.string ⟨#[]⟩,gL,gP,gL,.string ⟨#[]⟩,aQ,gP,aJ,aJ,gL,gL,aJ,aJ,aJ,aQ,aQ,aQ,aQ,aJ,aJ,aJ,aJ,aJ,aJ,aJ,gP,aJ,gP,aJ,aJ,gL,gP,aJ,aJ,gL,gL,aJ,aJ,aJ,aQ,aQ,aQ,aQ,aJ,aJ,aJ,aJ,aJ,aJ,aJ,gP,aJ,gP,aJ,aJ,gL,gL,aJ,aJ,aJ,gL,gL,aJ,aJ,aJ,aQ,aQ,aQ,aQ,aJ,aJ,aJ,aJ,aJ,gL,gL,aJ,aJ,aJ,aQ,aQ,aQ,aQ,aJ,aJ,aJ,gP,.string ⟨#[]⟩,aJ,aJ],none,false⟩),
  (68,⟨1,24,.struct [(0,22)],some [gP],none,false⟩),
  (69,⟨2,32,.struct [(0,35),(1,4)],some [gP,gL],none,false⟩),
  (71,⟨7,88,.struct [(0,3),(1,9),(2,4),(3,69),(5,9),(6,5)],some [aJ,.string ⟨#[]⟩,gL,gP,gL,.string ⟨#[]⟩,aQ],none,false⟩),
  (72,⟨1,24,.struct [(0,40)],some [gP],none,false⟩),
  (73,⟨7,32,.struct [(0,45),(4,3),(5,3),(6,3)],some [aQ,aQ,aQ,aQ,aJ,aJ,aJ],some [bD,bD,bD,bD,dD,dD,dD],false⟩),
  (75,⟨14,80,.struct [(0,3),(1,3),(2,4),(3,4),(4,44),(7,73)],some [aJ,aJ,gL,gL,aJ,aJ,aJ,aQ,aQ,aQ,aQ,aJ,aJ,aJ],some [dD,dD,.bool,.bool,dD,dD,dD,bD,bD,bD,bD,dD,dD,dD],false⟩),
  (76,⟨4,32,.struct [(0,3),(1,3),(2,3),(3,3)],some [aJ,aJ,aJ,aJ],some [dD,dD,dD,dD],false⟩),
  (77,⟨2,32,.struct [(0,23),(1,3)],some [gP,aJ],none,false⟩),
  (78,⟨2,32,.struct [(0,40),(1,3)],some [gP,aJ],none,false⟩),
  (80,⟨25,216,.struct [(0,72),(1,75),(15,76),(19,77),(21,78),(23,3),(24,4)],some [gP,aJ,aJ,gL,gL,aJ,aJ,aJ,aQ,aQ,aQ,aQ,aJ,aJ,aJ,aJ,aJ,aJ,aJ,gP,aJ,gP,aJ,aJ,gL],none,false⟩),
  (81,⟨1,8,.struct [(0,3)],some [aJ],some [dD],false⟩),
  (82,⟨28,160,.array 2 75,some [aJ,aJ,gL,gL,aJ,aJ,aJ,aQ,aQ,aQ,aQ,aJ,aJ,aJ,aJ,aJ,gL,gL,aJ,aJ,aJ,aQ,aQ,aQ,aQ,aJ,aJ,aJ],some [dD,dD,.bool,.bool,dD,dD,dD,bD,bD,bD,bD,dD,dD,dD,dD,dD,.bool,.bool,dD,dD,dD,bD,bD,bD,bD,dD,dD,dD],false⟩),
  (84,⟨83,656,.struct [(0,80),(25,80),(50,4),(51,81),(52,82),(80,22),(81,9),(82,3)],some [gP,aJ,aJ,gL,gL,aJ,aJ,aJ,aQ,aQ,aQ,aQ,aJ,aJ,aJ,aJ,aJ,aJ,aJ,gP,aJ,gP,aJ,aJ,gL,gP,aJ,aJ,gL,gL,aJ,aJ,aJ,aQ,aQ,aQ,aQ,aJ,aJ,aJ,aJ,aJ,aJ,aJ,gP,aJ,gP,aJ,aJ,gL,gL,aJ,aJ,aJ,gL,gL,aJ,aJ,aJ,aQ,aQ,aQ,aQ,aJ,aJ,aJ,aJ,aJ,gL,gL,aJ,aJ,aJ,aQ,aQ,aQ,aQ,aJ,aJ,aJ,gP,.string ⟨#[]⟩,aJ],none,false⟩),
  (86,⟨92,776,.struct [(0,68),(1,71),(8,84),(91,3)],some [gP,aJ,.string ⟨#[]⟩,gL,gP,gL,.string ⟨#[]⟩,aQ,gP,aJ,aJ,gL,gL,aJ,aJ,aJ,aQ,aQ,aQ,aQ,aJ,aJ,aJ,aJ,aJ,aJ,aJ,gP,aJ,gP,aJ,aJ,gL,gP,aJ,aJ,gL,gL,aJ,aJ,aJ,aQ,aQ,aQ,aQ,aJ,aJ,aJ,aJ,aJ,aJ,aJ,gP,aJ,gP,aJ,aJ,gL,gL,aJ,aJ,aJ,gL,gL,aJ,aJ,aJ,aQ,aQ,aQ,aQ,aJ,aJ,aJ,aJ,aJ,gL,gL,aJ,aJ,aJ,aQ,aQ,aQ,aQ,aJ,aJ,aJ,gP,.string ⟨#[]⟩,aJ,aJ],none,false⟩),
  (99,⟨5,40,.struct [(0,3),(1,3),(2,3),(3,3),(4,3)],some [aJ,aJ,aJ,aJ,aJ],some [dD,dD,dD,dD,dD],false⟩),
  (101,⟨11,104,.struct [(0,3),(1,3),(2,3),(3,3),(4,3),(5,22),(6,99)],some [aJ,aJ,aJ,aJ,aJ,gP,aJ,aJ,aJ,aJ,aJ],none,false⟩),
  (102,⟨1,24,.slice 101,some [gP],none,true⟩),
  (111,⟨1,24,.slice 115,some [gP],none,true⟩),
  (115,⟨6,80,.struct [(0,3),(1,3),(2,5),(3,9),(4,35),(5,9)],some [aJ,aJ,aQ,.string ⟨#[]⟩,gP,.string ⟨#[]⟩],none,false⟩),
  (131,⟨1,24,.slice 310,some [gP],none,true⟩),
  (133,⟨4,80,.struct [(0,23),(1,23),(2,131),(3,3)],some [gP,gP,gP,aJ],none,false⟩),
  (138,⟨1,24,.slice 9,some [gP],none,true⟩),
  (142,⟨3,24,.struct [(0,3),(1,3),(2,3)],some [aJ,aJ,aJ],some [dD,dD,dD],false⟩),
  (144,⟨2,16,.struct [(0,3),(1,3)],some [aJ,aJ],some [dD,dD],false⟩),
  (146,⟨3,24,.struct [(0,3),(1,3),(2,3)],some [aJ,aJ,aJ],some [dD,dD,dD],false⟩),
  (155,⟨1,8,.other,some [.nilFunc],none,true⟩),
  (157,⟨1,24,.slice 234,some [gP],none,true⟩),
  (177,⟨4,48,.struct [(0,131),(1,4),(2,3),(3,4)],some [gP,gL,aJ,gL],none,false⟩),
  (182,⟨1,24,.struct [(0,22)],some [gP],none,false⟩),
  (194,⟨1,8,.int .u64,some [.int .u64 0],none,true⟩),
  (215,⟨1,16,.iface,some [.nilIface],none,true⟩),
  (218,⟨256,256,.array 256 5,some [aQ,aQ,aQ,aQ,aQ,aQ,aQ,aQ,aQ,aQ,aQ,aQ,aQ,aQ,aQ,aQ,aQ,aQ,aQ,aQ,aQ,aQ,aQ,aQ,aQ,aQ,aQ,aQ,aQ,aQ,aQ,aQ,aQ,aQ,aQ,aQ,aQ,aQ,aQ,aQ,aQ,aQ,aQ,aQ,aQ,aQ,aQ,aQ,aQ,aQ,aQ,aQ,aQ,aQ,aQ,aQ,aQ,aQ,aQ,aQ,aQ,aQ,aQ,aQ,aQ,aQ,aQ,aQ,aQ,aQ,aQ,aQ,aQ,aQ,aQ,aQ,aQ,aQ,aQ,aQ,aQ,aQ,aQ,aQ,aQ,aQ,aQ,aQ,aQ,aQ,aQ,aQ,aQ,aQ,aQ,aQ,aQ,aQ,aQ,aQ,aQ,aQ,aQ,aQ,aQ,aQ,aQ,aQ,aQ,aQ,aQ,aQ,aQ,aQ,aQ,aQ,aQ,aQ,aQ,aQ,aQ,aQ,aQ,aQ,aQ,aQ,aQ,aQ,aQ,aQ,aQ,aQ,aQ,aQ,aQ,aQ,aQ,aQ,aQ,aQ,aQ,aQ,aQ,aQ,aQ,aQ,aQ,aQ,aQ,aQ,aQ,aQ,aQ,aQ,aQ,aQ,aQ,aQ,aQ,aQ,aQ,aQ,aQ,aQ,aQ,aQ,aQ,aQ,aQ,aQ,aQ,aQ,aQ,aQ,aQ,aQ,aQ,aQ,aQ,aQ,aQ,aQ,aQ,aQ,aQ,aQ,aQ,aQ,aQ,aQ,aQ,aQ,aQ,aQ,aQ,aQ,aQ,aQ,aQ,aQ,aQ,aQ,aQ,aQ,aQ,aQ,aQ,aQ,aQ,aQ,aQ,aQ,aQ,aQ,aQ,aQ,aQ,aQ,aQ,aQ,aQ,aQ,aQ,aQ,aQ,aQ,aQ,aQ,aQ,aQ,aQ,aQ,aQ,aQ,aQ,aQ,aQ,aQ,aQ,aQ,aQ,aQ,aQ,aQ,aQ,aQ,aQ,aQ,aQ,aQ,aQ,aQ,aQ,aQ,aQ,aQ],some [bD,bD,bD,bD,bD,bD,bD,bD,bD,bD,bD,bD,bD,bD,bD,bD,bD,bD,bD,bD,bD,bD,bD,bD,bD,bD,bD,bD,bD,bD,bD,bD,bD,bD,bD,bD,bD,bD,bD,bD,bD,bD,bD,bD,bD,bD,bD,bD,bD,bD,bD,bD,bD,bD,bD,bD,bD,bD,bD,bD,bD,bD,bD,bD,bD,bD,bD,bD,bD,bD,bD,bD,bD,bD,bD,bD,bD,bD,bD,bD,bD,bD,bD,bD,bD,bD,bD,bD,bD,bD,bD,bD,bD,bD,bD,bD,bD,bD,bD,bD,bD,bD,bD,bD,bD,bD,bD,bD,bD,bD,bD,bD,bD,bD,bD,bD,bD,bD,bD,bD,bD,bD,bD,bD,bD,bD,bD,bD,bD,bD,bD,bD,bD,bD,bD,bD,bD,bD,bD,bD,bD,bD,bD,bD,bD,bD,bD,bD,bD,bD,bD,bD,bD,bD,bD,bD,bD,bD,bD,bD,bD,bD,bD,bD,bD,bD,bD,bD,bD,bD,bD,bD,bD,bD,bD,bD,bD,bD,bD,bD,bD,bD,bD,bD,bD,bD,bD,bD,bD,bD,bD,bD,bD,bD,bD,bD,bD,bD,bD,bD,bD,bD,bD,bD,bD,bD,bD,bD,bD,bD,bD,bD,bD,bD,bD,bD,bD,bD,bD,bD,bD,bD,bD,bD,bD,bD,bD,bD,bD,bD,bD,bD,bD,bD,bD,bD,bD,bD,bD,bD,bD,bD,bD,bD,bD,bD,bD,bD,bD,bD,bD,bD,bD,bD,bD,bD],false⟩),
  (221,⟨1,8,.int .u64,some [.int .u64 0],none,true⟩),
  (231,⟨1,8,.other,some [.nilFunc],none,true⟩),
  (234,⟨3,32,.struct [(0,9),(1,5),(2,155)],some [.string ⟨#[]⟩,aQ,.nilFunc],none,false⟩),
  (242,⟨1,8,.other,some [.nilFunc],none,true⟩),
  (246,⟨1,8,.other,some [.nilFunc],none,true⟩),
  (276,⟨2,16,.struct [(0,4),(1,3)],some [gL,aJ],some [.bool,dD],false⟩),
  (277,⟨48,384,.array 24 276,some [gL,aJ,gL,aJ,gL,aJ,gL,aJ,gL,aJ,gL,aJ,gL,aJ,gL,aJ,gL,aJ,gL,aJ,gL,aJ,gL,aJ,gL,aJ,gL,aJ,gL,aJ,gL,aJ,gL,aJ,gL,aJ,gL,aJ,gL,aJ,gL,aJ,gL,aJ,gL,aJ,gL,aJ],some [.bool,dD,.bool,dD,.bool,dD,.bool,dD,.bool,dD,.bool,dD,.bool,dD,.bool,dD,.bool,dD,.bool,dD,.bool,dD,.bool,dD,.bool,dD,.bool,dD,.bool,dD,.bool,dD,.bool,dD,.bool,dD,.bool,dD,.bool,dD,.bool,dD,.bool,dD,.bool,dD,.bool,dD],false⟩),
  (282,⟨5,72,.struct [(0,3),(1,3),(2,23),(3,23),(4,3)],some [aJ,aJ,gP,gP,aJ],none,false⟩),
  (288,⟨1,24,.slice 290,some [gP],none,true⟩),
  (290,⟨2,16,.struct [(0,3),(1,3)],some [aJ,aJ],some [dD,dD],false⟩),
  (292,⟨1,4,.int .u32,some [.int .u32 0],none,true⟩),
  (303,⟨1,24,.slice 304,some [gP],none,true⟩),
  (304,⟨1,8,.other,some [.nilFunc],none,true⟩),
  (308,⟨2,16,.array 2 3,some [aJ,aJ],some [dD,dD],false⟩),
  (310,⟨7,56,.struct [(0,3),(1,308),(3,3),(4,44)],some [aJ,aJ,aJ,aJ,aJ,aJ,aJ],some [dD,dD,dD,dD,dD,dD,dD],false⟩),
  (316,⟨1,8,.other,some [.nilFunc],none,true⟩),
  (360,⟨1,8,.int .i64,some [aJ],none,true⟩),
  (380,⟨31,248,.array 31 3,some [aJ,aJ,aJ,aJ,aJ,aJ,aJ,aJ,aJ,aJ,aJ,aJ,aJ,aJ,aJ,aJ,aJ,aJ,aJ,aJ,aJ,aJ,aJ,aJ,aJ,aJ,aJ,aJ,aJ,aJ,aJ],some [dD,dD,dD,dD,dD,dD,dD,dD,dD,dD,dD,dD,dD,dD,dD,dD,dD,dD,dD,dD,dD,dD,dD,dD,dD,dD,dD,dD,dD,dD,dD],false⟩),
  (422,⟨10,80,.array 10 3,some [aJ,aJ,aJ,aJ,aJ,aJ,aJ,aJ,aJ,aJ],some [dD,dD,dD,dD,dD,dD,dD,dD,dD,dD],false⟩),
  (423,⟨8,64,.array 8 3,some [aJ,aJ,aJ,aJ,aJ,aJ,aJ,aJ],some [dD,dD,dD,dD,dD,dD,dD,dD],false⟩),
  (439,⟨1,24,.slice 4,some [gP],none,true⟩),
  (441,⟨3,72,.struct [(0,23),(1,23),(2,439)],some [gP,gP,gP],none,false⟩),
  (448,⟨1,8,.map 3 3,some [.map none],none,true⟩),
  (473,⟨1,24,.struct [(0,23)],some [gP],none,false⟩),
  (476,⟨1,24,.slice 483,some [gP],none,true⟩),
  (478,⟨1,24,.struct [(0,476)],some [gP],none,false⟩),
  (480,⟨10,176,.struct [(0,23),(1,23),(2,3),(3,441),(6,478),(7,3),(8,3),(9,3)],some [gP,gP,aJ,gP,gP,gP,gP,aJ,aJ,aJ],none,false⟩),
  (483,⟨3,24,.struct [(0,3),(1,3),(2,4)],some [aJ,aJ,gL],some [dD,dD,.bool],false⟩),
  (487,⟨1,24,.slice 308,some [gP],none,true⟩),
  (490,⟨7,104,.struct [(0,23),(1,23),(2,3),(3,3),(4,3),(5,3),(6,487)],some [gP,gP,aJ,aJ,aJ,aJ,gP],none,false⟩),
  (491,⟨1,8,.other,some [.nilFunc],none,true⟩),
  (492,⟨1,24,.slice 491,some [gP],none,true⟩),
  (494,⟨2,32,.struct [(0,23),(1,3)],some [gP,aJ],none,false⟩),
  (495,⟨1,8,.other,some [.nilFunc],none,true⟩),
  (496,⟨1,24,.slice 495,some [gP],none,true⟩)]
theorem uS:jG Tryz.prog tt0:=jG.of _ _ (by kernel_rfl)
theorem XO:Tryz.prog.follows .mixedOrders=true:=by kernel_rfl

theorem atA{P:Program}{f:FuncId}{fn:Func}{e:Array Value->Sem Value}(hf:P.funcs[f]? = some fn) (hname:(fn.name == "runtime.NumGoroutine")=false) (hb:fn.body.isNone=true) (hn:Extern.findNext fn=none) (he:Extern.find fn=some e)
    {a b d:Value} (hr : ∀ w,(e #[a,b]).run P w = .ok d w):Ar P f [.v a,.v b] (.v d):=by
  intro w I c vs hl ha
  match vs,hl with
  | [x,y],_=>
    obtain⟨y0,h0,r0⟩:=ha 0 _ rfl;obtain⟨y1,h1,r1⟩:=ha 1 _ rfl;have r0:y0=a:=r0;have r1:y1=b:=r1;have h0:x=y0:=by simpa using h0
    have h1:y=y1:=by simpa using h1
    rw[h0,h1,r0,r1];refine⟨d,?_,rfl⟩;show(callFunc f #[a,b]).run P w=_;rw[run_callFunc_extern hf hname hb hn he,hr];rfl
theorem TU(s:ByteArray)(c:Int)(r:Int)(h:JI s c=some r):Ar Tryz.prog 296 [.v (.string s),.v (.int .u8 c)] (.v (.int .i64 r)):=by
  cases h;exact atA Tryz.func296 (by kernel_rfl) (by kernel_rfl) (by kernel_rfl) (e:=Extern.BytealgCount.count) (by kernel_rfl) (λw=>Lib.run_countString s c w)
theorem Nj(s:ByteArray)(c:Int)(r:Int)(h:ET s c=some r):Ar Tryz.prog 236 [.v (.string s),.v (.int .u8 c)] (.v (.int .i64 r)):=by
  cases h;exact atA Tryz.func236 (by kernel_rfl) (by kernel_rfl) (by kernel_rfl) (e:=Extern.BytealgIndexByte.indexByte) (by kernel_rfl) (λw=>Lib.run_indexByteString s c w)

/-! Closing tactics. -/
theorem atB(k:Nat)(c:Nat->D):wu (cellsOf.match_1 (motive:=λ_ _=>List D) k c (λ_=>[]) (λn c=>c 0::cellsOf n λj=>c (j+1))) ([]++cellsOf k c):=by
  cases k<;>exact wu.refl _
theorem gW{α β:Type}(xs:List α)(v:β):ah (jX (ah xs) v)=ah xs:=dK v (bW xs)
theorem Wy{p:Prop}(h:p:=by first|with_reducible rfl|with_reducible assumption|(symm;with_reducible assumption)|((try dsimp only[iH,kD,aj])<;>first|with_reducible rfl|omega|(simp(disch:=first|omega|with_reducible exact bW _|with_reducible exact qA _|(simp only[cu,bK,bE,bP]<;>omega)|with_reducible exact kZ.2 ⟨bW _,by omega⟩|((try simp only[gW]);simp only[kZ,xg,nK];(try simp(disch:=omega) only[dG,dK]);omega)|((try simp only[gW]);unfold aP;(try simp(disch:=omega) only[dG,dK]);(repeat' split)<;>omega)|fail) only[iV,cu,bK,bE,bP,dK,dG,jB,Int.ofNat_eq_natCast,Int.zero_add,Int.sub_zero]<;>first|done|omega|with_reducible assumption|rfl|fail))|rfl|assumption|(symm;assumption)|fail):p:=h
theorem Wf{p:Prop} (h:p:=by
  (try dsimp only)<;>repeat' first
  | exact trivial
  | with_reducible refine And.intro ?_ ?_
  | with_reducible rfl
  | with_reducible assumption
  | (simp(disch:=first|omega|with_reducible exact bW _|with_reducible exact qA _|(simp only[cu,bK,bE,bP]<;>omega)|with_reducible exact kZ.2 ⟨bW _,by omega⟩|((try simp only[gW]);simp only[kZ,xg,nK];(try simp(disch:=omega) only[dG,dK]);omega)|((try simp only[gW]);unfold aP;(try simp(disch:=omega) only[dG,dK]);(repeat' split)<;>omega)|fail) only[iV,cu,bK,bE,bP,dK,dG,jB,Int.ofNat_eq_natCast,Int.zero_add,Int.sub_zero]<;>first|done|with_reducible assumption|omega|rfl|fail)
  | omega
  | rfl
  | fail):p:=h
theorem Wm{p:Prop}(h:p:=by(try dsimp only[iH,kD,aj])<;>first|omega|(simp(disch:=first|omega|with_reducible exact bW _|with_reducible exact qA _|(simp only[cu,bK,bE,bP]<;>omega)|with_reducible exact kZ.2 ⟨bW _,by omega⟩|((try simp only[gW]);simp only[kZ,xg,nK];(try simp(disch:=omega) only[dG,dK]);omega)|((try simp only[gW]);unfold aP;(try simp(disch:=omega) only[dG,dK]);(repeat' split)<;>omega)|fail) only[iV,cu,bK,bE,bP,dK,dG,jB,Int.ofNat_eq_natCast,Int.zero_add,Int.sub_zero]<;>omega)):p:=h
theorem Woc{p:Prop}(h:p:=by first|exact bI _ _|(intro i j;first|exact bI _ _|exact iX _|exact uD _|exact bJ (λi j=>bI _ _)|exact bJ (λi j=>iX _)|exact bJ (λi j=>uD _)|exact Po _ _|exact En _ _|exact Pq _ _|exact Pv _ _|exact Px _ _|exact YH _ _|exact NC _ _|exact abq _ _|exact ND _ _|exact abr _ _|exact NG _ _|exact Py _ _|exact IE _ _|exact nJ _ _|exact XH _ _|exact UA _ _|exact Pz _ _|exact EZ _ _|exact QO _ _|exact UC _ _|exact Ap _ _|exact yD _ _|exact GA _ _|exact XI _ _|exact QS _ _|exact QT _ _|exact Ni _ _|exact PD _ _|exact QU _ _|exact YI _ _|exact Kv _ _|exact QV _ _|exact IG _ _|exact Aq _ _|exact NH _ _|exact XJ _ _|exact NI _ _|exact XK _ _|exact XL _ _|exact MO _ _|exact XM _ _|exact FK _ _|exact ER _ _|exact Hl _ _|exact ES _ _|exact FL _ _|exact Ho _ _|exact wR _ _|exact FM _ _|exact rJ _ _|exact yE _ _|exact FN _ _|exact Hq _ _|exact FP _ _|exact zy _ _|exact bJ (λi j=>Po _ _)|exact bJ (λi j=>En _ _)|exact bJ (λi j=>Pq _ _)|exact bJ (λi j=>Pv _ _)|exact bJ (λi j=>Px _ _)|exact bJ (λi j=>YH _ _)|exact bJ (λi j=>NC _ _)|exact bJ (λi j=>abq _ _)|exact bJ (λi j=>ND _ _)|exact bJ (λi j=>abr _ _)|exact bJ (λi j=>NG _ _)|exact bJ (λi j=>Py _ _)|exact bJ (λi j=>IE _ _)|exact bJ (λi j=>nJ _ _)|exact bJ (λi j=>XH _ _)|exact bJ (λi j=>UA _ _)|exact bJ (λi j=>Pz _ _)|exact bJ (λi j=>EZ _ _)|exact bJ (λi j=>QO _ _)|exact bJ (λi j=>UC _ _)|exact bJ (λi j=>Ap _ _)|exact bJ (λi j=>yD _ _)|exact bJ (λi j=>GA _ _)|exact bJ (λi j=>XI _ _)|exact bJ (λi j=>QS _ _)|exact bJ (λi j=>QT _ _)|exact bJ (λi j=>Ni _ _)|exact bJ (λi j=>PD _ _)|exact bJ (λi j=>QU _ _)|exact bJ (λi j=>YI _ _)|exact bJ (λi j=>Kv _ _)|exact bJ (λi j=>QV _ _)|exact bJ (λi j=>IG _ _)|exact bJ (λi j=>Aq _ _)|exact bJ (λi j=>NH _ _)|exact bJ (λi j=>XJ _ _)|exact bJ (λi j=>NI _ _)|exact bJ (λi j=>XK _ _)|exact bJ (λi j=>XL _ _)|exact bJ (λi j=>MO _ _)|exact bJ (λi j=>XM _ _)|exact bJ (λi j=>FK _ _)|exact bJ (λi j=>ER _ _)|exact bJ (λi j=>Hl _ _)|exact bJ (λi j=>ES _ _)|exact bJ (λi j=>FL _ _)|exact bJ (λi j=>Ho _ _)|exact bJ (λi j=>wR _ _)|exact bJ (λi j=>FM _ _)|exact bJ (λi j=>rJ _ _)|exact bJ (λi j=>yE _ _)|exact bJ (λi j=>FN _ _)|exact bJ (λi j=>Hq _ _)|exact bJ (λi j=>FP _ _)|exact bJ (λi j=>zy _ _)|trivial|fail)|fail):p:=h
theorem GD{p:Nat->Prop} : ∀ j,j<0->p j:=λj h=>absurd h (Nat.not_lt_zero j)
theorem GH{p:Nat->Prop}{n:Nat}(h0:p 0)(h : ∀ j,j<n->p (j+1)) : ∀ j,j<n+1->p j
  | 0,_=>h0
  | j+1,hj=>h j (Nat.lt_of_succ_lt_succ hj)
theorem Wpj{p:Prop}(h:p:=by(conv=>lhs;whnf)<;>(conv=>rhs;whnf)<;>(try dsimp only[iH,kD,aj])<;>(first|rfl|(simp(disch:=first|omega|with_reducible exact bW _|with_reducible exact qA _|(simp only[cu,bK,bE,bP]<;>omega)|with_reducible exact kZ.2 ⟨bW _,by omega⟩|((try simp only[gW]);simp only[kZ,xg,nK];(try simp(disch:=omega) only[dG,dK]);omega)|((try simp only[gW]);unfold aP;(try simp(disch:=omega) only[dG,dK]);(repeat' split)<;>omega)|fail) only[VW,j5,lZ,Kw,Gx,dG,dK,ae7,Gy,Int.zero_add,Int.sub_zero,beq_iff_eq,decide_eq_true_eq,Bool.and_eq_true]<;>first|rfl|(split<;>first|rfl|(exfalso;omega)|(subst_vars;rfl)|(simp(disch:=first|omega|with_reducible exact bW _|with_reducible exact qA _|(simp only[cu,bK,bE,bP]<;>omega)|with_reducible exact kZ.2 ⟨bW _,by omega⟩|((try simp only[gW]);simp only[kZ,xg,nK];(try simp(disch:=omega) only[dG,dK]);omega)|((try simp only[gW]);unfold aP;(try simp(disch:=omega) only[dG,dK]);(repeat' split)<;>omega)|fail) only[j6,nD]<;>rfl))|((repeat' split)<;>first|rfl|(exfalso;omega)|fail)|(simp(disch:=omega) only[j6,nD]<;>rfl)|((simp only[bK,bE,bP,Int.ofNat_eq_natCast])<;>(repeat' split)<;>first|rfl|(exfalso;omega)|(subst_vars;rfl)|(simp(disch:=omega) only[j6,nD]<;>rfl)|(congr 3;omega)|fail))|fail)):p:=h
theorem Wp{p:Prop} (h:p:=by
  intro i i0 i1;first
  | (exfalso;revert i1;show i<(0:Int)->False;omega)
  | ((try dsimp only[iH,kD,aj] at i1);(try simp only[Int.ofNat_eq_natCast,bK,bE,bP,cu,iV] at i1);(try simp(disch:=first|omega|with_reducible exact bW _|with_reducible exact qA _|(simp only[cu,bK,bE,bP]<;>omega)|with_reducible exact kZ.2 ⟨bW _,by omega⟩|((try simp only[gW]);simp only[kZ,xg,nK];(try simp(disch:=omega) only[dG,dK]);omega)|((try simp only[gW]);unfold aP;(try simp(disch:=omega) only[dG,dK]);(repeat' split)<;>omega)|fail) only[dG,dK,jB,Int.zero_add,Int.sub_zero] at i1)
     first
     | (repeat' first|exact GD|refine GH ?_ ?_|exact Wpj|fail
        first|done|fail)
     | ((first|(obtain rfl:i=0:=(by omega))|(rcases(show i=0\/i=1 by omega) with rfl|rfl)|(rcases(show i=0\/i=1\/i=2 by omega) with rfl|rfl|rfl)|(rcases(show i=0\/i=1\/i=2\/i=3 by omega) with rfl|rfl|rfl|rfl)|(rcases(show i=0\/i=1\/i=2\/i=3\/i=4 by omega) with rfl|rfl|rfl|rfl|rfl)|(rcases(show i=0\/i=1\/i=2\/i=3\/i=4\/i=5 by omega) with rfl|rfl|rfl|rfl|rfl|rfl)|(rcases(show i=0\/i=1\/i=2\/i=3\/i=4\/i=5\/i=6 by omega) with rfl|rfl|rfl|rfl|rfl|rfl|rfl)|(rcases(show i=0\/i=1\/i=2\/i=3\/i=4\/i=5\/i=6\/i=7 by omega) with rfl|rfl|rfl|rfl|rfl|rfl|rfl|rfl)) <;>
        (repeat' first|exact GD|refine GH ?_ ?_|exact rfl|fail)<;>first|done|fail)
     | fail)
  | fail):p:=h
theorem ays{p:Int->Prop}{n:Nat}(h : ∀ k:Nat,k<n->p (k:Int)) : ∀ i:Int,0<=i->i<(n:Int)->p i:=λi h0 h1=>by
  have:=h i.toNat (by omega)
  rwa [show((i.toNat:Nat):Int)=i by omega] at this
theorem WpN{p:Prop} (h:p:=by
  refine ays ?_
  (repeat' first|exact GD|refine GH ?_ ?_|exact rfl|fail)
  first|done|fail):p:=h
theorem Wsk{p:Prop} (h:p:=by
  repeat' first
  | exact trivial
  | exact GD
  | refine GH ?_ ?_
  | refine And.intro rfl ?_
  | exact rfl
  | intro i
  | fail
  first|done|fail):p:=h
theorem Wpx{p:Prop} (h:p:=by
  intro hb
  (try dsimp only[iH,kD,aj] at hb)
  (try simp only[Int.zero_add] at hb)
  (try (have hb2:=hb;simp only[akb] at hb2))
  (try simp only[aiu])
  (first|simp(disch:=first|omega|with_reducible exact bW _|with_reducible exact qA _|(simp only[cu,bK,bE,bP]<;>omega)|with_reducible exact kZ.2 ⟨bW _,by omega⟩|((try simp only[gW]);simp only[kZ,xg,nK];(try simp(disch:=omega) only[dG,dK]);omega)|((try simp only[gW]);unfold aP;(try simp(disch:=omega) only[dG,dK]);(repeat' split)<;>omega)|fail) only[j5,lZ,Kw,Gx,Gy,bK,bE,bP,cu,Int.zero_add,if_pos hb,if_neg hb,j6]|simp(disch:=first|omega|with_reducible exact bW _|with_reducible exact qA _|(simp only[cu,bK,bE,bP]<;>omega)|with_reducible exact kZ.2 ⟨bW _,by omega⟩|((try simp only[gW]);simp only[kZ,xg,nK];(try simp(disch:=omega) only[dG,dK]);omega)|((try simp only[gW]);unfold aP;(try simp(disch:=omega) only[dG,dK]);(repeat' split)<;>omega)|fail) only[j5,lZ,Kw,Gx,Gy,bK,bE,bP,cu,Int.zero_add,if_pos hb,j6]|skip)
  first|exact Wd|exact Wpc|(exfalso;omega)|fail):p:=h
theorem Wpc{p:Prop} (h:p:=by
  repeat' first
  | exact GD
  | refine GH ?_ ?_
  | exact dV.of Wpj
  | exact dV.nil (by(try dsimp only[iH,kD,aj]);simp(disch:=first|omega|with_reducible exact bW _|with_reducible exact qA _|(simp only[cu,bK,bE,bP]<;>omega)|with_reducible exact kZ.2 ⟨bW _,by omega⟩|((try simp only[gW]);simp only[kZ,xg,nK];(try simp(disch:=omega) only[dG,dK]);omega)|((try simp only[gW]);unfold aP;(try simp(disch:=omega) only[dG,dK]);(repeat' split)<;>omega)|fail) only[Kw];rfl)
  | ((with_reducible refine atC ?_ ?_ ?_ ?_);(focus exact rfl);(focus exact Wsk);(focus exact Wpx);(focus exact Wpx))
  | ((with_reducible refine arP ?_ ?_);(focus exact rfl))
  | ((with_reducible refine atD ?_ ?_ ?_);(focus exact Wsk);(focus exact Wpx);(focus exact Wpx))
  | ((with_reducible refine atE ?_ ?_ ?_);(focus exact Wsk);(focus exact Wpx);(focus exact Wpx))
  | exact Wd
  | fail
  first|done|fail):p:=h
theorem Wpd{p:Prop} (h:p:=by
  intro i i0 i1
  (try dsimp only[iH,kD,aj] at i1);(try simp only[Int.ofNat_eq_natCast,bK,bE,bP,cu,iV] at i1);(try simp(disch:=first|omega|with_reducible exact bW _|with_reducible exact qA _|(simp only[cu,bK,bE,bP]<;>omega)|with_reducible exact kZ.2 ⟨bW _,by omega⟩|((try simp only[gW]);simp only[kZ,xg,nK];(try simp(disch:=omega) only[dG,dK]);omega)|((try simp only[gW]);unfold aP;(try simp(disch:=omega) only[dG,dK]);(repeat' split)<;>omega)|fail) only[dG,dK,jB,Int.zero_add,Int.sub_zero] at i1)
  first|exact Wpc|fail):p:=h
theorem Wpe{p:Prop} (h:p:=by
  intro i i0 i1
  (try dsimp only[iH,kD,aj] at i1);(try simp only[Int.ofNat_eq_natCast,bK,bE,bP,cu,iV] at i1)
  (first|(obtain rfl:i=0:=(by omega))|(rcases(show i=0\/i=1 by omega) with rfl|rfl)|(rcases(show i=0\/i=1\/i=2 by omega) with rfl|rfl|rfl)|(rcases(show i=0\/i=1\/i=2\/i=3 by omega) with rfl|rfl|rfl|rfl)|(rcases(show i=0\/i=1\/i=2\/i=3\/i=4 by omega) with rfl|rfl|rfl|rfl|rfl)|(rcases(show i=0\/i=1\/i=2\/i=3\/i=4\/i=5 by omega) with rfl|rfl|rfl|rfl|rfl|rfl)|(rcases(show i=0\/i=1\/i=2\/i=3\/i=4\/i=5\/i=6 by omega) with rfl|rfl|rfl|rfl|rfl|rfl|rfl)|(rcases(show i=0\/i=1\/i=2\/i=3\/i=4\/i=5\/i=6\/i=7 by omega) with rfl|rfl|rfl|rfl|rfl|rfl|rfl|rfl))<;>(repeat' first|exact GD|refine GH ?_ ?_|exact Wd|fail)
  first|done|fail):p:=h
theorem ab1 : ∀ {k:Nat} {c c':Nat->D},cellsOf k c=cellsOf k c'->∀ j,j<k->c j=c' j
  | 0,_,_,_,j,hj=>absurd hj (Nat.not_lt_zero j)
  | k+1,c,c',h,0,_=>(List.cons.inj h).1
  | k+1,c,c',h,j+1,hj=>ab1 (c:=λj=>c (j+1)) (c':=λj=>c' (j+1)) (List.cons.inj h).2 j (Nat.lt_of_succ_lt_succ hj)
theorem dV.ayt{k:Nat}{c c':Nat->D}(_:Nat.ble 20 k=true)(h:cellsOf k c=cellsOf k c'):dV (.agg k c) (.agg k c'):=dV.agg λj hj=>dV.of (ab1 h j hj)
theorem aph{objs:List (Option Ob)} : ∀ (d d':D),cK (std Tryz.prog) d d'->aX (std Tryz.prog) objs d d':=by
  intro d
  induction d with
  | agg k c ih=>
    intro d' h;cases d'<;>try exact h
    rename_i k' c';simp only[cK] at h;simp only[aX];split at h
    . rename_i hk;rw[if_pos hk];intro i h0 h1 j hj;exact ih j _ (h i h0 h1 j hj)
    exact h.elim
  | fn f k c ih=>
    intro d' h;cases d'<;>cases f<;>try exact h
    rename_i f' k' c' g;cases f'<;>try exact h
    obtain⟨a,b,e⟩:=h;exact⟨a,b,λi h0 h1 j hj=>ih j _ (e i h0 h1 j hj)⟩
  | vec id g sz off n=>intro d' h;cases d'<;>first|exact trivial|exact False.elim h|(simp[cK] at h)
  | fq id g j=>intro d' h;cases d'<;>first|exact trivial|exact False.elim h|(simp[cK] at h)
  | _=>intro d' h;exact h
theorem Eo{k:Nat}{c c':Nat->D}{objs:List (Option Ob)}(_:Nat.ble 20 k=true)(ho : ∀ j,cK (std Tryz.prog) (c' j) (c' j))(h:cellsOf k c=cellsOf k c'):outT (std Tryz.prog) objs [.agg k c] (.agg k c'):=by
  show(if Nat.beq k k then _ else _);rw[Nat.beq_refl,if_pos rfl];intro _ _ _ j hj;rw[ab1 h j hj];exact aph _ _ (ho j)
theorem Wd{p:Prop} (h:p:=by
  repeat' first
  | ((with_reducible refine dV.ayt ?_ ?_);(focus exact rfl);(focus as_aux_lemma=>kernel_rfl))
  | exact dV.refl _
  | exact dV.junk _
  | exact dV.nil rfl
  | exact dV.vec rfl Wy
  | exact dV.slF Wy Wp
  | exact dV.slF Wy WpN
  | exact dV.sl Wy Wpe
  | exact jZ.refl _
  | exact jZ.ayu Wy Wp
  | exact jZ.ayv Wy Wpd
  | refine jZ.box ?_
  | exact trivial
  | exact GD
  | refine GH ?_ ?_
  | refine dV.agg ?_
  | refine dV.II ?_
  | exact dV.gX (λ_=>Wd)
  | refine dV.fn ?_
  | refine dV.apj rfl ?_
  | refine dV.apk rfl ?_
  | exact dV.win (by decide) Wd
  | refine And.intro ?_ ?_
  | exact atB _ _
  | exact wu.refl _
  | fail
  first|done|fail):p:=h
theorem Wks{p:Prop} (h:p:=by
  repeat' first
  | exact trivial
  | refine And.intro (Exists.intro _ (And.intro rfl Wd)) ?_
  | fail
  first|done|fail):p:=h
theorem Wos{p:Prop} (h:p:=by
  repeat' first|exact trivial|refine And.intro rfl ?_|fail
  first|done|fail):p:=h
theorem Wlt{p:Prop}(h:p:=by show(_:Nat)<_;(try dsimp only[iH,kD]);first|omega|exact Nat.lt_of_lt_of_le (by apply_assumption) (by omega)|fail):p:=h
theorem Wle{p:Prop}(h:p:=by first|exact Nat.le_refl _|(refine leC ?_;(try dsimp only[iH,kD]);omega)|fail):p:=h
theorem dN{p:Prop}(h:p:=by first|exact atF rfl Wos Wle Wf rfl rfl Wks Wks|fail):p:=h
theorem Wt{c:Prop}[Decidable c]{a b:Prop}(x:a)(h:c:=by exact rfl):if c then a else b:=by rw[if_pos h];exact x
theorem We{c:Prop}[Decidable c]{a b:Prop}(x:b)(h : ¬ c:=by decide):if c then a else b:=by rw[if_neg h];exact x
theorem Wcl{p:Prop} (h:p:=by first
  | exact trivial
  | (intro _ _ _ j hj;exact anJ _ j hj)
  | (intro i _ _
     repeat' first|exact GD|refine GH ?_ ?_|exact Wcl|fail
     first|done|fail)
  | fail):p:=h
theorem WoN{a b:Nat}(h:a=b):(std Tryz.prog).lU a b:=h
theorem WoE{a b:Int}(h:a=b):(std Tryz.prog).uf a b:=h
theorem WoB{a b:Bool}(h:a=b):(std Tryz.prog).XP a b:=h
theorem WoD{a:Array Oper}{b:List (Nat×Nat)}{c:List (Option Nat)}(h:VX a b c=true):(std Tryz.prog).dr a b c:=h
theorem WoA{n:Int}{k:Nat}{f:Int->Nat->Prop}(h : ∀ i:Int,0<=i->i<n->∀ j,j<k->f i j):(std Tryz.prog).all2 n k f:=h
theorem WoT{b:Bool}(h:b=true):(std Tryz.prog).JJ b:=h
theorem WoI{b:Bool}{p:Prop}(h:b=true->p):(std Tryz.prog).imp b p:=h
theorem WoK{f:FuncId}{a:List D}{d:D}(h:d9 Tryz.prog f a d\/Ar Tryz.prog f a d):(std Tryz.prog).ok f a d:=h
theorem WoV{f:FuncId}{a:List D}{d:D}(h:d9 Tryz.prog f a d):(std Tryz.prog).PE f a d:=h
theorem WoX{objs:List (Option Ob)}{f:FuncId}{a:List D}{d:D}(h:VY Tryz.prog objs f a d):(std Tryz.prog).see objs f a d:=h
theorem atG{p:Prop} (h:p:=by
  repeat' first
  | exact GD
  | refine GH ?_ ?_
  | exact trivial
  | exact ae8 _
  | refine arQ ?_
  | (refine atH ?_;intro i)
  | exact Wcl
  | fail
  first|done|fail):p:=h
theorem ayw{p:Prop}(h:p:=by((try dsimp only[iH,kD])<;>(try simp only[Int.zero_add])<;>first|done|rfl|fail)):p:=h
theorem alS{p:Prop} (h:p:=by
  intro hb
  (try dsimp only[iH,kD,aj] at hb)
  (try simp only[Int.zero_add] at hb)
  (try simp only[aiu])
  (first|simp(disch:=first|omega|with_reducible exact bW _|(simp only[cu,bK,bE,bP]<;>omega)) only[j5,lZ,bK,bE,bP,cu,Int.zero_add,if_pos hb,if_neg hb,j6]|simp(disch:=first|omega|with_reducible exact bW _|(simp only[cu,bK,bE,bP]<;>omega)) only[j5,lZ,bK,bE,bP,cu,Int.zero_add,if_pos hb,j6]|skip)
  first|exact apl|fail):p:=h
theorem apl{p:Prop} (h:p:=by
  repeat' first
  | exact GD
  | refine GH ?_ ?_
  | exact kG.junk
  | exact kG.v
  | ((with_reducible refine kG.nP ?_ ?_ ?_);(focus exact Wsk);(focus exact alS);(focus exact alS))
  | ((with_reducible refine kG.cat ?_ ?_ ?_);(focus exact Wsk);(focus exact alS);(focus exact alS))
  | exact kG.le (P:=Tryz.prog) (dV.refl _) (ae8 _)
  | exact kG.le (P:=Tryz.prog) (dV.of ayw) (ae8 _)
  | refine kG.fn rfl rfl ?_
  | refine kG.apj rfl ?_
  | refine kG.apk rfl ?_
  | refine kG.fq rfl rfl ?_
  | exact kG.le (P:=Tryz.prog) Wd atG
  | fail
  first|done|fail):p:=h
theorem ayx{p:Prop} (h:p:=by
  first
  | ((with_reducible refine kG.sl ?_ ?_);(focus exact Wy);(intro i i0 i1;(try dsimp only[iH,kD,aj] at i1);(try simp only[Int.ofNat_eq_natCast,bK,bE,bP,cu] at i1);first|((first|(obtain rfl:i=0:=(by omega))|(rcases(show i=0\/i=1 by omega) with rfl|rfl)|(rcases(show i=0\/i=1\/i=2 by omega) with rfl|rfl|rfl))<;>exact apl)|exact apl|fail))
  | exact kG.le (P:=Tryz.prog) Wd atG
  | fail):p:=h
theorem ayy{p:Prop} (h:p:=by
  repeat' first
  | exact trivial
  | exact ayx
  | refine And.intro ?_ ?_
  | fail
  first|done|fail):p:=h
theorem ayz{p:Prop} (h:p:=by
  repeat' first
  | exact GD
  | refine GH ?_ ?_
  | exact E5.v _
  | exact E5.dX
  | refine E5.agg ?_
  | (refine E5.sl ?_;intro i)
  | fail
  first|done|fail):p:=h
theorem WrX{p:Prop} (h:p:=by
  refine VY.mk (by assumption) ?_ ?_
  . exact ayy
  exact ayz):p:=h
theorem WoL{f:FuncId}{a:List D}{b c:List Ob}{d:D}(h:lK Tryz.prog f a b c d):(std Tryz.prog).TV f a b c d:=h
theorem ayA{a b:Nat}(h:a<b):(std Tryz.prog).ltN a b:=h
theorem Wtr{p:Prop} (h:p:=by first
  | with_reducible assumption
  | ((try dsimp only[iH,kD])<;>first|with_reducible rfl|with_reducible assumption|((try clear h);grind)|fail)
  | fail):p:=h
theorem Wok{p:Prop} (h:p:=by first
  | exact Or.inl (d9.arg (by assumption) Wd)
  | exact Or.inr (Ar.arg (by assumption) Wd)
  | exact Or.inl (d9.arg (d9.sl (by assumption)) Wd)
  | exact Or.inl (d9.arg (d9.slA (by assumption)) Wd)
  | exact Or.inl (d9.arg (by apply_assumption;assumption) Wd)
  | exact Or.inl (d9.arg (d9.sl (by apply_assumption;assumption)) Wd)
  | fail):p:=h
theorem Wob{p:Prop} (h:p:=by first
  | ((with_reducible refine WoN ?_);exact rfl)
  | exact trivial
  | ((with_reducible refine WoT ?_);exact Wtr)
  | ((with_reducible refine WoI ?_);intro hg;first|exact Bool.noConfusion hg|((try dsimp only[iH,kD] at hg);exact Wob)|fail)
  | ((with_reducible refine WoK ?_);exact Wok)
  | ((with_reducible refine WoL ?_);exact lK.arg (by assumption) Wd)
  | ((with_reducible refine WoX ?_);exact WrX)
  | ((with_reducible refine WoV ?_);first|exact d9.arg (by assumption) Wd|exact d9.arg (by apply_assumption;assumption) Wd|fail)
  | ((with_reducible refine WoA ?_);exact Wcl)
  | ((with_reducible refine WoD ?_);kernel_rfl)
  | ((with_reducible refine ayA ?_);exact Wlt)
  | ((with_reducible refine WoE ?_);exact Wy)
  | ((with_reducible refine WoB ?_);exact rfl)
  | ((with_reducible refine And.intro ?_ ?_);(focus exact Wob);(focus exact Wob))
  | (dsimp only[iH,kD];first|with_reducible assumption|omega|decide|fail)
  | exact Wcl
  | assumption
  | fail):p:=h
theorem WoS{a b:ByteArray}(h:a=b):(std Tryz.prog).eqS a b:=h
theorem WoC{o m n:Int}(h0:0<=o)(h1:0<=m)(h2:o+m<=n):(std Tryz.prog).cut o ((std Tryz.prog).add o m) n:=arR h0 h1 h2
theorem WrA{p:Prop} (h:p:=by first
  | (intro i _ _
     repeat' first|exact GD|refine GH ?_ ?_|exact Wrt|fail
     first|done|fail)
  | fail):p:=h
theorem Wrt{p:Prop} (h:p:=by
  first
  | ((try subst he);exact Eo rfl (λj=>EZ _ j) (by as_aux_lemma=>kernel_rfl))
  | ((try subst he);exact Eo rfl (λj=>Ap _ j) (by as_aux_lemma=>kernel_rfl))
  | ((try subst he);exact Eo rfl (λj=>yD _ j) (by as_aux_lemma=>kernel_rfl))
  | ((try subst he);exact Eo rfl (λj=>GA _ j) (by as_aux_lemma=>kernel_rfl))
  | ((try subst he);exact Eo rfl (λj=>Ni _ j) (by as_aux_lemma=>kernel_rfl))
  | ((try subst he);exact Eo rfl (λj=>wR _ j) (by as_aux_lemma=>kernel_rfl))
  | ((try subst he);exact Eo rfl (λj=>rJ _ j) (by as_aux_lemma=>kernel_rfl))
  | ((try subst he);exact Eo rfl (λj=>yE _ j) (by as_aux_lemma=>kernel_rfl))
  | ((try subst he);exact Eo rfl (λj=>zy _ j) (by as_aux_lemma=>kernel_rfl))
  | skip
  (try first|show aX (std Tryz.prog) _ _ (aj.fC _ _)|show cK (std Tryz.prog) _ (aj.fC _ _)|fail)
  (try simp only[avN,avO,avP,avQ,avR,avS,avT,avU,avV,avW,aho,ahp,ahq,ahr,avX,avY,ahs])
  (try (generalize hp:std Tryz.prog=p;generalize hv:aj=nv;cbv<;>subst hp hv))
  repeat' first
  | with_reducible refine And.intro ?_ ?_
  | exact trivial
  | ((with_reducible refine WoN ?_);(try subst he);exact rfl)
  | ((with_reducible refine WoE ?_);(try subst he);exact Wy)
  | ((with_reducible refine WoB ?_);(try subst he);exact rfl)
  | ((with_reducible refine WoS ?_);(try subst he);exact rfl)
  | ((with_reducible refine WoI ?_);exact(λh=>Bool.noConfusion h))
  | ((with_reducible refine aiv ?_ ?_);(focus exact Woc);(try subst he);(focus first|exact WpN|exact Wp))
  | exact akV _
  | ((with_reducible refine WoA ?_);(try subst he);intro _ _ _ j hj;first|exact arS _ j hj|exact IJ _ j hj|fail)
  | ((with_reducible refine WoA ?_);(try (have he:(_:FV)=_:=he;subst he));exact WrA)
  | ((with_reducible refine WoA ?_);(try subst he);exact WrB)
  | ((with_reducible refine WoA ?_);(try subst he);exact WrE)
  | ((with_reducible refine WoC ?_ ?_ ?_);(focus ((try subst he);exact Wm));(focus exact bW _);(focus ((try subst he);exact Wm)))
  | ((try subst he);exact rfl)
  | exact Woc
  | fail
  first|done|fail):p:=h
theorem WrB{p:Prop} (h:p:=by
  intro i i0 i1
  (try dsimp only[iH,kD,aj] at i1);(try simp only[Int.ofNat_eq_natCast,bE,bP] at i1)
  obtain rfl:i=0:=(by omega)
  (repeat' first|exact GD|refine GH ?_ ?_|exact Wrt|fail)
  first|done|fail):p:=h
theorem WrF{p:Prop} (h:p:=by
  intro hb
  (try dsimp only[iH,kD,aj] at hb)
  (try simp only[Int.zero_add] at hb)
  (try simp only[aiu,apm])
  (first|simp(disch:=first|omega|with_reducible exact bW _|with_reducible exact qA _|(simp only[cu,bK,bE,bP]<;>omega)|with_reducible exact kZ.2 ⟨bW _,by omega⟩|((try simp only[gW]);simp only[kZ,xg,nK];(try simp(disch:=omega) only[dG,dK]);omega)|((try simp only[gW]);unfold aP;(try simp(disch:=omega) only[dG,dK]);(repeat' split)<;>omega)|fail) only[lZ,bK,bE,bP,Int.zero_add,if_pos hb,if_neg hb,j6]|simp(disch:=first|omega|with_reducible exact bW _|with_reducible exact qA _|(simp only[cu,bK,bE,bP]<;>omega)|with_reducible exact kZ.2 ⟨bW _,by omega⟩|((try simp only[gW]);simp only[kZ,xg,nK];(try simp(disch:=omega) only[dG,dK]);omega)|((try simp only[gW]);unfold aP;(try simp(disch:=omega) only[dG,dK]);(repeat' split)<;>omega)|fail) only[lZ,bK,bE,bP,Int.zero_add,if_pos hb,j6]|skip)
  first|exact Kv _ _|exact Wrt|(exfalso;omega)|fail):p:=h
theorem WrE{p:Prop} (h:p:=by
  intro i i0 i1
  (try dsimp only[iH,kD,aj] at i1);(try simp only[Int.ofNat_eq_natCast,bK,bE,bP] at i1)
  (repeat' first|exact GD|refine GH ?_ ?_|((with_reducible refine apn ?_ ?_ ?_);(focus exact Wsk);(focus exact WrF);(focus exact WrF))|fail)
  first|done|fail):p:=h
theorem ayB{p:Prop} (h:p:=by
  (try dsimp only[noGoto,adt,Ky,Au])
  repeat (first|refine Wt ?_|refine We ?_)
  first
  | exact aiw rfl Wos Wrt
  | exact akc rfl Wos Wrt
  | exact arT rfl Wos Wrt Wrt
  | exact arU rfl Wos Wrt Wrt
  | fail):p:=h
theorem Wlv{p:Prop} (h:p:=by first
  | exact ayB
  | (cases he;first|(show PG _ _ _ _ _ _ _ _;exact dN)|((try dsimp only[noGoto,adt,Ky,Au]);(repeat (first|refine Wt ?_|refine We ?_));intro (he:_=_);exact Wlv)|fail)
  | fail):p:=h
theorem atI{p:Prop} (h:p:=by
  first
  | (cases h;done)
  | (have he:=Option.some.inj h;clear h;exact Wlv)
  | fail):p:=h
theorem Wb{β:Type}{c d:Bool}{x y:Option β}{r:β}{A B:Prop}(h:aA c x y=some r)(e:c=d)(ht:c=true->x=some r->A)(hf:c=false->y=some r->B):(std Tryz.prog).ifb d A B :=
  ⟨λhc=>ht (e.trans hc) (YJ h (e.trans hc)),λhc=>hf (e.trans hc) (YK h (e.trans hc))⟩
section
variable {β:Type} {k:Option β} {r:β} {G:Prop}
theorem CZ{c C G:Prop}[Decidable c](h:chk c k=some r)(f:c->C)(g:c->k=some r->G):C/\G:=⟨f (jC h).1,g (jC h).1 (jC h).2⟩
theorem WsI{i n i' n':Int}(h:chk (0<=i/\i<n) k=some r)(ei:i=i')(en:n=n')(g:0<=i/\i<n->k=some r->G):(std Tryz.prog).EU i' n'/\G:=by
  subst ei;subst en;exact CZ h (λq=>q) λq=>g q
theorem WgI{b d:Bool}{i n i' n':Int}(h:chk (b=true->0<=i/\i<n) k=some r)(eb:b=d)(ei:i=i')(en:n=n')(g:(b=true->0<=i/\i<n)->k=some r->G):(std Tryz.prog).imp d ((std Tryz.prog).EU i' n')/\G:=by
  subst eb;subst ei;subst en;exact CZ h (λq=>q) g
theorem WsR{K:IntKind}{x x':Int}(h:chk (aU K x) k=some r)(ex:x=x')(g:aU K x->k=some r->G):(std Tryz.prog).rng K x'/\G:=by
  subst ex;exact CZ h (λq=>q) λq=>g q
theorem WgR{K:IntKind}{b d:Bool}{x x':Int}(h:chk (b=true->aU K x) k=some r)(eb:b=d)(ex:x=x')(g:(b=true->aU K x)->k=some r->G):(std Tryz.prog).imp d ((std Tryz.prog).rng K x')/\G:=by
  subst eb;subst ex;exact CZ h (λq=>q) g
theorem WsC{l m n l' m' n':Int}(h:chk (0<=l/\l<=m/\m<=n) k=some r)(el:l=l')(em:m=m')(en:n=n')(g:0<=l/\l<=m/\m<=n->k=some r->G):(std Tryz.prog).cut l' m' n'/\G:=by
  subst el;subst em;subst en;exact CZ h (λq=>q) λq=>g q
theorem WgC{b d:Bool}{l m n l' m' n':Int}(h:chk (b=true->0<=l/\l<=m/\m<=n) k=some r)(eb:b=d)(el:l=l')(em:m=m')(en:n=n')(g:(b=true->0<=l/\l<=m/\m<=n)->k=some r->G):(std Tryz.prog).imp d ((std Tryz.prog).cut l' m' n')/\G:=by
  subst eb;subst el;subst em;subst en;exact CZ h (λq=>q) g
theorem WsG{B:Nat}{x x':Int}(h:chk (dY B x) k=some r)(ex:x=x')(g:dY B x->k=some r->G):(std Tryz.prog).grow B x'/\G:=by
  subst ex;exact CZ h (λq=>q) λq=>g q
theorem WgG{B:Nat}{b d:Bool}{x x':Int}(h:chk (b=true->dY B x) k=some r)(eb:b=d)(ex:x=x')(g:(b=true->dY B x)->k=some r->G):(std Tryz.prog).imp d ((std Tryz.prog).grow B x')/\G:=by
  subst eb;subst ex;exact CZ h (λq=>q) g
theorem WsM{B:Nat}{l m l' m':Int}(h:chk (jD B l m) k=some r)(el:l=l')(em:m=m')(g:jD B l m/\0<=l/\l<=m->k=some r->G):(std Tryz.prog).make B l' m'/\G:=by
  subst el;subst em;exact CZ h (λq=>q) λq=>g ⟨q,q.1,q.2.1⟩
theorem WgM{B:Nat}{b d:Bool}{l m l' m':Int}(h:chk (b=true->jD B l m) k=some r)(eb:b=d)(el:l=l')(em:m=m')(g:(b=true->jD B l m)->k=some r->G):(std Tryz.prog).imp d ((std Tryz.prog).make B l' m')/\G:=by
  subst eb;subst el;subst em;exact CZ h (λq=>q) g
theorem WsN{x x':Int}(h:chk (x≠0) k=some r)(ex:x=x')(g:x≠0->k=some r->G):(std Tryz.prog).ne0 x'/\G:=by
  subst ex;exact CZ h (λq=>q) λq=>g q
theorem WgN{b d:Bool}{x x':Int}(h:chk (b=true->x≠0) k=some r)(eb:b=d)(ex:x=x')(g:(b=true->x≠0)->k=some r->G):(std Tryz.prog).imp d ((std Tryz.prog).ne0 x')/\G:=by
  subst eb;subst ex;exact CZ h (λq=>q) g
theorem WsZ{x x':Int}(h:chk ((0:Int)<=x) k=some r)(ex:x=x')(g:(0:Int)<=x->k=some r->G):(std Tryz.prog).ge0 x'/\G:=by
  subst ex;exact CZ h (λq=>q) λq=>g q
theorem WgZ{b d:Bool}{x x':Int}(h:chk (b=true->(0:Int)<=x) k=some r)(eb:b=d)(ex:x=x')(g:(b=true->(0:Int)<=x)->k=some r->G):(std Tryz.prog).imp d ((std Tryz.prog).ge0 x')/\G:=by
  subst eb;subst ex;exact CZ h (λq=>q) g
end
theorem Wbt{A B:Prop}(h:A):(std Tryz.prog).ifb true A B:=⟨λ_=>h,λh=>Bool.noConfusion h⟩
theorem Wbf{A B:Prop}(h:B):(std Tryz.prog).ifb false A B:=⟨λh=>Bool.noConfusion h,λ_=>h⟩
theorem Wct{A B:Prop}{d:Bool}(e:d=true)(h:A):(std Tryz.prog).ifb d A B:=⟨λ_=>h,λh=>absurd (e.symm.trans h) (by decide)⟩
theorem Wcf{A B:Prop}{d:Bool}(e:d=false)(h:B):(std Tryz.prog).ifb d A B:=⟨λh=>absurd (e.symm.trans h) (by decide),λ_=>h⟩
theorem Wz{p:Prop} (h:p:=by
  intro N hN;generalize hp:std Tryz.prog=p;generalize hv:aj=nv;cbv;subst hp hv;repeat' first
  | ((with_reducible refine Wb h ?_ ?_ ?_);(focus exact rfl);all_goals (clear h;intro hx h))
  | ((with_reducible refine WsI h ?_ ?_ ?_);(focus exact rfl);(focus exact rfl);(clear h;intro hx h);(try (have hx:=hx;simp only[Int.zero_add] at hx)))
  | ((with_reducible refine WsR h ?_ ?_);(focus exact rfl);(clear h;intro hx h))
  | ((with_reducible refine WsC h ?_ ?_ ?_ ?_);(focus exact rfl);(focus exact rfl);(focus exact rfl);(clear h;intro hx h);(try (have hx:=hx;simp only[Int.zero_add] at hx)))
  | ((with_reducible refine WsG h ?_ ?_);(focus exact rfl);(clear h;intro hx h))
  | ((with_reducible refine WsM h ?_ ?_ ?_);(focus exact rfl);(focus exact rfl);(clear h;intro hx h))
  | ((with_reducible refine WsN h ?_ ?_);(focus exact rfl);(clear h;intro hx h))
  | ((with_reducible refine WsZ h ?_ ?_);(focus exact rfl);(clear h;intro hx h))
  | ((with_reducible refine WgI h ?_ ?_ ?_ ?_);(focus exact rfl);(focus exact rfl);(focus exact rfl);(clear h;intro hx h))
  | ((with_reducible refine WgR h ?_ ?_ ?_);(focus exact rfl);(focus exact rfl);(clear h;intro hx h))
  | ((with_reducible refine WgC h ?_ ?_ ?_ ?_ ?_);(focus exact rfl);(focus exact rfl);(focus exact rfl);(focus exact rfl);(clear h;intro hx h))
  | ((with_reducible refine WgG h ?_ ?_ ?_);(focus exact rfl);(focus exact rfl);(clear h;intro hx h))
  | ((with_reducible refine WgM h ?_ ?_ ?_ ?_);(focus exact rfl);(focus exact rfl);(focus exact rfl);(clear h;intro hx h))
  | ((with_reducible refine WgN h ?_ ?_ ?_);(focus exact rfl);(focus exact rfl);(clear h;intro hx h))
  | ((with_reducible refine WgZ h ?_ ?_ ?_);(focus exact rfl);(focus exact rfl);(clear h;intro hx h))
  | (refine Wbn h (by with_reducible assumption) ?_;clear h;intro hx hx h;(try dsimp only at h))
  | with_reducible refine Wbt ?_
  | with_reducible refine Wbf ?_
  | ((with_reducible refine Wct ?_ ?_);(focus exact rfl))
  | ((with_reducible refine Wcf ?_ ?_);(focus exact rfl))
  | ((with_reducible refine And.intro ?_ ?_);(focus exact Wob))
  | (have hx:=(jC h).1;replace h:=(jC h).2;(try (have hx:ah _=ah _:=hx;simp(disch:=first|omega|with_reducible exact qA _) only[dK] at hx)))
  | (subst hN;exact atI)
  | fail
  first|done|fail):p:=h
theorem Wq{G G':Prop}(k:G') (h:Kp G'->G:=by
  intro k h;intro N hN;generalize hp:std Tryz.prog=p;generalize hv:aj=nv;cbv;subst hp hv;repeat' first
  | ((with_reducible refine Wb h ?_ ?_ ?_);(focus exact rfl);all_goals (clear h;intro hx h))
  | ((with_reducible refine WsI h ?_ ?_ ?_);(focus exact rfl);(focus exact rfl);(clear h;intro hx h);(try (have hx:=hx;simp only[Int.zero_add] at hx)))
  | ((with_reducible refine WsR h ?_ ?_);(focus exact rfl);(clear h;intro hx h))
  | ((with_reducible refine WsC h ?_ ?_ ?_ ?_);(focus exact rfl);(focus exact rfl);(focus exact rfl);(clear h;intro hx h);(try (have hx:=hx;simp only[Int.zero_add] at hx)))
  | ((with_reducible refine WsG h ?_ ?_);(focus exact rfl);(clear h;intro hx h))
  | ((with_reducible refine WsM h ?_ ?_ ?_);(focus exact rfl);(focus exact rfl);(clear h;intro hx h))
  | ((with_reducible refine WsN h ?_ ?_);(focus exact rfl);(clear h;intro hx h))
  | ((with_reducible refine WsZ h ?_ ?_);(focus exact rfl);(clear h;intro hx h))
  | ((with_reducible refine WgI h ?_ ?_ ?_ ?_);(focus exact rfl);(focus exact rfl);(focus exact rfl);(clear h;intro hx h))
  | ((with_reducible refine WgR h ?_ ?_ ?_);(focus exact rfl);(focus exact rfl);(clear h;intro hx h))
  | ((with_reducible refine WgC h ?_ ?_ ?_ ?_ ?_);(focus exact rfl);(focus exact rfl);(focus exact rfl);(focus exact rfl);(clear h;intro hx h))
  | ((with_reducible refine WgG h ?_ ?_ ?_);(focus exact rfl);(focus exact rfl);(clear h;intro hx h))
  | ((with_reducible refine WgM h ?_ ?_ ?_ ?_);(focus exact rfl);(focus exact rfl);(focus exact rfl);(clear h;intro hx h))
  | ((with_reducible refine WgN h ?_ ?_ ?_);(focus exact rfl);(focus exact rfl);(clear h;intro hx h))
  | ((with_reducible refine WgZ h ?_ ?_ ?_);(focus exact rfl);(focus exact rfl);(clear h;intro hx h))
  | (refine Wbn h (by with_reducible assumption) ?_;clear h;intro hx hx h;(try dsimp only at h))
  | with_reducible refine Wbt ?_
  | with_reducible refine Wbf ?_
  | ((with_reducible refine Wct ?_ ?_);(focus exact rfl))
  | ((with_reducible refine Wcf ?_ ?_);(focus exact rfl))
  | ((with_reducible refine And.intro ?_ ?_);(focus exact Wob))
  | (have hx:=(jC h).1;replace h:=(jC h).2;(try (have hx:ah _=ah _:=hx;simp(disch:=first|omega|with_reducible exact qA _) only[dK] at hx)))
  | (clear k;cases h;first|done|fail)
  | (subst hN;(first|show Tr _ _ _ _|show VZ _ _ _ _ _ _ _|fail);(repeat revert hx);revert h;exact k.get)
  | (clear k;subst hN;exact atI)
  | fail
  first|done|fail):G:=h ⟨k⟩

abbrev cxW(K:List (Nat×Nat))(O:List (Nat×QW))(I:List Nat)(m:Nat)(G:List (Nat×List Gh)):Cx:=⟨tt0,⟨λf=>IK K f,λk _ _ _=>ae9 O k,λt=>Kz I t⟩,m,λr=>ghL G r⟩
section
variable {c:Code} {Q:Exit->St->Prop} {st:St} {K:List (Nat×Nat)} {O:List (Nat×QW)}
theorem Wx(I:List Nat)(m:Nat)(G:List (Nat×List Gh))(h : ∀ N,N=Q->wp (std Tryz.prog) (cxW [] [] I m G) c N st):Tr Tryz.prog c Q st:=Tr.chunk uS XO h
theorem Wk(I:List Nat)(m:Nat)(G:List (Nat×List Gh))(h : ∀ N,N=Q->wp (std Tryz.prog) (cxW K O I m G) c N st):DJ K O Tryz.prog c Q st:=Tr.chunk uS XO h
theorem Wxp(n:Nat)(I:List Nat)(m:Nat)(G:List (Nat×List Gh))(h : ∀ N,N=Q->V3 (std Tryz.prog) (cxW [] [] I m G) n c N st):Tr Tryz.prog c Q st:=Tr.pre uS XO n h
theorem Wkp(n:Nat)(I:List Nat)(m:Nat)(G:List (Nat×List Gh))(h : ∀ N,N=Q->V3 (std Tryz.prog) (cxW K O I m G) n c N st):DJ K O Tryz.prog c Q st:=Tr.pre uS XO n h
section
variable {α γ:Type} {A:Option (Fl α γ)} {k:α->Option γ} {r:γ}
theorem Wxc(n:Nat)(I:List Nat)(m:Nat)(G:List (Nat×List Gh))(h:aO A k=some r)(c0:Nat)(J U:List (Nat×Nat))(F:α->Hid->Fr)
    (hB : ∀ (x:α) (c1:Nat) (g:Nat->Nat) (t:Nat->Bool),c0<c1->(∀ k,g k<c1)->(F x ⟨c1,g,t⟩).p ()->k x=some r->Tr Tryz.prog (adw n c) Q (MF st J U F x ⟨c1,g,t⟩)) (hA : ∀ f,A=some f->∀ N,N=Ep Tryz.prog st c0 J U F r Q f->adx (std Tryz.prog) (cxW [] [] I m G) N n c st):Tr Tryz.prog c Q st:=aqD uS XO n h c0 J U F hB hA
theorem Wkc(n:Nat)(I:List Nat)(m:Nat)(G:List (Nat×List Gh))(h:aO A k=some r)(c0:Nat)(J U:List (Nat×Nat))(F:α->Hid->Fr)
    (hB : ∀ (x:α) (c1:Nat) (g:Nat->Nat) (t:Nat->Bool),c0<c1->(∀ k,g k<c1)->(F x ⟨c1,g,t⟩).p ()->k x=some r->Tr Tryz.prog (adw n c) Q (MF st J U F x ⟨c1,g,t⟩)) (hA : ∀ f,A=some f->∀ N,N=Ep Tryz.prog st c0 J U F r Q f->adx (std Tryz.prog) (cxW K O I m G) N n c st):DJ K O Tryz.prog c Q st:=aqD uS XO n h c0 J U F hB hA
end
theorem bT(n:Nat)(I:List Nat)(m:Nat)(G:List (Nat×List Gh)){L:Prop}(h:L->∀ N,N=Q->V3 (std Tryz.prog) (cxW [] [] I m G) n c N st):L->Tr Tryz.prog c Q st:=λl=>Tr.pre uS XO n (h l)
theorem kK(n:Nat)(I:List Nat)(m:Nat)(G:List (Nat×List Gh)){L:Prop}(h:L->∀ N,N=Q->V3 (std Tryz.prog) (cxW K O I m G) n c N st):L->DJ K O Tryz.prog c Q st:=λl=>Tr.pre uS XO n (h l)
end
theorem bf{f:FuncId}{args:List D}{res:D}{fn:Func}(hf:Tryz.prog.funcs[f]? = some fn)(h : ∀ ctr,0<ctr->Tr Tryz.prog (tC fn) (YL (std Tryz.prog) tt0 fn.results.toList res) (door args fn.ntmps ctr)) (hn:(fn.name == "runtime.NumGoroutine")=false:=by kernel_rfl) (hb:fn.body=some (tC fn):=by kernel_rfl):d9 Tryz.prog f args res:=aqE uS hf hn hb h
abbrev Pf(f:FuncId)(a:List D)(d:D):Prop:=d9 Tryz.prog f a d
theorem QX{f:FuncId}{args:List D}{pre post:List Ob}{res:D}{fn:Func}(hf:Tryz.prog.funcs[f]? = some fn)(c:Code)(h : ∀ ctr,0<ctr->Tr Tryz.prog c (LB (std Tryz.prog) tt0 fn.results.toList post res) (ady args pre fn.ntmps ctr)) (hn:(fn.name == "runtime.NumGoroutine")=false:=by kernel_rfl) (hb:fn.body=some c:=by kernel_rfl) (hl:post.length=pre.length:=by rfl):lK Tryz.prog f args pre post res:=arV uS hf hn hb hl h
theorem avZ(t x a d:Nat){α γ:Type}{n:Int}{A1 A2:Option (Fl α γ)}{k:α->Option γ}{r:γ}(h:oH n (aO A1 k) (aO A2 k)=some r)(c0:Nat)(J U:List (Nat×Nat))(F:α->Hid->Fr){ti:TI}{e:TypeId}{id:Nat}{oa od:Oper}{yt:TypeId}{ca b:Code}{Q:Exit->St->Prop}{st:St}{sz:Nat}{tight:Bool}{f:Int->Nat->D}
    (hB : ∀ (x:α) (c1:Nat) (g:Nat->Nat) (t:Nat->Bool),c0<c1->(∀ k,g k<c1)->(F x ⟨c1,g,t⟩).p ()->k x=some r->Tr Tryz.prog b Q (MF st J U F x ⟨c1,g,t⟩))
    (h1:n=0->∀ f,A1=some f->Tr Tryz.prog ca (Ep Tryz.prog st c0 J U F r Q f) ⟨(st.slots.set a .junk).set d (.v (.bool true)),st.objs,st.ctr⟩)
    (h2 : ∀ f,A2=some f->Tr Tryz.prog ca (Ep Tryz.prog st c0 J U F r Q f) ⟨(st.slots.set a .junk).set d (.v (.bool false)),st.objs,st.ctr⟩)
    (ht:iB tt0 t=some ti:=by rfl) (hk:ti.kind = .slice e:=by rfl) (ha:oa.op = .move (.tmp x)/\oa.dst=some a/\oa.guard=none:=by exact⟨rfl,rfl,rfl⟩) (hd:od.op = .binOp .eql t (.tmp a) (.const (.slice none 0 0)) yt/\od.dst=some d/\od.guard=none:=by exact⟨rfl,rfl,rfl⟩)
    (hs:st.slots.getD x .junk = .sl sz n tight f:=by rfl) (hal:a<st.slots.length:=by exact of_decide_eq_true rfl):Tr Tryz.prog (.seq (.seq (.region id #[oa,od] false) ca) b) Q st:=arW uS h c0 J U F ht hk ha hd hs hal hB h1 h2
end Go.Vx
