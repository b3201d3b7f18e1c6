/- Lifted functions, by program (lift.py). -/
import Derived.Test.YtckmalogclklmaaGreatDoorVxCut
import Derived.Lib.Bytealg
set_option linter.all false
namespace Go.Vx
structure jG where
 U4:Int
 aci:Int
def j6:jG:=⟨0,0⟩
instance:Inhabited jG:=⟨j6⟩
structure dK where
 fLo:Int
 fHi:Int
 fV:Int
def lJ:dK:=⟨0,0,0⟩
instance:Inhabited dK:=⟨lJ⟩
structure eY where
 fL:(List dK)
def wP:eY:=⟨[]⟩
instance:Inhabited eY:=⟨wP⟩
structure gy where
 fA:Int
 fB:Int
def zM:gy:=⟨0,0⟩
instance:Inhabited gy:=⟨zM⟩
structure gI where
 fR:Int
 ko:Int
 fN:Int
def zN:gI:=⟨0,0,0⟩
instance:Inhabited gI:=⟨zN⟩
structure dz where
 Zh:eY
 acj:eY
 acn:eY
 abv:(List gy)
 X0:(List gy)
 Oj:(List gI)
def acI:dz:=⟨wP,wP,wP,[],[],[]⟩
instance:Inhabited dz:=⟨acI⟩
structure bS where
 fH:Int
 fW:Int
 jO:Int
 eZ:Int
def Ip:bS:=⟨0,0,0,0⟩
instance:Inhabited bS:=⟨Ip⟩
structure qB where
 x0:Int
 x1:Int
 x2:Int
 x3:Int
def OC:qB:=⟨0,0,0,0⟩
instance:Inhabited qB:=⟨OC⟩
structure eG where
 fG:qB
 jH:Int
 kr:Int
 fq:Int
def Iq:eG:=⟨OC,0,0,0⟩
instance:Inhabited eG:=⟨Iq⟩
structure fZ where
 jP:Int
 jQ:Int
 dU:Int
def lq:fZ:=⟨0,0,0⟩
instance:Inhabited fZ:=⟨lq⟩
structure cB where
 fX:Int
 fY:Int
 bX:Bool
 dH:Bool
 bI:fZ
 aN:eG
def vF:cB:=⟨0,0,false,false,lq,Iq⟩
instance:Inhabited cB:=⟨vF⟩
structure iV where
 x0:Int
 x1:Int
def iL:iV:=⟨0,0⟩
instance:Inhabited iV:=⟨iL⟩
structure aV where
 fR:Int
 fM:iV
 fW:Int
 bI:fZ
def aD:aV:=⟨0,iL,0,lq⟩
instance:Inhabited aV:=⟨aD⟩
structure aQ where
 aH:(List aV)
 bX:Bool
 dJ:Int
 bL:Bool
def aA:aQ:=⟨[],false,0,false⟩
instance:Inhabited aQ:=⟨aA⟩
structure eP where
 aS:(List aQ)
def SS:eP:=⟨[]⟩
instance:Inhabited eP:=⟨SS⟩
structure eF where
 fL:(List Int)
 fW:Int
def OD:eF:=⟨[],0⟩
instance:Inhabited eF:=⟨OD⟩
structure dS where
 aS:(List aQ)
 iF:Int
def wQ:dS:=⟨[],0⟩
instance:Inhabited dS:=⟨wQ⟩
structure bK where
 fG:eP
 fC:cB
 fR:bS
 fT:eF
 fK:dS
 dJ:Int
 bL:Bool
def Ag:bK:=⟨SS,vF,Ip,OD,wQ,0,false⟩
instance:Inhabited bK:=⟨Ag⟩
structure iJ where
 mV:Int
def NH:iJ:=⟨0⟩
instance:Inhabited iJ:=⟨NH⟩
structure dG where
 gU:Bool
 fn:Int
def dR:dG:=⟨false,0⟩
instance:Inhabited dG:=⟨dR⟩
structure qC where
 x0:dG
 x1:dG
 x2:dG
 x3:dG
 x4:dG
 x5:dG
 x6:dG
 x7:dG
 x8:dG
 x9:dG
 x10:dG
 x11:dG
 x12:dG
 x13:dG
 x14:dG
 x15:dG
 x16:dG
 x17:dG
 x18:dG
 x19:dG
 x20:dG
 x21:dG
 x22:dG
 x23:dG
def OE:qC:=⟨dR,dR,dR,dR,dR,dR,dR,dR,dR,dR,dR,dR,dR,dR,dR,dR,dR,dR,dR,dR,dR,dR,dR,dR⟩
instance:Inhabited qC:=⟨OE⟩
structure fO where
 x0:cB
 x1:cB
def Ah:fO:=⟨vF,vF⟩
instance:Inhabited fO:=⟨Ah⟩
structure bf where
 aR:bK
 aT:bK
 pX:Bool
 fM:iJ
 aK:fO
 lK:(List Int)
 kY:ByteArray
 lM:Int
def J6:bf:=⟨Ag,Ag,false,NH,Ah,[],ByteArray.empty,0⟩
instance:Inhabited bf:=⟨J6⟩
structure kK where
 fB:(List Int)
def Dk:kK:=⟨[]⟩
instance:Inhabited kK:=⟨Dk⟩
structure iA where
 fL:(List (List Int))
 fOpen:Bool
def yF:iA:=⟨[],false⟩
instance:Inhabited iA:=⟨yF⟩
structure dA where
 ko:Int
 jD:ByteArray
 vw:Bool
 eu:iA
 fText:ByteArray
 vB:Int
def qj:dA:=⟨0,ByteArray.empty,false,yF,ByteArray.empty,0⟩
instance:Inhabited dA:=⟨qj⟩
structure bP where
 fU:kK
 fP:dA
 fS:bf
 jl:Int
def aaZ:bP:=⟨Dk,qj,J6,0⟩
instance:Inhabited bP:=⟨aaZ⟩
structure mK where
 fb:(List Int)
def WV:mK:=⟨[]⟩
instance:Inhabited mK:=⟨WV⟩
structure uG where
 vB:Int
 abw:Int
 agL:Int
 fX:Int
 fY:Int
def yG:uG:=⟨0,0,0,0,0⟩
instance:Inhabited uG:=⟨yG⟩
structure kR where
 Ib:Int
 fA:Int
 fB:Int
 fC:Int
 fD:Int
 Zi:(List Int)
 Oo:uG
def Ll:kR:=⟨0,0,0,0,0,[],yG⟩
instance:Inhabited kR:=⟨Ll⟩
structure dw where
 Ib:Int
 fR:Int
 aed:Int
 jD:ByteArray
 eu:(List (List Int))
 fText:ByteArray
def vP:dw:=⟨0,0,0,ByteArray.empty,[],ByteArray.empty⟩
instance:Inhabited dw:=⟨vP⟩
structure bJ where
 aee:ByteArray
 aef:Int
 fdo:FV
def uH:bJ:=⟨ByteArray.empty,0,WW⟩
instance:Inhabited bJ:=⟨uH⟩
structure j4 where
 j5:Int
 ko:Int
def J7:j4:=⟨0,0⟩
instance:Inhabited j4:=⟨J7⟩
structure aI where
 aH:(List aV)
 dJ:Int
 bL:Bool
def aC:aI:=⟨[],0,false⟩
instance:Inhabited aI:=⟨aC⟩
structure qD where
 fl:(List Int)
def OG:qD:=⟨[]⟩
instance:Inhabited qD:=⟨OG⟩
structure iw where
 aeg:Int
 X3:Int
 afk:Bool
def rP:iw:=⟨0,0,false⟩
instance:Inhabited iw:=⟨rP⟩
structure iK where
 fl:(List iw)
def Ir:iK:=⟨[]⟩
instance:Inhabited iK:=⟨Ir⟩
structure iN where
 iY:(List Int)
 lN:(List Int)
 jm:(List Bool)
def SV:iN:=⟨[],[],[]⟩
instance:Inhabited iN:=⟨SV⟩
structure kF where
 fl:(List Int)
 JY:(List Int)
 ET:Int
 kU:iN
 zU:iK
 Dz:Int
 xM:Int
 Oq:Int
def Vo:kF:=⟨[],[],0,SV,Ir,0,0,0⟩
instance:Inhabited kF:=⟨Vo⟩
structure gu where
 fl:(List Int)
 xE:Int
def aa0:gu:=⟨[],0⟩
instance:Inhabited gu:=⟨aa0⟩
structure oJ where
 fl:(List Int)
 aco:(List Int)
 xE:Int
 acp:Int
 acr:Int
 TH:Int
 Ot:(List iV)
def aa1:oJ:=⟨[],[],0,0,0,0,[]⟩
instance:Inhabited oJ:=⟨aa1⟩
structure jR where
 YS:Int
 fto:Int
 Rt:(List Int)
 Rw:(List Int)
 ET:Int
def TP:jR:=⟨0,0,[],[],0⟩
instance:Inhabited jR:=⟨TP⟩
structure kM where
 aiC:(List Int)
 afl:(List Int)
 aH:(List aV)
 alP:Int
def aa2:kM:=⟨[],[],[],0⟩
instance:Inhabited kM:=⟨aa2⟩
structure jo where
 fG:qB
 jH:Int
 kr:Int
 fq:Int
def Ai:jo:=⟨OC,0,0,0⟩
instance:Inhabited jo:=⟨Ai⟩
structure dY where
 fX:Int
 fY:Int
 bX:Bool
 dH:Bool
 bI:fZ
 aN:jo
def nR:dY:=⟨0,0,false,false,lq,Ai⟩
instance:Inhabited dY:=⟨nR⟩
structure jK where
 aS:(List aQ)
def Bv:jK:=⟨[]⟩
instance:Inhabited jK:=⟨Bv⟩
structure iZ where
 fH:Int
 fW:Int
 jO:Int
 eZ:Int
def zx:iZ:=⟨0,0,0,0⟩
instance:Inhabited iZ:=⟨zx⟩
structure fQ where
 fL:(List Int)
 fW:Int
def Aj:fQ:=⟨[],0⟩
instance:Inhabited fQ:=⟨Aj⟩
structure gL where
 aS:(List aQ)
 iF:Int
def Bw:gL:=⟨[],0⟩
instance:Inhabited gL:=⟨Bw⟩
structure dP where
 fG:jK
 fC:dY
 fR:iZ
 fT:fQ
 fK:gL
 dJ:Int
 bL:Bool
def rV:dP:=⟨Bv,nR,zx,Aj,Bw,0,false⟩
instance:Inhabited dP:=⟨rV⟩
structure jq where
 mV:Int
def Ak:jq:=⟨0⟩
instance:Inhabited jq:=⟨Ak⟩
structure gV where
 x0:dY
 x1:dY
def uI:gV:=⟨nR,nR⟩
instance:Inhabited gV:=⟨uI⟩
structure eX where
 aR:dP
 aT:dP
 pX:Bool
 fM:jq
 aK:gV
 lK:(List Int)
 kY:ByteArray
 lM:Int
def Am:eX:=⟨rV,rV,false,Ak,uI,[],ByteArray.empty,0⟩
instance:Inhabited eX:=⟨Am⟩
structure jr where
 fB:(List Int)
def Ao:jr:=⟨[]⟩
instance:Inhabited jr:=⟨Ao⟩
structure jL where
 fL:(List (List Int))
 fOpen:Bool
def Bz:jL:=⟨[],false⟩
instance:Inhabited jL:=⟨Bz⟩
structure gF where
 ko:Int
 jD:ByteArray
 vw:Bool
 eu:jL
 fText:ByteArray
 vB:Int
def Ap:gF:=⟨0,ByteArray.empty,false,Bz,ByteArray.empty,0⟩
instance:Inhabited gF:=⟨Ap⟩
structure dV where
 fU:jr
 fP:gF
 fS:eX
 jl:Int
def mI:dV:=⟨Ao,Ap,Am,0⟩
instance:Inhabited dV:=⟨mI⟩
def kS0:ByteArray:=(⟨#[76,32,82,32,65,76,32,69,78,32,69,83,32,69,84,32,65,78,32,67,83,32,78,83,77,32,66,78,32,66,32,83,32,87,83,32,79,78,32,76,82,69,32,76,82,79,32,82,76,69,32,82,76,79,32,80,68,70,32,76,82,73,32,82,76,73,32,70,83,73,32,80,68,73]⟩:ByteArray)
def kS1:ByteArray:=(⟨#[48,45,56,32,66,78,44,32,57,32,83,44,32,65,32,66,44,32,66,32,83,44,32,67,32,87,83,44,32,68,32,66,44,32,69,45,49,66,32,66,78,44,32,49,67,45,49,69,32,66,44,32,49,70,32,83,44,32,50,48,32,87,83,44,10,50,49,45,50,50,32,79,78,44,32,50,51,45,50,53,32,69,84,44,32,50,54,45,50,65,32,79,78,44,32,50,66,32,69,83,44,32,50,67,32,67,83,44,32,50,68,32,69,83,44,32,50,69,45,50,70,32,67,83,44,32,51,48,45,51,57,32,69,78,44,32,51,65,32,67,83,44,32,51,66,45,52,48,32,79,78,44,10,53,66,45,54,48,32,79,78,44,32,55,66,45,55,69,32,79,78,44,32,55,70,45,56,52,32,66,78,44,32,56,53,32,66,44,32,56,54,45,57,70,32,66,78,44,32,65,48,32,67,83,44,32,65,49,32,79,78,44,32,65,50,45,65,53,32,69,84,44,32,65,54,45,65,57,32,79,78,44,32,65,66,45,65,67,32,79,78,44,10,65,68,32,66,78,44,32,65,69,45,65,70,32,79,78,44,32,66,48,45,66,49,32,69,84,44,32,66,50,45,66,51,32,69,78,44,32,66,52,32,79,78,44,32,66,54,45,66,56,32,79,78,44,32,66,57,32,69,78,44,32,66,66,45,66,70,32,79,78,44,32,68,55,32,79,78,44,32,70,55,32,79,78,44,10,51,48,48,45,51,54,70,32,78,83,77,44,32,53,57,48,32,82,44,32,53,57,49,45,53,66,68,32,78,83,77,44,32,53,66,69,32,82,44,32,53,66,70,32,78,83,77,44,32,53,67,48,32,82,44,32,53,67,49,45,53,67,50,32,78,83,77,44,32,53,67,51,32,82,44,32,53,67,52,45,53,67,53,32,78,83,77,44,32,53,67,54,32,82,44,10,53,67,55,32,78,83,77,44,32,53,67,56,45,53,70,70,32,82,44,32,54,48,48,45,54,48,53,32,65,78,44,32,54,48,54,45,54,48,55,32,79,78,44,32,54,48,56,32,65,76,44,32,54,48,57,45,54,48,65,32,69,84,44,32,54,48,66,32,65,76,44,32,54,48,67,32,67,83,44,32,54,48,68,32,65,76,44,32,54,48,69,45,54,48,70,32,79,78,44,10,54,49,48,45,54,49,65,32,78,83,77,44,32,54,49,66,45,54,52,65,32,65,76,44,32,54,52,66,45,54,53,70,32,78,83,77,44,32,54,54,48,45,54,54,57,32,65,78,44,32,54,54,65,32,69,84,44,32,54,54,66,45,54,54,67,32,65,78,44,32,54,54,68,45,54,54,70,32,65,76,44,32,54,55,48,32,78,83,77,44,32,54,55,49,45,54,68,53,32,65,76,44,32,54,68,54,45,54,68,67,32,78,83,77,44,10,54,68,68,32,65,78,44,32,54,68,69,32,79,78,44,32,54,68,70,45,54,69,52,32,78,83,77,44,32,54,69,53,45,54,69,54,32,65,76,44,32,54,69,55,45,54,69,56,32,78,83,77,44,32,54,69,57,32,79,78,44,32,54,69,65,45,54,69,68,32,78,83,77,44,32,54,69,69,45,54,69,70,32,65,76,44,32,54,70,48,45,54,70,57,32,69,78,44,32,54,70,65,45,54,70,70,32,65,76,44,10,50,48,48,48,45,50,48,48,65,32,87,83,44,32,50,48,48,66,45,50,48,48,68,32,66,78,44,32,50,48,48,70,32,82,44,32,50,48,49,48,45,50,48,50,55,32,79,78,44,32,50,48,50,56,32,87,83,44,32,50,48,50,57,32,66,44,32,50,48,50,65,32,76,82,69,44,32,50,48,50,66,32,82,76,69,44,32,50,48,50,67,32,80,68,70,44,32,50,48,50,68,32,76,82,79,44,10,50,48,50,69,32,82,76,79,44,32,50,48,50,70,32,67,83,44,32,50,48,51,48,45,50,48,51,52,32,69,84,44,32,50,48,51,53,45,50,48,52,51,32,79,78,44,32,50,48,52,52,32,67,83,44,32,50,48,52,53,45,50,48,53,69,32,79,78,44,32,50,48,53,70,32,87,83,44,32,50,48,54,48,45,50,48,54,53,32,66,78,44,32,50,48,54,54,32,76,82,73,44,32,50,48,54,55,32,82,76,73,44,10,50,48,54,56,32,70,83,73,44,32,50,48,54,57,32,80,68,73,44,32,50,48,54,65,45,50,48,54,70,32,66,78,44,32,50,49,57,48,45,50,50,49,49,32,79,78,44,32,50,50,49,50,32,69,83,44,32,50,50,49,51,32,69,84,44,32,50,50,49,52,45,50,51,51,53,32,79,78,44,32,50,53,48,48,45,50,53,57,70,32,79,78,44,32,51,48,48,48,32,87,83,44,32,51,48,48,49,45,51,48,48,52,32,79,78,44,10,51,48,48,56,45,51,48,50,48,32,79,78,44,32,70,66,49,68,32,82,44,32,70,66,49,69,32,78,83,77,44,32,70,66,49,70,45,70,66,50,56,32,82,44,32,70,66,50,57,32,69,83,44,32,70,66,50,65,45,70,66,52,70,32,82,44,32,70,66,53,48,45,70,68,67,70,32,65,76,44,32,70,69,55,48,45,70,69,70,69,32,65,76,44,32,70,69,70,70,32,66,78,44,32,70,70,70,57,45,70,70,70,68,32,79,78]⟩:ByteArray)
def kS2:ByteArray:=(⟨#[51,48,48,45,51,54,70,32,48,44,32,53,57,49,45,53,66,68,32,48,44,32,53,66,70,32,48,44,32,53,67,49,45,53,67,50,32,48,44,32,53,67,52,45,53,67,53,32,48,44,32,53,67,55,32,48,44,32,54,49,48,45,54,49,65,32,48,44,32,54,52,66,45,54,53,70,32,48,44,32,54,55,48,32,48,44,32,54,68,54,45,54,68,67,32,48,44,10,54,68,70,45,54,69,52,32,48,44,32,54,69,55,45,54,69,56,32,48,44,32,54,69,65,45,54,69,68,32,48,44,32,49,49,48,48,45,49,49,53,70,32,50,44,32,50,48,48,66,45,50,48,48,70,32,48,44,32,50,48,50,65,45,50,48,50,69,32,48,44,32,50,48,54,48,45,50,48,54,70,32,48,44,32,50,69,56,48,45,51,48,51,69,32,50,44,32,51,48,52,49,45,65,52,67,70,32,50,44,32,65,67,48,48,45,68,55,65,51,32,50,44,10,70,57,48,48,45,70,65,70,70,32,50,44,32,70,66,49,69,32,48,44,32,70,69,51,48,45,70,69,54,70,32,50,44,32,70,69,70,70,32,48,44,32,70,70,48,48,45,70,70,54,48,32,50,44,32,70,70,69,48,45,70,70,69,54,32,50,44,32,49,70,51,48,48,45,49,70,54,52,70,32,50,44,32,49,70,57,48,48,45,49,70,57,70,70,32,50,44,32,50,48,48,48,48,45,51,70,70,70,68,32,50]⟩:ByteArray)
def kS3:ByteArray:=(⟨#[51,48,48,45,51,54,70,32,84,44,32,53,57,49,45,53,66,68,32,84,44,32,53,66,70,32,84,44,32,53,67,49,45,53,67,50,32,84,44,32,53,67,52,45,53,67,53,32,84,44,32,53,67,55,32,84,44,32,54,49,48,45,54,49,65,32,84,44,32,54,50,48,32,68,44,32,54,50,50,45,54,50,53,32,82,44,32,54,50,54,32,68,44,10,54,50,55,32,82,44,32,54,50,56,32,68,44,32,54,50,57,32,82,44,32,54,50,65,45,54,50,69,32,68,44,32,54,50,70,45,54,51,50,32,82,44,32,54,51,51,45,54,51,70,32,68,44,32,54,52,48,32,67,44,32,54,52,49,45,54,52,55,32,68,44,32,54,52,56,45,54,52,57,32,82,44,32,54,52,65,32,68,44,10,54,52,66,45,54,53,70,32,84,44,32,54,54,69,45,54,54,70,32,68,44,32,54,55,48,32,84,44,32,54,55,49,45,54,55,51,32,82,44,32,54,55,53,45,54,55,55,32,82,44,32,54,55,56,45,54,56,55,32,68,44,32,54,56,56,45,54,57,57,32,82,44,32,54,57,65,45,54,66,70,32,68,44,32,54,67,48,32,82,44,32,54,67,49,45,54,67,50,32,68,44,10,54,67,51,45,54,67,66,32,82,44,32,54,67,67,32,68,44,32,54,67,68,32,82,44,32,54,67,69,32,68,44,32,54,67,70,32,82,44,32,54,68,48,45,54,68,49,32,68,44,32,54,68,50,45,54,68,51,32,82,44,32,54,68,53,32,82,44,32,54,68,54,45,54,68,67,32,84,44,32,54,68,70,45,54,69,52,32,84,44,10,54,69,55,45,54,69,56,32,84,44,32,54,69,65,45,54,69,68,32,84,44,32,54,69,69,45,54,69,70,32,82,44,32,54,70,65,45,54,70,67,32,68,44,32,54,70,70,32,68,44,32,50,48,48,66,32,84,44,32,50,48,48,68,32,67,44,32,70,66,49,69,32,84]⟩:ByteArray)
def kS4:ByteArray:=(⟨#[50,56,32,50,57,44,32,51,67,32,51,69,44,32,53,66,32,53,68,44,32,55,66,32,55,68,44,32,65,66,32,66,66,44,32,50,48,51,57,32,50,48,51,65,44,32,50,50,48,56,32,50,50,48,66,44,32,50,50,54,52,32,50,50,54,53,44,32,51,48,48,56,32,51,48,48,57,44,32,51,48,48,65,32,51,48,48,66,44,32,51,48,48,67,32,51,48,48,68,44,32,51,48,48,69,32,51,48,48,70,44,10,51,48,49,48,32,51,48,49,49,44,32,50,53,48,67,32,50,53,49,48,44,32,50,53,48,70,32,50,53,49,51,44,32,50,53,49,52,32,50,53,49,56,44,32,50,53,49,55,32,50,53,49,66,44,32,50,53,49,67,32,50,53,50,52,44,32,50,53,50,51,32,50,53,50,66,44,32,50,53,53,52,32,50,53,53,55,44,32,50,53,53,65,32,50,53,53,68,44,32,50,53,54,48,32,50,53,54,51,44,32,50,53,54,68,32,50,53,54,69,44,32,50,53,55,48,32,50,53,54,70,44,10,50,53,55,49,32,50,53,55,50,44,32,50,53,55,52,32,50,53,55,54,44,32,50,53,56,67,32,50,53,57,48]⟩:ByteArray)
def kS5:ByteArray:=(⟨#[50,56,32,50,57,44,32,53,66,32,53,68,44,32,55,66,32,55,68,44,32,51,48,48,56,32,51,48,48,57,44,32,51,48,48,65,32,51,48,48,66,44,32,51,48,48,67,32,51,48,48,68,44,32,51,48,48,69,32,51,48,48,70,44,32,51,48,49,48,32,51,48,49,49]⟩:ByteArray)
def kS6:ByteArray:=(⟨#[54,50,49,32,70,69,56,48,32,49,44,32,54,50,50,32,70,69,56,49,32,50,44,32,54,50,51,32,70,69,56,51,32,50,44,32,54,50,52,32,70,69,56,53,32,50,44,32,54,50,53,32,70,69,56,55,32,50,44,32,54,50,54,32,70,69,56,57,32,52,44,32,54,50,55,32,70,69,56,68,32,50,44,32,54,50,56,32,70,69,56,70,32,52,44,32,54,50,57,32,70,69,57,51,32,50,44,32,54,50,65,32,70,69,57,53,32,52,44,10,54,50,66,32,70,69,57,57,32,52,44,32,54,50,67,32,70,69,57,68,32,52,44,32,54,50,68,32,70,69,65,49,32,52,44,32,54,50,69,32,70,69,65,53,32,52,44,32,54,50,70,32,70,69,65,57,32,50,44,32,54,51,48,32,70,69,65,66,32,50,44,32,54,51,49,32,70,69,65,68,32,50,44,32,54,51,50,32,70,69,65,70,32,50,44,32,54,51,51,32,70,69,66,49,32,52,44,32,54,51,52,32,70,69,66,53,32,52,44,10,54,51,53,32,70,69,66,57,32,52,44,32,54,51,54,32,70,69,66,68,32,52,44,32,54,51,55,32,70,69,67,49,32,52,44,32,54,51,56,32,70,69,67,53,32,52,44,32,54,51,57,32,70,69,67,57,32,52,44,32,54,51,65,32,70,69,67,68,32,52,44,32,54,52,49,32,70,69,68,49,32,52,44,32,54,52,50,32,70,69,68,53,32,52,44,32,54,52,51,32,70,69,68,57,32,52,44,32,54,52,52,32,70,69,68,68,32,52,44,10,54,52,53,32,70,69,69,49,32,52,44,32,54,52,54,32,70,69,69,53,32,52,44,32,54,52,55,32,70,69,69,57,32,52,44,32,54,52,56,32,70,69,69,68,32,50,44,32,54,52,57,32,70,69,69,70,32,50,44,32,54,52,65,32,70,69,70,49,32,52]⟩:ByteArray)
def kS7:ByteArray:=(⟨#[48,49,50,51,52,53,54,55,56,57,97,98,99,100,101,102,103,104,105,106,107,108,109,110,111,112,113,114,115,116,117,118,119,120,121,122]⟩:ByteArray)
def kS8:ByteArray:=(⟨#[0,1,2,2,3,3,3,3,4,4,4,4,4,4,4,4,5,5,5,5,5,5,5,5,5,5,5,5,5,5,5,5,6,6,6,6,6,6,6,6,6,6,6,6,6,6,6,6,6,6,6,6,6,6,6,6,6,6,6,6,6,6,6,6,7,7,7,7,7,7,7,7,7,7,7,7,7,7,7,7,7,7,7,7,7,7,7,7,7,7,7,7,7,7,7,7,7,7,7,7,7,7,7,7,7,7,7,7,7,7,7,7,7,7,7,7,7,7,7,7,7,7,7,7,7,7,7,7,8,8,8,8,8,8,8,8,8,8,8,8,8,8,8,8,8,8,8,8,8,8,8,8,8,8,8,8,8,8,8,8,8,8,8,8,8,8,8,8,8,8,8,8,8,8,8,8,8,8,8,8,8,8,8,8,8,8,8,8,8,8,8,8,8,8,8,8,8,8,8,8,8,8,8,8,8,8,8,8,8,8,8,8,8,8,8,8,8,8,8,8,8,8,8,8,8,8,8,8,8,8,8,8,8,8,8,8,8,8,8,8,8,8,8,8,8,8,8,8,8,8,8,8,8,8,8,8]⟩:ByteArray)
def Br (s:ByteArray) (c:Int):Option Int:=some (Lib.countByte s.data.toList c.toNat.toUInt8:Nat)
def JW (l:List aQ):Nat→Int→Int
 | 0,x=>x
 | n+1,x=>if 0≤x-1∧(au aA l (x-1)).bX=true then JW l n (x-1) else x
def H9 (l:List aQ):Nat→Int→Int
 | 0,x=>x
 | n+1,x=>if x < ah l∧(au aA l (x-1)).bX=true then H9 l n (x+1) else x
def Lj (l:List aQ) (y:Int):Option (Int × Int):=if 0≤y∧y≤ah l∧ah l < 4611686018427387904 then some (JW l 31 y,H9 l 32 (y+1)) else none
def SX:Option (List (Int × Int)):=some [(1,1),(2,3),(3,3)]
def xu (s:ByteArray) (c:Int):Option Int:=some (Lib.indexByte s.data.toList c.toNat.toUInt8)
noncomputable def stringslite_IndexByte (s:ByteArray) (c':Int):Option Int :=
 av (xu s c') fun v =>
 some v
noncomputable def stringslite_Index (s:ByteArray) (substr:ByteArray):Option Int :=
 let n:=(cZ substr)
 ay (if (n == 0)=true then true else (mD substr s))
  (none)
  (ay (n == 1)
   (chk ((0:Int)≤0∧(0:Int) < (cZ substr)) <|
    av (stringslite_IndexByte s (lC substr 0)) fun v =>
    some v)
   (none))
noncomputable def strings_Index (s:ByteArray) (substr:ByteArray):Option Int :=
 av (stringslite_Index s substr) fun v =>
 some v
noncomputable def strings_Count (s:ByteArray) (substr:ByteArray):Option Int :=
 ay ((cZ substr) == 0)
  (none)
  (ay ((cZ substr) == 1)
   (chk ((0:Int)≤0∧(0:Int) < (cZ substr)) <|
    av (Br s (lC substr 0)) fun v =>
    some v)
   (none))
noncomputable def strings_genSplit (s:ByteArray) (sep:ByteArray) (sepSave:Int) (n:Int):Option (List ByteArray) :=
 ay (n == 0)
  (none)
  (ay (mD sep (⟨#[]⟩:ByteArray))
   (none)
   (aM (ay (decide (n < 0))
     (av (strings_Count s sep) fun v1 =>
      chk (aW .i64 (v1+1)) <|
      let n4:=(v1+1)
      some (.go n4))
     (some (.go n))) fun n1 =>
    chk (aW .i64 ((cZ s)+1)) <|
    let n2:=(bH n1 ((cZ s)+1))
    chk (gK 16 n2 n2) <|
    chk (aW .i64 (n2-1)) <|
    let n3:=(n2-1)
    aM (bD (fun ((s2,i1,a1):ByteArray × Int × List ByteArray) =>
     ay (decide (i1 < n3))
      (av (strings_Index s2 sep) fun v =>
       ay (decide (v < 0))
        (some (.out (.go (s2,i1,a1))))
        (chk (aW .i64 (v+sepSave)) <|
         chk ((0:Int)≤0∧(0:Int)≤(v+sepSave)∧(v+sepSave)≤(cZ s2)) <|
         chk (0≤i1∧i1 < n2) <|
         chk (aW .i64 (v+(cZ sep))) <|
         chk (0≤(v+(cZ sep))∧(v+(cZ sep))≤(cZ s2)∧(cZ s2)≤(cZ s2)) <|
         let s3:=(Dl s2 (v+(cZ sep)) (cZ s2))
         chk (aW .i64 (i1+1)) <|
         let i2:=(i1+1)
         some (.go (s3,i2,(eB a1 i1 (Dl s2 0 (v+sepSave)))))))
      (some (.out (.go (s2,i1,a1))))) (s,0,(iG n2 ByteArray.empty))) fun (s1,i,a) =>
    chk (0≤i∧i < n2) <|
    chk (aW .i64 (i+1)) <|
    chk ((0:Int)≤0∧(0:Int)≤(i+1)∧(i+1)≤n2) <|
    some (jw (eB a i s1) (0+0) ((0+0)+((i+1)-0)))))
noncomputable def strings_Split (s:ByteArray) (sep:ByteArray):Option (List ByteArray) :=
 av (strings_genSplit s sep 0 (-1)) fun v =>
 some v
noncomputable def Jy (c':Int):Option Bool :=
 some (if (if (c' == 32)=true then true else (c' == 10))=true then true else (c' == 45))
noncomputable def rW (s:ByteArray):Option (List ByteArray) :=
 chk (gK 16 0 32) <|
 aM (bD (fun ((Aq,xW,pos):Int × List jG × Int) =>
  ay (decide (pos < (cZ s)))
   (let rune:=(Rz s pos)
    av (Jy rune) fun v1 =>
    ay v1
     (ay (decide (0≤Aq))
      (chk (dL 16 ((ah xW)+1)) <|
       let ai1:=(Y0 .i64 (-1) Aq)
       some (.go (ai1,(xW++([(jG.mk Aq pos)]:List jG)),(if (decide (pos < (cZ s)))=true then (pos+(Dm s pos)) else pos))))
      (some (.go (Aq,xW,(if (decide (pos < (cZ s)))=true then (pos+(Dm s pos)) else pos)))))
     (ay (decide (Aq < 0))
      (some (.go (pos,xW,(if (decide (pos < (cZ s)))=true then (pos+(Dm s pos)) else pos))))
      (some (.go (Aq,xW,(if (decide (pos < (cZ s)))=true then (pos+(Dm s pos)) else pos))))))
   (some (.out (.go (Aq,xW))))) ((-1),(iG 0 j6),0)) fun (start,spans) =>
 aM (ay (decide (0≤start))
  (chk (dL 16 ((ah spans)+1)) <|
   some (.go (spans++([(jG.mk start (cZ s))]:List jG))))
  (some (.go spans))) fun kP =>
 chk (gK 16 (ah kP) (ah kP)) <|
 aM (bD (fun ((v,a1):Int × List ByteArray) =>
  ay (decide (v < (ah kP)))
   (chk (0≤v∧v < (ah kP)) <|
    chk (0≤(au j6 kP (0+v)).U4∧(au j6 kP (0+v)).U4≤(au j6 kP (0+v)).aci∧(au j6 kP (0+v)).aci≤(cZ s)) <|
    chk (0≤v∧v < (ah kP)) <|
    chk (aW .i64 (v+1)) <|
    some (.go ((v+1),(eB a1 v (Dl s (au j6 kP (0+v)).U4 (au j6 kP (0+v)).aci)))))
   (some (.out (.go a1)))) (0,(iG (ah kP) ByteArray.empty))) fun a =>
 some a
noncomputable def vT (e:ByteArray):Option (List ByteArray) :=
 av (rW e) fun v =>
 some v
noncomputable def uJ (c':Int):Option Int :=
 some (afA .u8 c' 32)
def zy (a0:ByteArray):Option Bool:=none
noncomputable def vU (s:ByteArray) (base:Int) (bitSize:Int):Option (Int × Unit) :=
 ay (mD s (⟨#[]⟩:ByteArray))
  (none)
  (let base0:=(base == 0)
   aM (ay (if (decide (2≤base))=true then (decide (base≤36)) else false)
    (some (.go ()))
    (none)) fun (_:Unit) =>
   aM (ay (bitSize == 0)
    (none)
    (ay (if (decide (bitSize < 0))=true then true else (decide (64 < bitSize)))
     (none)
     (some (.go ())))) fun (_:Unit) =>
   aM (ay (base == 10)
    (none)
    (ay (base == 16)
     (some (.go ()))
     (none))) fun (_:Unit) =>
   chk ((0:Int)≤(IntKind.wrap .u64 bitSize)) <|
   chk (aW .u64 ((Zp .u64 1 (IntKind.wrap .u64 bitSize))-1)) <|
   let maxVal:=((Zp .u64 1 (IntKind.wrap .u64 bitSize))-1)
   aM (bD (fun ((n1,v1):Int × Int) =>
    ay (decide (v1 < (cZ s)))
     (aM (chk (0≤v1∧v1 < (ah (DJ s))) <|
       let c':=(au 0 (DJ s) v1)
       aM (ay (if (c' == 95)=true then base0 else false)
        (none)
        (ay (if (decide (48≤c'))=true then (decide (c'≤57)) else false)
         (chk (aW .u8 (c'-48)) <|
          let d'1:=(c'-48)
          some (.go d'1))
         (av (uJ c') fun v2 =>
          av (if (decide (97≤v2))=true then uJ c' else some 0) fun v3 =>
          ay (if (decide (97≤v2))=true then (decide (v3≤122)) else false)
           (av (uJ c') fun v2 =>
            chk (aW .u8 (v2-97)) <|
            chk (aW .u8 ((v2-97)+10)) <|
            let d'2:=((v2-97)+10)
            some (.go d'2))
           (none)))) fun d' =>
       ay (decide ((IntKind.wrap .u8 base)≤d'))
        (none)
        (ay (decide (1152921504606846976≤n1))
         (none)
         (chk (aW .u64 (n1*(IntKind.wrap .u64 base))) <|
          let n3:=(n1*(IntKind.wrap .u64 base))
          chk (aW .u64 (n3+(IntKind.wrap .u64 d'))) <|
          let n11:=(n3+(IntKind.wrap .u64 d'))
          ay (if (decide (n11 < n3))=true then true else (decide (maxVal < n11)))
           (none)
           (some (.go n11))))) fun n2 =>
      chk (aW .i64 (v1+1)) <|
      some (.go (n2,(v1+1))))
     (some (.out (.go n1)))) (0,0)) fun n =>
   av (if false=true then zy s else some false) fun v =>
   ay (if false=true then (!v) else false)
    (none)
    (some (n,())))
noncomputable def xI (s:ByteArray) (base:Int) (bitSize:Int):Option (Int × Unit) :=
 ay (mD s (⟨#[]⟩:ByteArray))
  (none)
  (aM (chk ((0:Int)≤0∧(0:Int) < (cZ s)) <|
    ay ((lC s 0) == 43)
     (none)
     (ay ((lC s 0) == 45)
      (none)
      (some (.go ())))) fun (_:Unit) =>
   av (vU s base bitSize) fun v =>
   let un:=v.1
   ay (if false=true then false else false)
    (none)
    (ay (bitSize == 0)
     (none)
     (chk (aW .i64 (bitSize-1)) <|
      chk ((0:Int)≤(IntKind.wrap .u64 (bitSize-1))) <|
      let cutoff:=(Zp .u64 1 (IntKind.wrap .u64 (bitSize-1)))
      ay (if (!false)=true then (decide (cutoff≤un)) else false)
       (none)
       (ay (if false=true then (decide (cutoff < un)) else false)
        (none)
        (let n:=(IntKind.wrap .i64 un)
         some (n,()))))))
noncomputable def y7 (s:ByteArray) (base:Int) (bitSize:Int):Option (Int × Unit) :=
 av (xI s base bitSize) fun v =>
 let x':=v.1
 some (x',())
noncomputable def nS (s:ByteArray):Option Int :=
 av (y7 s 16 32) fun v =>
 let n:=v.1
 some n
noncomputable def strings_Fields (s:ByteArray):Option (List ByteArray) :=
 aM (bD (fun ((n1,wasSpace,LC,i3):Int × Int × Int × Int) =>
  ay (decide (i3 < (cZ s)))
   (chk (0≤i3∧i3 < (cZ s)) <|
    let r':=(lC s i3)
    let afB:=(afA .u8 LC r')
    chk (0≤r'∧r' < (256:Int)) <|
    let WX:=(IntKind.wrap .i64 (Af 0 r'))
    chk (aW .i64 (n1+(y8 .i64 wasSpace (Y0 .i64 (-1) WX)))) <|
    let n2:=(n1+(y8 .i64 wasSpace (Y0 .i64 (-1) WX)))
    chk (aW .i64 (i3+1)) <|
    let i4:=(i3+1)
    some (.go (n2,WX,afB,i4)))
   (some (.out (.go (n1,LC))))) (0,1,0,0)) fun (n,setBits) =>
 ay (decide (128≤setBits))
  (none)
  (chk (gK 16 n n) <|
   aM (bD (fun (_:Unit) =>
    chk ((decide (0 < (cZ s)))=true→(0:Int)≤0∧(0:Int) < (cZ s)) <|
    chk ((decide (0 < (cZ s)))=true→0≤(lC s 0)∧(lC s 0) < (256:Int)) <|
    ay (if (decide (0 < (cZ s)))=true then (!((Af 0 (lC s 0)) == 0)) else false)
     (none)
     (some (.out (.go ())))) ()) fun (_:Unit) =>
   aM (bD (fun ((NI,lH,i,a1):Int × Int × Int × List ByteArray) =>
    ay (decide (i < (cZ s)))
     (chk (0≤i∧i < (cZ s)) <|
      chk (0≤(lC s i)∧(lC s i) < (256:Int)) <|
      ay ((Af 0 (lC s i)) == 0)
       (chk (aW .i64 (i+1)) <|
        let i1:=(i+1)
        some (.go (NI,lH,i1,a1)))
       (chk (0≤lH∧lH≤i∧i≤(cZ s)) <|
        chk (0≤NI∧NI < n) <|
        chk (aW .i64 (NI+1)) <|
        let na2:=(NI+1)
        chk (aW .i64 (i+1)) <|
        let i2:=(i+1)
        aM (bD (fun (_:Unit) =>
         chk ((decide (i2 < (cZ s)))=true→0≤i2∧i2 < (cZ s)) <|
         chk ((decide (i2 < (cZ s)))=true→0≤(lC s i2)∧(lC s i2) < (256:Int)) <|
         ay (if (decide (i2 < (cZ s)))=true then (!((Af 0 (lC s i2)) == 0)) else false)
          (none)
          (some (.out (.go ())))) ()) fun (_:Unit) =>
        some (.go (na2,i2,i2,(eB a1 NI (Dl s lH i))))))
     (some (.out (.go (NI,lH,a1))))) (0,0,0,(iG n ByteArray.empty))) fun (na,fieldStart,a) =>
   ay (decide (fieldStart < (cZ s)))
    (chk (0≤fieldStart∧fieldStart≤(cZ s)∧(cZ s)≤(cZ s)) <|
     chk (0≤na∧na < n) <|
     some (eB a na (Dl s fieldStart (cZ s))))
    (some a))
noncomputable def Eh (s:ByteArray):Option Int :=
 aM (av (strings_Fields kS0) fun v =>
  bD (fun (v1:Int) =>
   ay (decide (v1 < (ah v)))
    (chk (0≤v1∧v1 < (ah v)) <|
     let n:=(au ByteArray.empty v (0+v1))
     ay (mD n s)
      (chk (aW .i64 (v1+1)) <|
       some (.out (.out (v1+1))))
      (chk (aW .i64 (v1+1)) <|
       some (.go (v1+1))))
    (some (.out (.go ())))) 0) fun (_:Unit) =>
 none
noncomputable def Gf (s:ByteArray):Option Int :=
 av (nS s) fun v =>
 chk (aW .i64 (v+1)) <|
 some (v+1)
noncomputable def Gg (s:ByteArray):Option Int :=
 ay (mD s (⟨#[82]⟩:ByteArray))
  (some 1)
  (ay (mD s (⟨#[68]⟩:ByteArray))
   (some 2)
   (ay (mD s (⟨#[67]⟩:ByteArray))
    (some 3)
    (ay (mD s (⟨#[84]⟩:ByteArray))
     (some 4)
     (none))))
noncomputable def vG (text:ByteArray):Option eY :=
 aM (av (strings_Split text (⟨#[44]⟩:ByteArray)) fun v =>
  bD (fun ((v1,o1):Int × List dK) =>
   ay (decide (v1 < (ah v)))
    (aM (chk (0≤v1∧v1 < (ah v)) <|
      let e:=(au ByteArray.empty v (0+v1))
      av (vT e) fun v2 =>
      aM (aM (ay ((ah v2) == 3)
        (chk ((0:Int)≤1∧(1:Int) < (ah v2)) <|
         av (nS (au ByteArray.empty v2 (0+1))) fun v5 =>
         some (.go v5))
        (ay ((ah v2) == 2)
         (some (.go 0))
         (some (.out (.go (0,0,0)))))) fun vH =>
       chk ((0:Int)≤0∧(0:Int) < (ah v2)) <|
       av (nS (au ByteArray.empty v2 (0+0))) fun v3 =>
       chk (aW .i64 ((ah v2)-1)) <|
       chk (0≤((ah v2)-1)∧((ah v2)-1) < (ah v2)) <|
       av (Eh (au ByteArray.empty v2 (0+((ah v2)-1)))) fun v4 =>
       some (.go (v3,vH,v4))) fun (Ar,Gi,Gj) =>
      chk (dL 24 ((ah o1)+1)) <|
      some (.go (o1++([(dK.mk Ar (bR Ar Gi) Gj)]:List dK)))) fun o2 =>
     chk (aW .i64 (v1+1)) <|
     some (.go ((v1+1),o2)))
    (some (.out (.go o1)))) (0,([]:List dK))) fun o =>
 some (eY.mk o)
noncomputable def wR (text:ByteArray):Option eY :=
 aM (av (strings_Split text (⟨#[44]⟩:ByteArray)) fun v =>
  bD (fun ((v1,o1):Int × List dK) =>
   ay (decide (v1 < (ah v)))
    (aM (chk (0≤v1∧v1 < (ah v)) <|
      let e:=(au ByteArray.empty v (0+v1))
      av (vT e) fun v2 =>
      aM (aM (ay ((ah v2) == 3)
        (chk ((0:Int)≤1∧(1:Int) < (ah v2)) <|
         av (nS (au ByteArray.empty v2 (0+1))) fun v5 =>
         some (.go v5))
        (ay ((ah v2) == 2)
         (some (.go 0))
         (some (.out (.go (0,0,0)))))) fun vH =>
       chk ((0:Int)≤0∧(0:Int) < (ah v2)) <|
       av (nS (au ByteArray.empty v2 (0+0))) fun v3 =>
       chk (aW .i64 ((ah v2)-1)) <|
       chk (0≤((ah v2)-1)∧((ah v2)-1) < (ah v2)) <|
       av (Gf (au ByteArray.empty v2 (0+((ah v2)-1)))) fun v4 =>
       some (.go (v3,vH,v4))) fun (Ar,Gi,Gj) =>
      chk (dL 24 ((ah o1)+1)) <|
      some (.go (o1++([(dK.mk Ar (bR Ar Gi) Gj)]:List dK)))) fun o2 =>
     chk (aW .i64 (v1+1)) <|
     some (.go ((v1+1),o2)))
    (some (.out (.go o1)))) (0,([]:List dK))) fun o =>
 some (eY.mk o)
noncomputable def wS (text:ByteArray):Option eY :=
 aM (av (strings_Split text (⟨#[44]⟩:ByteArray)) fun v =>
  bD (fun ((v1,o1):Int × List dK) =>
   ay (decide (v1 < (ah v)))
    (aM (chk (0≤v1∧v1 < (ah v)) <|
      let e:=(au ByteArray.empty v (0+v1))
      av (vT e) fun v2 =>
      aM (aM (ay ((ah v2) == 3)
        (chk ((0:Int)≤1∧(1:Int) < (ah v2)) <|
         av (nS (au ByteArray.empty v2 (0+1))) fun v5 =>
         some (.go v5))
        (ay ((ah v2) == 2)
         (some (.go 0))
         (some (.out (.go (0,0,0)))))) fun vH =>
       chk ((0:Int)≤0∧(0:Int) < (ah v2)) <|
       av (nS (au ByteArray.empty v2 (0+0))) fun v3 =>
       chk (aW .i64 ((ah v2)-1)) <|
       chk (0≤((ah v2)-1)∧((ah v2)-1) < (ah v2)) <|
       av (Gg (au ByteArray.empty v2 (0+((ah v2)-1)))) fun v4 =>
       some (.go (v3,vH,v4))) fun (Ar,Gi,Gj) =>
      chk (dL 24 ((ah o1)+1)) <|
      some (.go (o1++([(dK.mk Ar (bR Ar Gi) Gj)]:List dK)))) fun o2 =>
     chk (aW .i64 (v1+1)) <|
     some (.go ((v1+1),o2)))
    (some (.out (.go o1)))) (0,([]:List dK))) fun o =>
 some (eY.mk o)
noncomputable def zA (text:ByteArray):Option (List gy) :=
 aM (av (strings_Split text (⟨#[44]⟩:ByteArray)) fun v =>
  bD (fun ((v1,gG):Int × List gy) =>
   ay (decide (v1 < (ah v)))
    (chk (0≤v1∧v1 < (ah v)) <|
     let e:=(au ByteArray.empty v (0+v1))
     av (vT e) fun v2 =>
     ay ((ah v2) == 2)
      (chk ((0:Int)≤0∧(0:Int) < (ah v2)) <|
       av (nS (au ByteArray.empty v2 (0+0))) fun v3 =>
       chk ((0:Int)≤1∧(1:Int) < (ah v2)) <|
       av (nS (au ByteArray.empty v2 (0+1))) fun v4 =>
       chk (dL 16 ((ah gG)+1)) <|
       chk (aW .i64 (v1+1)) <|
       some (.go ((v1+1),(gG++([(gy.mk v3 v4)]:List gy)))))
      (chk (aW .i64 (v1+1)) <|
       some (.go ((v1+1),gG))))
    (some (.out (.go gG)))) (0,([]:List gy))) fun l' =>
 some l'
noncomputable def Iu (text:ByteArray):Option (List gI) :=
 aM (av (strings_Split text (⟨#[44]⟩:ByteArray)) fun v =>
  bD (fun ((v1,gG):Int × List gI) =>
   ay (decide (v1 < (ah v)))
    (chk (0≤v1∧v1 < (ah v)) <|
     let e:=(au ByteArray.empty v (0+v1))
     av (vT e) fun v2 =>
     ay ((ah v2) == 3)
      (chk ((0:Int)≤0∧(0:Int) < (ah v2)) <|
       av (nS (au ByteArray.empty v2 (0+0))) fun v3 =>
       chk ((0:Int)≤1∧(1:Int) < (ah v2)) <|
       av (nS (au ByteArray.empty v2 (0+1))) fun v4 =>
       chk ((0:Int)≤2∧(2:Int) < (ah v2)) <|
       av (nS (au ByteArray.empty v2 (0+2))) fun v5 =>
       chk (dL 24 ((ah gG)+1)) <|
       chk (aW .i64 (v1+1)) <|
       some (.go ((v1+1),(gG++([(gI.mk v3 v4 v5)]:List gI)))))
      (chk (aW .i64 (v1+1)) <|
       some (.go ((v1+1),gG))))
    (some (.out (.go gG)))) (0,([]:List gI))) fun l' =>
 some l'
noncomputable def BR  : Option dz :=
 av (vG kS1) fun v =>
 av (wR kS2) fun v1 =>
 av (wS kS3) fun v2 =>
 av (zA kS4) fun v3 =>
 av (zA kS5) fun v4 =>
 av (Iu kS6) fun v5 =>
 some (dz.mk v v1 v2 v3 v4 v5)
noncomputable def mO (v:Int) (least:Int) (most:Int):Option Int :=
 some (bR least (bH v most))
noncomputable def Jz (h':Int) (w:Int):Option bS :=
 some (bS.mk h' w 0 h')
noncomputable def JA  : Option eG :=
 some (eG.mk (qB.mk 66 66 66 66) 0 2 0)
noncomputable def qF (h':Int) (w:Int):Option (cB × bS) :=
 av (mO h' 1 1000) fun v =>
 av (mO w 1 4096) fun v1 =>
 av (Jz v v1) fun v2 =>
 av (JA) fun v3 =>
 some ((cB.mk 0 0 false false lq v3),v2)
noncomputable def OH (w:Int):Option Int :=
 some (bR 1 (bH w 4096))
noncomputable def DK (p':fZ):Option aV :=
 some (aV.mk 0 iL 1 p')
noncomputable def J8 (l':List aV) (jU:Int) (oF:Int) (p':fZ):Option (List aV) :=
 chk (0≤jU∧0≤oF∧jU+oF≤ah l') <|
 bD (fun ((v,gG):Int × List aV) =>
  ay (decide (v < oF))
   (av (DK p') fun v1 =>
    chk (0≤v∧v < oF) <|
    chk (aW .i64 (v+1)) <|
    some (.go ((v+1),(eB gG (jU+v) v1))))
   (some (.out gG))) (0,l')
noncomputable def wT (w:Int) (p':fZ):Option aQ :=
 aM (av (OH w) fun v1 =>
  chk (gK 56 v1 v1) <|
  some (.go (iG v1 aD))) fun l' =>
 av (J8 l' 0 (ah l') p') fun v =>
 chk (ah v=ah l') <|
 some (aQ.mk v false 0 false)
noncomputable def TQ (l':List aQ) (jU:Int) (oF:Int) (w:Int) (p':fZ):Option (List aQ) :=
 chk (0≤jU∧0≤oF∧jU+oF≤ah l') <|
 bD (fun ((v,gG):Int × List aQ) =>
  ay (decide (v < oF))
   (av (wT w p') fun v1 =>
    chk (0≤v∧v < oF) <|
    chk (aW .i64 (v+1)) <|
    some (.go ((v+1),(eB gG (jU+v) v1))))
   (some (.out gG))) (0,l')
noncomputable def TR (h':Int) (w:Int) (p':fZ):Option eP :=
 aM (chk (gK 48 (bR 1 (bH h' 1000)) (bR 1 (bH h' 1000))) <|
  some (.go ())) fun (_:Unit) =>
 av (TQ (iG (bR 1 (bH h' 1000)) aA) 0 (bR 1 (bH h' 1000)) w p') fun v =>
 chk (ah v=ah (iG (bR 1 (bH h' 1000)) aA)) <|
 some (eP.mk v)
noncomputable def EX (w:Int):Option Int :=
 some (bR 1 (bH w 4096))
noncomputable def LD (w:Int):Option eF :=
 av (EX w) fun v =>
 aM (bD (fun ((at',o1):Int × List Int) =>
  ay (decide (at' < v))
   (chk (dL 8 ((ah o1)+1)) <|
    chk (aW .i64 (at'+8)) <|
    let Ei:=(at'+8)
    some (.go (Ei,(o1++([at']:List Int)))))
   (some (.out (.go o1)))) (8,([]:List Int))) fun o =>
 some (eF.mk o v)
noncomputable def vI (n:Int) (most:Int):Option Int :=
 some (bR 0 (bH n most))
noncomputable def JB (c':Int):Option dS :=
 av (vI c' 200) fun v =>
 some (dS.mk ([]:List aQ) v)
noncomputable def EY (h':Int) (w:Int) (kept:Int):Option bK :=
 av (qF h' w) fun v =>
 av (TR h' w lq) fun v1 =>
 av (LD w) fun v2 =>
 av (JB kept) fun v3 =>
 some (bK.mk v1 v.1 v.2 v2 v3 0 false)
noncomputable def OI  : Option iJ :=
 some (iJ.mk 322)
noncomputable def JC (eT:Bool) (n:Int):Option Int :=
 aM (aM (ay (if (false == eT)=true then (4 == n) else false)
   (some (.out (.out 0)))
   (chk (aW .i64 (0+1)) <|
    some (.go ()))) fun (_:Unit) =>
  aM (ay (if (false == eT)=true then (8 == n) else false)
   (some (.out (.out 1)))
   (chk (aW .i64 (1+1)) <|
    some (.go ()))) fun (_:Unit) =>
  aM (ay (if (false == eT)=true then (20 == n) else false)
   (some (.out (.out 2)))
   (chk (aW .i64 (2+1)) <|
    some (.go ()))) fun (_:Unit) =>
  aM (ay (if (true == eT)=true then (1 == n) else false)
   (some (.out (.out 3)))
   (chk (aW .i64 (3+1)) <|
    some (.go ()))) fun (_:Unit) =>
  aM (ay (if (true == eT)=true then (5 == n) else false)
   (some (.out (.out 4)))
   (chk (aW .i64 (4+1)) <|
    some (.go ()))) fun (_:Unit) =>
  aM (ay (if (true == eT)=true then (6 == n) else false)
   (some (.out (.out 5)))
   (chk (aW .i64 (5+1)) <|
    some (.go ()))) fun (_:Unit) =>
  aM (ay (if (true == eT)=true then (7 == n) else false)
   (some (.out (.out 6)))
   (chk (aW .i64 (6+1)) <|
    some (.go ()))) fun (_:Unit) =>
  aM (ay (if (true == eT)=true then (9 == n) else false)
   (some (.out (.out 7)))
   (chk (aW .i64 (7+1)) <|
    some (.go ()))) fun (_:Unit) =>
  aM (ay (if (true == eT)=true then (25 == n) else false)
   (some (.out (.out 8)))
   (chk (aW .i64 (8+1)) <|
    some (.go ()))) fun (_:Unit) =>
  aM (ay (if (true == eT)=true then (45 == n) else false)
   (some (.out (.out 9)))
   (chk (aW .i64 (9+1)) <|
    some (.go ()))) fun (_:Unit) =>
  aM (ay (if (true == eT)=true then (47 == n) else false)
   (some (.out (.out 10)))
   (chk (aW .i64 (10+1)) <|
    some (.go ()))) fun (_:Unit) =>
  aM (ay (if (true == eT)=true then (66 == n) else false)
   (some (.out (.out 11)))
   (chk (aW .i64 (11+1)) <|
    some (.go ()))) fun (_:Unit) =>
  aM (ay (if (true == eT)=true then (1000 == n) else false)
   (some (.out (.out 12)))
   (chk (aW .i64 (12+1)) <|
    some (.go ()))) fun (_:Unit) =>
  aM (ay (if (true == eT)=true then (1002 == n) else false)
   (some (.out (.out 13)))
   (chk (aW .i64 (13+1)) <|
    some (.go ()))) fun (_:Unit) =>
  aM (ay (if (true == eT)=true then (1003 == n) else false)
   (some (.out (.out 14)))
   (chk (aW .i64 (14+1)) <|
    some (.go ()))) fun (_:Unit) =>
  aM (ay (if (true == eT)=true then (1004 == n) else false)
   (some (.out (.out 15)))
   (chk (aW .i64 (15+1)) <|
    some (.go ()))) fun (_:Unit) =>
  aM (ay (if (true == eT)=true then (1006 == n) else false)
   (some (.out (.out 16)))
   (chk (aW .i64 (16+1)) <|
    some (.go ()))) fun (_:Unit) =>
  aM (ay (if (true == eT)=true then (1015 == n) else false)
   (some (.out (.out 17)))
   (chk (aW .i64 (17+1)) <|
    some (.go ()))) fun (_:Unit) =>
  aM (ay (if (true == eT)=true then (1047 == n) else false)
   (some (.out (.out 18)))
   (chk (aW .i64 (18+1)) <|
    some (.go ()))) fun (_:Unit) =>
  aM (ay (if (true == eT)=true then (1048 == n) else false)
   (some (.out (.out 19)))
   (chk (aW .i64 (19+1)) <|
    some (.go ()))) fun (_:Unit) =>
  aM (ay (if (true == eT)=true then (1049 == n) else false)
   (some (.out (.out 20)))
   (chk (aW .i64 (20+1)) <|
    some (.go ()))) fun (_:Unit) =>
  aM (ay (if (true == eT)=true then (2004 == n) else false)
   (some (.out (.out 21)))
   (chk (aW .i64 (21+1)) <|
    some (.go ()))) fun (_:Unit) =>
  aM (ay (if (true == eT)=true then (2500 == n) else false)
   (some (.out (.out 22)))
   (chk (aW .i64 (22+1)) <|
    some (.go ()))) fun (_:Unit) =>
  aM (ay (if (true == eT)=true then (2501 == n) else false)
   (some (.out (.out 23)))
   (chk (aW .i64 (23+1)) <|
    some (.go ()))) fun (_:Unit) =>
  some (.go ())) fun (_:Unit) =>
 none
noncomputable def rX (bits:Int):Option Bool :=
 chk (aW .i64 (bits-1)) <|
 some ((y8 .i64 bits (bits-1)) == 0)
noncomputable def wU (m:iJ):Option Bool :=
 ay (if (decide (m.mV < 0))=true then true else (decide (16777216≤m.mV)))
  (some false)
  (av (rX (y8 .i64 m.mV 28800)) fun v =>
   av (if v=true then rX (y8 .i64 m.mV 196608) else some false) fun v1 =>
   some (if v=true then v1 else false))
noncomputable def sS (m:iJ) (eT:Bool) (n:Int):Option Bool :=
 av (JC eT n) fun v =>
 av (wU m) fun v1 =>
 chk ((if v1=true then (decide (0≤v)) else false)=true→(0:Int)≤v) <|
 some (if (if v1=true then (decide (0≤v)) else false)=true then (!((y8 .i64 m.mV (Zp .i64 1 v)) == 0)) else false)
noncomputable def Au (s:bf):Option bf :=
 av (sS s.fM false 8) fun v =>
 let on:=(!v)
 some (bf.mk (bK.mk s.aR.fG s.aR.fC s.aR.fR s.aR.fT s.aR.fK s.aR.dJ on) (bK.mk s.aT.fG s.aT.fC s.aT.fR s.aT.fT s.aT.fK s.aT.dJ on) s.pX s.fM s.aK s.lK s.kY s.lM)
noncomputable def LG (h':Int) (w:Int) (kept:Int):Option bf :=
 av (qF h' w) fun v =>
 av (EY h' w kept) fun v1 =>
 av (EY h' w 0) fun v2 =>
 av (OI) fun v3 =>
 av (Au (bf.mk v1 v2 false v3 (fO.mk v.1 v.1) ([]:List Int) ByteArray.empty 0)) fun v4 =>
 some v4
noncomputable def TS (h':Int) (w:Int) (kept:Int):Option bP :=
 av (LG h' w kept) fun v =>
 some (bP.mk Dk qj v 0)
noncomputable def Gl (c':Int):Option (Int × Int × Int) :=
 aM (ay (decide (c'≤127))
  (some (.go 1))
  (ay (if (decide (194≤c'))=true then (decide (c'≤223)) else false)
   (some (.go 2))
   (ay (if (decide (224≤c'))=true then (decide (c'≤239)) else false)
    (some (.go 3))
    (ay (if (decide (240≤c'))=true then (decide (c'≤244)) else false)
     (some (.go 4))
     (some (.go 0)))))) fun n =>
 ay (c' == 224)
  (some (n,160,191))
  (ay (c' == 237)
   (some (n,128,159))
   (ay (c' == 240)
    (some (n,144,191))
    (ay (c' == 244)
     (some (n,128,143))
     (some (n,128,191)))))
noncomputable def Av (b:(List Int)):Option (Int × Int) :=
 chk ((0:Int)≤0∧(0:Int) < (ah b)) <|
 av (Gl (au 0 b 0)) fun v =>
 let n:=v.1
 let lo:=v.2.1
 let hi:=v.2.2
 ay (n == 0)
  (some (0,0))
  (aM (bD (fun ((lo1,hi1,zB):Int × Int × Int) =>
    chk ((if (decide (zB < n))=true then (decide (zB < (ah b))) else false)=true→0≤zB∧zB < (ah b)) <|
    chk ((if (if (decide (zB < n))=true then (decide (zB < (ah b))) else false)=true then (decide (lo1≤(au 0 b zB))) else false)=true→0≤zB∧zB < (ah b)) <|
    ay (if (if (if (decide (zB < n))=true then (decide (zB < (ah b))) else false)=true then (decide (lo1≤(au 0 b zB))) else false)=true then (decide ((au 0 b zB)≤hi1)) else false)
     (chk (aW .i64 (zB+1)) <|
      let k'2:=(zB+1)
      some (.go (128,191,k'2)))
     (some (.out (.go zB)))) (lo,hi,1)) fun k' =>
   some (k',n))
noncomputable def vV (s:kK):Option Bool :=
 ay ((ah s.fB) == 0)
  (some true)
  (av (Av s.fB) fun v =>
   let k':=v.1
   let n:=v.2
   some (if (k' == (ah s.fB))=true then (decide (k' < n)) else false))
noncomputable def uP (p':iA):Option Bool :=
 ay (if (decide (16 < (ah p'.fL)))=true then true else (if p'.fOpen=true then ((ah p'.fL) == 0) else false))
  (some false)
  (aM (bD (fun (v:Int) =>
    ay (decide (v < (ah p'.fL)))
     (aM (chk (0≤v∧v < (ah p'.fL)) <|
       ay (if (decide ((ah (au [] p'.fL v)) < 1))=true then true else (decide (6 < (ah (au [] p'.fL v)))))
        (some (.out (.out (.out false))))
        (bD (fun (v1:Int) =>
         ay (decide (v1 < (ah (au [] p'.fL v))))
          (chk (0≤v1∧v1 < (ah (au [] p'.fL v))) <|
           let n:=(au 0 (au [] p'.fL v) v1)
           ay (if (decide (n < (-1)))=true then true else (decide (65535 < n)))
            (some (.out (.out (.out (.out false)))))
            (chk (aW .i64 (v1+1)) <|
             some (.go (v1+1))))
          (some (.out (.go ())))) 0)) fun (_:Unit) =>
      chk (aW .i64 (v+1)) <|
      some (.go (v+1)))
     (some (.out (.go ())))) 0) fun (_:Unit) =>
   some true)
noncomputable def oG (s:dA):Option Bool :=
 av (if (!(if (if (if (decide (s.ko < 0))=true then true else (decide (9 < s.ko)))=true then true else (decide (2 < (cZ s.jD))))=true then true else (decide (1024 < (cZ s.fText)))))=true then uP s.eu else some false) fun v =>
 ay (if (if (if (if (decide (s.ko < 0))=true then true else (decide (9 < s.ko)))=true then true else (decide (2 < (cZ s.jD))))=true then true else (decide (1024 < (cZ s.fText))))=true then true else (!v))
  (some false)
  (aM (bD (fun (v1:Int) =>
    ay (decide (v1 < (cZ s.jD)))
     (chk (0≤v1∧v1 < (cZ s.jD)) <|
      let c':=(lC s.jD v1)
      let first:=(if (if (v1 == 0)=true then (decide (60≤c')) else false)=true then (decide (c'≤63)) else false)
      ay (if (!first)=true then (if (decide (c' < 32))=true then true else (decide (47 < c'))) else false)
       (some (.out (.out false)))
       (chk (aW .i64 (v1+1)) <|
        some (.go (v1+1))))
     (some (.out (.go ())))) 0) fun (_:Unit) =>
   ay (s.ko == 0)
    (some (if (if (if (if (mD s.jD (⟨#[]⟩:ByteArray))=true then (!s.vw) else false)=true then ((ah s.eu.fL) == 0) else false)=true then (mD s.fText (⟨#[]⟩:ByteArray)) else false)=true then (s.vB == 0) else false))
    (ay (s.ko == 3)
     (some (mD s.jD (⟨#[]⟩:ByteArray)))
     (some true)))
noncomputable def uK (r':bS):Option Bool :=
 ay (if (if (if (decide (r'.fH < 1))=true then true else (decide (1000 < r'.fH)))=true then true else (decide (r'.fW < 1)))=true then true else (decide (4096 < r'.fW)))
  (some false)
  (some (if (if (decide (0≤r'.jO))=true then (decide (r'.jO < r'.eZ)) else false)=true then (decide (r'.eZ≤r'.fH)) else false))
noncomputable def yH (c':cB) (r':bS):Option Bool :=
 some (if (decide (r'.jO≤c'.fY))=true then (decide (c'.fY < r'.eZ)) else false)
noncomputable def vW (c':Int):Option Bool :=
 some (if (if (decide (0≤c'))=true then (decide (c'≤256)) else false)=true then true else (if (decide (16777216≤c'))=true then (decide (c' < 33554432)) else false))
noncomputable def BS (p':fZ):Option Bool :=
 av (vW p'.jP) fun v =>
 av (if v=true then vW p'.jQ else some false) fun v1 =>
 some (if (if (if v=true then v1 else false)=true then (decide (0≤p'.dU)) else false)=true then (decide (p'.dU≤511)) else false)
noncomputable def nV (final:Int):Option Bool :=
 some (if (if (final == 66)=true then true else (final == 48))=true then true else (final == 65))
noncomputable def qG (which:Int):Option Bool :=
 some (if (decide (0≤which))=true then (decide (which≤3)) else false)
noncomputable def vJ (which:Int):Option Bool :=
 some (if (which == 2)=true then true else (which == 3))
noncomputable def rY (s:eG):Option Bool :=
 aM (aM (let f'3:=s.fG.x0
   av (nV f'3) fun v6 =>
   ay (!v6)
    (some (.out (.out false)))
    (chk (aW .i64 (0+1)) <|
     some (.go ()))) fun (_:Unit) =>
  aM (let f'2:=s.fG.x1
   av (nV f'2) fun v5 =>
   ay (!v5)
    (some (.out (.out false)))
    (chk (aW .i64 (1+1)) <|
     some (.go ()))) fun (_:Unit) =>
  aM (let f'1:=s.fG.x2
   av (nV f'1) fun v4 =>
   ay (!v4)
    (some (.out (.out false)))
    (chk (aW .i64 (2+1)) <|
     some (.go ()))) fun (_:Unit) =>
  aM (let f':=s.fG.x3
   av (nV f') fun v3 =>
   ay (!v3)
    (some (.out (.out false)))
    (chk (aW .i64 (3+1)) <|
     some (.go ()))) fun (_:Unit) =>
  some (.go ())) fun (_:Unit) =>
 av (qG s.jH) fun v =>
 av (if v=true then qG s.kr else some false) fun v1 =>
 av (if ((if v=true then v1 else false) && ((if v=true then v1 else false) && (!(s.fq == 0))))=true then vJ s.fq else some false) fun v2 =>
 some (if (if v=true then v1 else false)=true then (if (s.fq == 0)=true then true else v2) else false)
noncomputable def mW (c':cB) (r':bS):Option Bool :=
 av (uK r') fun v =>
 ay (if (if (if (if (!v)=true then true else (decide (c'.fX < 0)))=true then true else (decide (r'.fW≤c'.fX)))=true then true else (decide (c'.fY < 0)))=true then true else (decide (r'.fH≤c'.fY)))
  (some false)
  (chk (c'.bX=true→aW .i64 (r'.fW-1)) <|
   av (if ((!(if c'.bX=true then (!(c'.fX == (r'.fW-1))) else false)) && ((!(if c'.bX=true then (!(c'.fX == (r'.fW-1))) else false)) && c'.dH))=true then yH c' r' else some false) fun v1 =>
   ay (if (if c'.bX=true then (!(c'.fX == (r'.fW-1))) else false)=true then true else (if c'.dH=true then (!v1) else false))
    (some false)
    (av (BS c'.bI) fun v2 =>
     av (if v2=true then rY c'.aN else some false) fun v3 =>
     some (if v2=true then v3 else false)))
noncomputable def zC (s:eF):Option Bool :=
 ay (if (decide (s.fW < 1))=true then true else (decide (4096 < s.fW)))
  (some false)
  (aM (bD (fun ((ahead,v):Int × Int) =>
    ay (decide (v < (ah s.fL)))
     (chk (0≤v∧v < (ah s.fL)) <|
      let x':=(au 0 s.fL v)
      ay (if (decide (x'≤ahead))=true then true else (decide (s.fW≤x')))
       (some (.out (.out false)))
       (chk (aW .i64 (v+1)) <|
        some (.go (x',(v+1)))))
     (some (.out (.go ())))) ((-1),0)) fun (_:Unit) =>
   some true)
noncomputable def BU (c':aV):Option Bool :=
 aM (aM (let m1:=c'.fM.x0
   ay (if (if (decide (m1 < 0))=true then true else (decide (1114111 < m1)))=true then true else (if (!(m1 == 0))=true then (c'.fR == 0) else false))
    (some (.out (.out false)))
    (chk (aW .i64 (0+1)) <|
     some (.go ()))) fun (_:Unit) =>
  aM (let m:=c'.fM.x1
   ay (if (if (decide (m < 0))=true then true else (decide (1114111 < m)))=true then true else (if (!(m == 0))=true then (c'.fR == 0) else false))
    (some (.out (.out false)))
    (chk (aW .i64 (1+1)) <|
     some (.go ()))) fun (_:Unit) =>
  some (.go ())) fun (_:Unit) =>
 av (if (!(if (if (decide (c'.fR < 0))=true then true else (decide (1114111 < c'.fR)))=true then true else (if (c'.fM.x0 == 0)=true then (!(c'.fM.x1 == 0)) else false)))=true then BS c'.bI else some false) fun v =>
 ay (if (if (if (decide (c'.fR < 0))=true then true else (decide (1114111 < c'.fR)))=true then true else (if (c'.fM.x0 == 0)=true then (!(c'.fM.x1 == 0)) else false))=true then true else (!v))
  (some false)
  (ay (c'.fW == 0)
   (some (c'.fR == 0))
   (ay (c'.fW == 1)
    (some true)
    (ay (c'.fW == 2)
     (some (!(c'.fR == 0)))
     (some false))))
noncomputable def BX (l':(List aV)) (i:Int):Option Bool :=
 chk (0≤i∧i < (ah l')) <|
 ay ((au aD l' i).fW == 0)
  (chk ((!(i == 0))=true→aW .i64 (i-1)) <|
   chk ((!(i == 0))=true→0≤(i-1)∧(i-1) < (ah l')) <|
   some (if (i == 0)=true then true else (!((au aD l' (i-1)).fW == 2))))
  (ay ((au aD l' i).fW == 2)
   (chk (aW .i64 (i+1)) <|
    chk ((!((i+1) == (ah l')))=true→aW .i64 (i+1)) <|
    chk ((!((i+1) == (ah l')))=true→0≤(i+1)∧(i+1) < (ah l')) <|
    some (if ((i+1) == (ah l'))=true then true else (!((au aD l' (i+1)).fW == 0))))
   (some false))
noncomputable def mP (r':aQ):Option Bool :=
 ay (if (if (if (decide ((ah r'.aH) < 1))=true then true else (decide (4096 < (ah r'.aH))))=true then true else (decide (r'.dJ < 0)))=true then true else (decide (2 < r'.dJ)))
  (some false)
  (aM (bD (fun (v:Int) =>
    ay (decide (v < (ah r'.aH)))
     (chk (0≤v∧v < (ah r'.aH)) <|
      av (BU (au aD r'.aH v)) fun v1 =>
      av (if (!(!v1))=true then BX r'.aH v else some false) fun v2 =>
      ay (if (!v1)=true then true else v2)
       (some (.out (.out false)))
       (chk (aW .i64 (v+1)) <|
        some (.go (v+1))))
     (some (.out (.go ())))) 0) fun (_:Unit) =>
   some true)
noncomputable def vX (g':eP):Option Bool :=
 ay (if (decide ((ah g'.aS) < 1))=true then true else (decide (1000 < (ah g'.aS))))
  (some false)
  (aM (bD (fun (v:Int) =>
    ay (decide (v < (ah g'.aS)))
     (chk (0≤v∧v < (ah g'.aS)) <|
      chk ((0:Int)≤0∧(0:Int) < (ah g'.aS)) <|
      av (if (!(!((ah (au aA g'.aS v).aH) == (ah (au aA g'.aS 0).aH))))=true then mP (au aA g'.aS v) else some false) fun v1 =>
      ay (if (!((ah (au aA g'.aS v).aH) == (ah (au aA g'.aS 0).aH)))=true then true else (!v1))
       (some (.out (.out false)))
       (chk (aW .i64 (v+1)) <|
        some (.go (v+1))))
     (some (.out (.go ())))) 0) fun (_:Unit) =>
   some true)
noncomputable def DL (g':eP):Option (Int × Int) :=
 av (vX g') fun v =>
 ay (!v)
  (some (0,0))
  (chk ((0:Int)≤0∧(0:Int) < (ah g'.aS)) <|
   some ((ah g'.aS),(ah (au aA g'.aS 0).aH)))
noncomputable def pF (k':dS):Option Bool :=
 ay (if (if (decide (k'.iF < 0))=true then true else (decide (200 < k'.iF)))=true then true else (decide (k'.iF < (ah k'.aS))))
  (some false)
  (aM (bD (fun (v:Int) =>
    ay (decide (v < (ah k'.aS)))
     (chk (0≤v∧v < (ah k'.aS)) <|
      av (mP (au aA k'.aS v)) fun v1 =>
      ay (!v1)
       (some (.out (.out false)))
       (chk (aW .i64 (v+1)) <|
        some (.go (v+1))))
     (some (.out (.go ())))) 0) fun (_:Unit) =>
   some true)
noncomputable def mX (s:bK):Option Bool :=
 ay (if (decide (s.dJ < 0))=true then true else (decide (2 < s.dJ)))
  (some false)
  (av (mW s.fC s.fR) fun v =>
   av (if (!(!v))=true then zC s.fT else some false) fun v1 =>
   ay (if (if (!v)=true then true else (!v1))=true then true else (!(s.fT.fW == s.fR.fW)))
    (some false)
    (av (DL s.fG) fun v2 =>
     let h':=v2.1
     let w:=v2.2
     ay (if (!(h' == s.fR.fH))=true then true else (!(w == s.fR.fW)))
      (some false)
      (av (pF s.fK) fun v3 =>
       some v3)))
noncomputable def vY (r':bS):Option bS :=
 some (bS.mk r'.fH r'.fW 0 r'.fH)
noncomputable def mY (s:bf):Option Bool :=
 av (mX s.aR) fun v =>
 av (if (!(!v))=true then mX s.aT else some false) fun v1 =>
 av (if (!(if (!v)=true then true else (!v1)))=true then wU s.fM else some false) fun v2 =>
 ay (if (if (!v)=true then true else (!v1))=true then true else (!v2))
  (some false)
  (av (vY s.aR.fR) fun v3 =>
   av (vY s.aT.fR) fun v4 =>
   ay (!((v3.fH == v4.fH) && ((v3.fW == v4.fW) && ((v3.jO == v4.jO) && ((v3.eZ == v4.eZ) && true)))))
    (some false)
    (aM (aM (av (mW s.aK.x0 v3) fun v6 =>
       ay (!v6)
        (some (.out (.out false)))
        (chk (aW .i64 (0+1)) <|
         some (.go ()))) fun (_:Unit) =>
      aM (av (mW s.aK.x1 v3) fun v5 =>
       ay (!v5)
        (some (.out (.out false)))
        (chk (aW .i64 (1+1)) <|
         some (.go ()))) fun (_:Unit) =>
      some (.go ())) fun (_:Unit) =>
     ay (if (decide (4096 < (ah s.lK)))=true then true else (decide (1024 < (cZ s.kY))))
      (some false)
      (some (if (decide (0≤s.lM))=true then (decide (s.lM≤1114111)) else false))))
noncomputable def vZ (t':bP):Option dS :=
 ay (!t'.fS.pX)
  (some t'.fS.aR.fK)
  (some (dS.mk ([]:List aQ) t'.fS.aR.fK.iF))
noncomputable def lu (t':bP):Option Bool :=
 av (vV t'.fU) fun v =>
 av (if (!(!v))=true then oG t'.fP else some false) fun v1 =>
 av (if (!(if (!v)=true then true else (!v1)))=true then mY t'.fS else some false) fun v2 =>
 ay (if (if (!v)=true then true else (!v1))=true then true else (!v2))
  (some false)
  (av (if (decide (0≤t'.jl))=true then vZ t' else some wQ) fun v3 =>
   some (if (decide (0≤t'.jl))=true then (decide (t'.jl≤(ah v3.aS))) else false))
noncomputable def iX (s:bf):Option bK :=
 ay s.pX
  (some s.aT)
  (some s.aR)
noncomputable def OJ (a:kR):Option mK :=
 ay (a.Ib == 0)
  (some (mK.mk a.Zi))
  (none)
noncomputable def LH (b:(List Int)):Option Int :=
 chk ((0:Int)≤0∧(0:Int) < (ah b)) <|
 let r':=(IntKind.wrap .i32 (au 0 b 0))
 aM (ay ((ah b) == 2)
  (none)
  (ay ((ah b) == 3)
   (none)
   (ay ((ah b) == 4)
    (none)
    (some (.go ()))))) fun (_:Unit) =>
 aM (chk ((0:Int)≤1∧(1:Int)≤(ah b)∧(ah b)≤(ah b)) <|
  bD (fun (_:Unit) =>
   ay (decide (0 < ((ah b)-1)))
    (none)
    (some (.out (.go ())))) ()) fun (_:Unit) =>
 some r'
noncomputable def TU (s:kK) (b:(List Int)):Option (kK × (List Int)) :=
 av (vV s) fun v =>
 ay (!v)
  (none)
  (chk (aW .i64 ((ah s.fB)+(ah b))) <|
   chk (gK 1 0 ((ah s.fB)+(ah b))) <|
   chk (dL 1 (0+(ah s.fB))) <|
   chk (dL 1 ((0+(ah s.fB))+(ah b))) <|
   aM (bD (fun ((qm,Aw,gG):Int × Int × List Int) =>
    ay (decide (0 < Aw))
     (av (Av (jw (((iG 0 0)++s.fB)++b) qm (qm+Aw))) fun v1 =>
      let k':=v1.1
      let n:=v1.2
      ay (if (decide (0 < k'))=true then (k' == n) else false)
       (chk ((0:Int)≤0∧(0:Int)≤n∧n≤Aw) <|
        av (LH (jw (((iG 0 0)++s.fB)++b) (qm+0) ((qm+0)+(n-0)))) fun v2 =>
        chk (dL 8 ((ah gG)+1)) <|
        chk (0≤(bR k' 1)∧(bR k' 1)≤Aw∧Aw≤Aw) <|
        some (.go ((qm+(bR k' 1)),(Aw-(bR k' 1)),(gG++([(IntKind.wrap .i64 v2)]:List Int)))))
       (none))
     (some (.out (.go gG)))) (0,((0+(ah s.fB))+(ah b)),([]:List Int))) fun l' =>
   some (Dk,l'))
noncomputable def BZ (s:dA):Option Bool :=
 some (if (if (s.ko == 7)=true then true else (s.ko == 8))=true then true else (s.ko == 9))
noncomputable def Gm (r':Int):Option (List dw) :=
 some ([(dw.mk 1 r' 0 ByteArray.empty ([]:List (List Int)) ByteArray.empty)]:List dw)
noncomputable def Gn (s:dA) (c':Int):Option (dA × (List dw)) :=
 ay (decide (c'≤47))
  (none)
  (aM (ay (s.ko == 1)
    (ay (c' == 91)
     (some (.out ((dA.mk 3 ByteArray.empty false yF ByteArray.empty 0),([]:List dw))))
     (none))
    (some (.go ()))) fun (_:Unit) =>
   none)
noncomputable def Cb (s:dA) (c':Int):Option (dA × (List dw)) :=
 ay s.vw
  (none)
  (some (qj,([(dw.mk 4 0 c' s.jD s.eu.fL ByteArray.empty)]:List dw)))
def FQ (p:iA) (c:Int):Option iA:=match p.fL with
 | []=>if p.fOpen=false∧48≤c∧c≤57 then some ⟨[[c-48]],true⟩ else none
 | _=>none
noncomputable def Ej (s:dA) (c':Int):Option (dA × (List dw)) :=
 ay (decide (c'≤47))
  (none)
  (ay (decide (64≤c'))
   (av (Cb s c') fun v =>
    some (v.1,v.2))
   (ay (c' == 59)
    (none)
    (ay (c' == 58)
     (none)
     (ay (decide (c'≤57))
      (av (FQ s.eu c') fun v1 =>
       some ((dA.mk 4 s.jD s.vw v1 s.fText s.vB),([]:List dw)))
      (none)))))
noncomputable def Em (s:dA) (c':Int):Option (dA × (List dw)) :=
 aM (aM (ay (s.ko == 1)
   (some (.go (s.ko == 1)))
   (some (.go (s.ko == 2)))) fun v1 =>
  ay v1
   (av (Gn s c') fun v2 =>
    some (.out (v2.1,v2.2)))
   (aM (ay (s.ko == 3)
     (some (.go (s.ko == 3)))
     (some (.go (s.ko == 4)))) fun v3 =>
    ay v3
     (av (Ej s c') fun v4 =>
      some (.out (v4.1,v4.2)))
     (ay (s.ko == 5)
      (none)
      (ay (s.ko == 6)
       (none)
       (some (.go ())))))) fun (_:Unit) =>
 av (Gm (IntKind.wrap .i64 c')) fun v =>
 some (qj,v)
noncomputable def OL (s:dA):Option (List dw) :=
 ay (s.ko == 7)
  (none)
  (ay (s.ko == 8)
   (none)
   (ay (s.ko == 9)
    (none)
    (some ([]:List dw))))
noncomputable def LJ (s:dA) (r':Int):Option (dA × (List dw)) :=
 aM (av (oG s) fun v1 =>
  ay (!v1)
   (none)
   (ay (if (r' == 24)=true then true else (r' == 26))
    (none)
    (ay (r' == 27)
     (some (.go (dA.mk 1 ByteArray.empty false yF ByteArray.empty 0)))
     (ay (if (decide (128≤r'))=true then (decide (r'≤159)) else false)
      (none)
      (ay (if (s.ko == 7)=true then (r' == 7) else false)
       (some (.go qj))
       (av (BZ s) fun v2 =>
        ay v2
         (none)
         (ay (if (decide (0≤r'))=true then (decide (r'≤31)) else false)
          (none)
          (ay (r' == 127)
           (none)
           (ay (if (decide (159 < r'))=true then true else (decide (r' < 0)))
            (none)
            (av (Em s (IntKind.wrap .u8 r')) fun v3 =>
             some (.out (v3.1,v3.2)))))))))))) fun next =>
 av (OL s) fun v =>
 chk (dL 80 ((ah v)+0)) <|
 some (next,(v++([]:List dw)))
noncomputable def LK (s:dA) (l':(List Int)):Option (dA × (List dw)) :=
 av (oG s) fun v =>
 ay (!v)
  (none)
  (aM (bD (fun ((v1,s2,all1):Int × dA × List dw) =>
    ay (decide (v1 < (ah l')))
     (chk (0≤v1∧v1 < (ah l')) <|
      let r':=(au 0 l' v1)
      av (LJ s2 r') fun v2 =>
      chk (dL 80 ((ah all1)+(ah v2.2))) <|
      chk (aW .i64 (v1+1)) <|
      some (.go ((v1+1),v2.1,(all1++v2.2))))
     (some (.out (.go (s2,all1))))) (0,s,([]:List dw))) fun (s1,all) =>
   some (s1,all))
noncomputable def LM (final:Int) (r':Int):Option Int :=
 ay (final == 48)
  (none)
  (ay (final == 65)
   (none)
   (some r'))
noncomputable def JD (s:eG) (r':Int):Option (eG × Int) :=
 av (rY s) fun v =>
 ay (!v)
  (none)
  (ay (if (if (decide (32≤r'))=true then (decide (r'≤127)) else false)=true then (!(s.fq == 0)) else false)
   (none)
   (ay (if (decide (32≤r'))=true then (decide (r'≤127)) else false)
    (chk (0≤s.jH∧s.jH < (4:Int)) <|
     av (LM (if (s.jH == 0)=true then s.fG.x0 else (if (s.jH == 1)=true then s.fG.x1 else (if (s.jH == 2)=true then s.fG.x2 else s.fG.x3))) r') fun v1 =>
     ay (if (decide (32≤r'))=true then (!(if (decide (127≤r'))=true then (decide (r'≤159)) else false)) else false)
      (some ((eG.mk s.fG s.jH s.kr 0),v1))
      (some (s,v1)))
    (none)))
noncomputable def Dn (s:bf) (x':bK):Option bf :=
 ay s.pX
  (none)
  (some (bf.mk x' s.aT s.pX s.fM s.aK s.lK s.kY s.lM))
noncomputable def Az (t':eY) (r':Int):Option Int :=
 aM (bD (fun (v:Int) =>
  ay (decide (v < (ah t'.fL)))
   (chk (0≤v∧v < (ah t'.fL)) <|
    ay (if (decide ((au lJ t'.fL v).fLo≤r'))=true then (decide (r'≤(au lJ t'.fL v).fHi)) else false)
     (some (.out (.out (au lJ t'.fL v).fV)))
     (chk (aW .i64 (v+1)) <|
      some (.go (v+1))))
   (some (.out (.go ())))) 0) fun (_:Unit) =>
 some 0
noncomputable def OM (d':dz) (r':Int):Option Int :=
 av (Az d'.acj r') fun v =>
 ay (decide (0 < v))
  (none)
  (some 1)
noncomputable def OO (r':aQ):Option (List aV) :=
 chk (gK 56 (ah r'.aH) (ah r'.aH)) <|
 some (En (iG (ah r'.aH) aD) 0 r'.aH (bH (ah r'.aH) (ah r'.aH)))
noncomputable def LP (r':aQ) (l':List aV) (jU:Int) (oF:Int):Option (aQ) :=
 chk (0≤jU∧0≤oF∧jU+oF≤ah l') <|
 aM (bD (fun (v:Int) =>
  ay (decide (v < oF))
   (av (BX (jw l' jU (jU+oF)) v) fun v1 =>
    ay v1
     (none)
     (chk (aW .i64 (v+1)) <|
      some (.go (v+1))))
   (some (.out (.go ())))) 0) fun (_:Unit) =>
 some (aQ.mk (jw l' jU (jU+oF)) r'.bX r'.dJ r'.bL)
noncomputable def WY (r':aQ) (at':Int) (c':aV):Option aQ :=
 av (mP r') fun v =>
 av (if (!(!v))=true then BU c' else some false) fun v1 =>
 chk ((!(if (if (if (!v)=true then true else (!v1))=true then true else (c'.fW == 0))=true then true else (decide (at' < 0))))=true→aW .i64 ((ah r'.aH)-c'.fW)) <|
 ay (if (if (if (if (!v)=true then true else (!v1))=true then true else (c'.fW == 0))=true then true else (decide (at' < 0)))=true then true else (decide (((ah r'.aH)-c'.fW) < at')))
  (none)
  (av (OO r') fun v2 =>
   chk (0≤at'∧at' < (ah v2)) <|
   aM (ay (c'.fW == 2)
    (none)
    (some (.go ()))) fun (_:Unit) =>
   av (LP r' (eB v2 at' c') 0 (ah v2)) fun v3 =>
   some v3)
noncomputable def Cc (x':aQ) (cap0:Int) (LQ:Int) (cap2:Int) (yI:Int) (yJ:Int) (tT:Int) (LU:Int) (yK:Bool) (cap4:Bool):Option aQ :=
 av (WY x' cap0 (aV.mk LQ iL cap2 (fZ.mk yI yJ tT))) fun v =>
 ay cap4
  (none)
  (some (aQ.mk v.aH v.bX LU yK))
noncomputable def OP (g':eP):Option (List aQ) :=
 chk (dL 48 (ah g'.aS)) <|
 some g'.aS
noncomputable def TV (g':eP) (y':Int) (r':aQ):Option eP :=
 aM (av (vX g') fun v =>
  chk ((!(if (if (!v)=true then true else (decide (y' < 0)))=true then true else (decide ((ah g'.aS)≤y'))))=true→(0:Int)≤0∧(0:Int) < (ah g'.aS)) <|
  av (if (!(if (if (if (!v)=true then true else (decide (y' < 0)))=true then true else (decide ((ah g'.aS)≤y')))=true then true else (!((ah r'.aH) == (ah (au aA g'.aS 0).aH)))))=true then mP r' else some false) fun v1 =>
  ay (if (if (if (if (!v)=true then true else (decide (y' < 0)))=true then true else (decide ((ah g'.aS)≤y')))=true then true else (!((ah r'.aH) == (ah (au aA g'.aS 0).aH))))=true then true else (!v1))
   (none)
   (av (OP g') fun v2 =>
    chk (0≤y'∧y' < (ah v2)) <|
    some (.go (eB v2 y' r')))) fun l' =>
 some (eP.mk l')
noncomputable def WZ (v:FV) (a0:aQ):Option aQ:=match v with
 | .bool (.box (.int (.int (.int (.nil 289) .i64 c0) .i64 c1) .i64 c2) 25 [(5,.int .i64 aot),(6,.int .i64 aou),(7,.int .i64 aov),(23,.int .i64 amj),(24,.bool amk)]) c4=>Cc a0 c0 c1 c2 aot aou aov amj amk c4
 | _=>none
noncomputable def Gp (s:bK) (steps:(List FV)):Option bK :=
 chk (0≤s.fC.fY∧s.fC.fY < (ah s.fG.aS)) <|
 aM (bD (fun ((v1,r'1):Int × aQ) =>
  ay (decide (v1 < (ah steps)))
   (chk (0≤v1∧v1 < (ah steps)) <|
    av (WZ (au WW steps v1) r'1) fun v2 =>
    chk (aW .i64 (v1+1)) <|
    some (.go ((v1+1),v2)))
   (some (.out (.go r'1)))) (0,(au aA s.fG.aS s.fC.fY))) fun r' =>
 av (TV s.fG s.fC.fY r') fun v =>
 some (bK.mk v s.fC s.fR s.fT s.fK s.dJ s.bL)
noncomputable def Gq (s:bK) (r':Int) (w:Int) (insert:Bool) (auto:Bool):Option bK :=
 av (mX s) fun v =>
 ay (if (if (if (if (if (!v)=true then true else (decide (r' < 1)))=true then true else (decide (1114111 < r')))=true then true else (decide (w < 1)))=true then true else (decide (2 < w)))=true then true else (decide (s.fR.fW < w)))
  (none)
  (chk (aW .i64 (s.fR.fW-1)) <|
   let last:=(s.fR.fW-1)
   aM (ay (if s.fC.bX=true then auto else false)
    (none)
    (some (.go ()))) fun (_:Unit) =>
   aM (ay (if (w == 2)=true then (s.fC.fX == last) else false)
    (none)
    (some (.go ()))) fun (_:Unit) =>
   chk (aW .i64 (s.fC.fX+w)) <|
   aM (ay insert
    (none)
    (some (.go ()))) fun (_:Unit) =>
   chk (dL 8 1) <|
   av (Gp s ([(FV.bool (FV.box (FV.int (FV.int (FV.int (FV.nil 289) .i64 s.fC.fX) .i64 r') .i64 w) 25 [(5,.int .i64 s.fC.bI.jP),(6,.int .i64 s.fC.bI.jQ),(7,.int .i64 s.fC.bI.dU),(23,.int .i64 s.dJ),(24,.bool s.bL)]) (decide (last < (s.fC.fX+w))))]:List FV)) fun v1 =>
   chk (aW .i64 (s.fC.fX+w)) <|
   some (bK.mk v1.fG (cB.mk (bH (s.fC.fX+w) last) v1.fC.fY (if (decide (last < (s.fC.fX+w)))=true then auto else false) v1.fC.dH v1.fC.bI v1.fC.aN) v1.fR v1.fT v1.fK v1.dJ v1.bL))
noncomputable def Eo (s:bf) (d':dz) (r':Int):Option bf :=
 av (iX s) fun v =>
 av (OM d' r') fun v1 =>
 ay (v1 == 0)
  (none)
  (av (sS s.fM false 4) fun v2 =>
   av (sS s.fM true 7) fun v3 =>
   av (Gq v r' v1 v2 v3) fun v4 =>
   av (Dn s v4) fun v5 =>
   some (bf.mk v5.aR v5.aT v5.pX v5.fM v5.aK v5.lK v5.kY (bR 0 (bH r' 1114111))))
noncomputable def JE (l':(List bJ)) (inter:ByteArray) (final:Int):Option FV :=
 aM (bD (fun (v:Int) =>
  ay (decide (v < (ah l')))
   (chk (0≤v∧v < (ah l')) <|
    ay (if (mD (au uH l' v).aee inter)=true then ((au uH l' v).aef == final) else false)
     (some (.out (.out (au uH l' v).fdo)))
     (chk (aW .i64 (v+1)) <|
      some (.go (v+1))))
   (some (.out (.go ())))) 0) fun (_:Unit) =>
 none
noncomputable def jE (f':FV):Option FV :=
 some (FV.fn (FV.nil 291) f')
noncomputable def uL (f':FV):Option FV :=
 av (jE (FV.fn (FV.nil 307) f')) fun v =>
 some v
noncomputable def kQ (dy:Int) (dx:Int) (begin:Bool):Option FV :=
 av (uL (FV.bool (FV.int (FV.int (FV.nil 308) .i64 dy) .i64 dx) begin)) fun v =>
 some v
noncomputable def qH (f':FV):Option FV :=
 some (FV.fn (FV.nil 310) f')
noncomputable def tV (on:Bool):Option FV :=
 some (FV.bool (FV.nil 326) on)
noncomputable def LV (l':(List (List Int))) (k':Int) (usual:Int):Option Int :=
 chk ((!(if (decide (k' < 0))=true then true else (decide ((ah l')≤k'))))=true→0≤k'∧k' < (ah l')) <|
 chk ((!(if (if (decide (k' < 0))=true then true else (decide ((ah l')≤k')))=true then true else ((ah (au [] l' k')) == 0)))=true→0≤k'∧k' < (ah l')) <|
 chk ((!(if (if (decide (k' < 0))=true then true else (decide ((ah l')≤k')))=true then true else ((ah (au [] l' k')) == 0)))=true→(0:Int)≤0∧(0:Int) < (ah (au [] l' k'))) <|
 ay (if (if (if (decide (k' < 0))=true then true else (decide ((ah l')≤k')))=true then true else ((ah (au [] l' k')) == 0))=true then true else ((au 0 (au [] l' k') 0) == (-1)))
  (none)
  (chk (0≤k'∧k' < (ah l')) <|
   chk ((0:Int)≤0∧(0:Int) < (ah (au [] l' k'))) <|
   some (au 0 (au [] l' k') 0))
noncomputable def JF (a:dw):Option Int :=
 av (LV a.eu 0 0) fun v =>
 some v
noncomputable def Ep (s:bf) (t':ByteArray):Option bf :=
 aM (chk (aW .i64 ((ah s.lK)+(cZ t'))) <|
  ay (decide (4096 < ((ah s.lK)+(cZ t'))))
   (none)
   (chk (aW .i64 ((ah s.lK)+(cZ t'))) <|
    chk (gK 1 0 ((ah s.lK)+(cZ t'))) <|
    chk (dL 1 (0+(ah s.lK))) <|
    some (.go ((iG 0 0)++s.lK)))) fun out =>
 chk (dL 1 ((ah out)+(cZ t'))) <|
 some (bf.mk s.aR s.aT s.pX s.fM s.aK (out++(DJ t')) s.kY s.lM)
noncomputable def Es (c':cB) (r':bS):Option (Int × Int) :=
 av (mW c' r') fun v =>
 ay (!v)
  (none)
  (let y':=c'.fY
   ay c'.dH
    (none)
    (chk (aW .i64 (y'+1)) <|
     chk (aW .i64 (c'.fX+1)) <|
     some ((y'+1),(c'.fX+1))))
noncomputable def Ce (i:Int):Option ByteArray :=
 ay (decide (i < 10))
  (chk (aW .i64 (i+1)) <|
   chk (0≤i∧i≤(i+1)∧(i+1)≤(cZ kS7)) <|
   some (Dl kS7 i (i+1)))
  (none)
noncomputable def wh (i:Int) (base:Int):Option ByteArray :=
 ay (base == 10)
  (ay (if (decide (0≤i))=true then (decide (i < 100)) else false)
   (av (Ce i) fun v =>
    some v)
   (none))
  (none)
noncomputable def Et (i:Int):Option ByteArray :=
 av (wh i 10) fun v =>
 some v
noncomputable def strconv_Itoa (i:Int):Option ByteArray :=
 av (Et i) fun v =>
 some v
noncomputable def Gs (s:bf):Option ByteArray :=
 av (iX s) fun v =>
 av (Es v.fC v.fR) fun v1 =>
 let y':=v1.1
 let at':=v1.2
 av (strconv_Itoa y') fun v2 =>
 chk (aW .i64 (cZ v2+cZ (⟨#[59]⟩:ByteArray))) <|
 av (strconv_Itoa at') fun v3 =>
 chk (aW .i64 (cZ (EZ v2 (⟨#[59]⟩:ByteArray))+cZ v3)) <|
 chk (aW .i64 (cZ (EZ (EZ v2 (⟨#[59]⟩:ByteArray)) v3)+cZ (⟨#[82]⟩:ByteArray))) <|
 some (EZ (EZ (EZ v2 (⟨#[59]⟩:ByteArray)) v3) (⟨#[82]⟩:ByteArray))
noncomputable def Eu (s:bf) (u:dz) (a:dw):Option bf :=
 av (JF a) fun v =>
 ay (v == 5)
  (none)
  (ay (v == 6)
   (av (Gs s) fun v1 =>
    chk (aW .i64 (cZ (⟨#[27,91]⟩:ByteArray)+cZ v1)) <|
    av (Ep s (EZ (⟨#[27,91]⟩:ByteArray) v1)) fun v2 =>
    some v2)
   (none))
noncomputable def Ew (k':Int) (text:FV):Option FV :=
 some (FV.fn (FV.int (FV.nil 330) .i64 k') text)
noncomputable def y9  : Option (List bJ) :=
 av (uL (FV.nil 213)) fun v =>
 av (kQ (-1) 0 false) fun v1 =>
 av (kQ 1 0 false) fun v2 =>
 av (kQ 0 1 false) fun v3 =>
 av (kQ 0 (-1) false) fun v4 =>
 av (kQ 0 1 false) fun v3 =>
 av (kQ 1 0 false) fun v2 =>
 av (kQ 1 0 true) fun v5 =>
 av (kQ (-1) 0 true) fun v6 =>
 av (uL (FV.nil 216)) fun v7 =>
 av (jE (FV.nil 196)) fun v8 =>
 av (jE (FV.nil 219)) fun v9 =>
 av (qH (FV.nil 221)) fun v10 =>
 av (qH (FV.nil 222)) fun v11 =>
 av (jE (FV.nil 223)) fun v12 =>
 av (jE (FV.nil 224)) fun v13 =>
 av (jE (FV.nil 225)) fun v14 =>
 av (jE (FV.nil 226)) fun v15 =>
 av (jE (FV.nil 227)) fun v16 =>
 av (jE (FV.nil 228)) fun v17 =>
 av (jE (FV.nil 229)) fun v18 =>
 av (qH (FV.nil 231)) fun v19 =>
 av (tV true) fun v20 =>
 av (tV false) fun v21 =>
 av (Ew 0 (FV.nil 237)) fun v22 =>
 some ([(bJ.mk (⟨#[]⟩:ByteArray) 65 v1),(bJ.mk (⟨#[]⟩:ByteArray) 66 v2),(bJ.mk (⟨#[]⟩:ByteArray) 67 v3),(bJ.mk (⟨#[]⟩:ByteArray) 68 v4),(bJ.mk (⟨#[]⟩:ByteArray) 97 v3),(bJ.mk (⟨#[]⟩:ByteArray) 101 v2),(bJ.mk (⟨#[]⟩:ByteArray) 69 v5),(bJ.mk (⟨#[]⟩:ByteArray) 70 v6),(bJ.mk (⟨#[]⟩:ByteArray) 71 v),(bJ.mk (⟨#[]⟩:ByteArray) 96 v),(bJ.mk (⟨#[]⟩:ByteArray) 100 v7),(bJ.mk (⟨#[]⟩:ByteArray) 72 (FV.nil 218)),(bJ.mk (⟨#[]⟩:ByteArray) 102 (FV.nil 218)),(bJ.mk (⟨#[]⟩:ByteArray) 73 v8),(bJ.mk (⟨#[]⟩:ByteArray) 90 v9),(bJ.mk (⟨#[]⟩:ByteArray) 74 v10),(bJ.mk (⟨#[]⟩:ByteArray) 75 v11),(bJ.mk (⟨#[]⟩:ByteArray) 76 v12),(bJ.mk (⟨#[]⟩:ByteArray) 77 v13),(bJ.mk (⟨#[]⟩:ByteArray) 64 v14),(bJ.mk (⟨#[]⟩:ByteArray) 80 v15),(bJ.mk (⟨#[]⟩:ByteArray) 88 v16),(bJ.mk (⟨#[]⟩:ByteArray) 83 v17),(bJ.mk (⟨#[]⟩:ByteArray) 84 v18),(bJ.mk (⟨#[]⟩:ByteArray) 98 (FV.nil 230)),(bJ.mk (⟨#[]⟩:ByteArray) 103 v19),(bJ.mk (⟨#[]⟩:ByteArray) 109 (FV.nil 232)),(bJ.mk (⟨#[]⟩:ByteArray) 114 (FV.nil 233)),(bJ.mk (⟨#[]⟩:ByteArray) 115 (FV.nil 208)),(bJ.mk (⟨#[]⟩:ByteArray) 117 (FV.nil 209)),(bJ.mk (⟨#[]⟩:ByteArray) 104 v20),(bJ.mk (⟨#[]⟩:ByteArray) 108 v21),(bJ.mk (⟨#[]⟩:ByteArray) 110 (FV.nil 235)),(bJ.mk (⟨#[]⟩:ByteArray) 99 v22)]:List bJ)
noncomputable def W9 (v:FV) (a0:bf) (a1:dz) (a2:dw):Option bf:=match v with
 | .nil 235=>Eu a0 a1 a2
 | _=>none
noncomputable def OQ (s:bf) (d':dz) (a:dw):Option bf :=
 aM (av (mY s) fun v7 =>
  ay (!v7)
   (none)
   (some (.go ()))) fun (_:Unit) =>
 aM (ay (a.Ib == 1)
  (av (iX s) fun v =>
   av (JD v.fC.aN a.fR) fun v1 =>
   let r':=v1.2
   av (Dn s (bK.mk v.fG (cB.mk v.fC.fX v.fC.fY v.fC.bX v.fC.dH v.fC.bI v1.1) v.fR v.fT v.fK v.dJ v.bL)) fun v2 =>
   av (Eo v2 d' r') fun v3 =>
   some (.out v3))
  (ay (a.Ib == 2)
   (none)
   (ay (a.Ib == 3)
    (none)
    (ay (a.Ib == 4)
     (aM (ay (mD a.jD (⟨#[]⟩:ByteArray))
       (av (y9) fun v4 =>
        av (JE v4 (⟨#[]⟩:ByteArray) a.aed) fun v5 =>
        av (W9 v5 s d' a) fun v6 =>
        some (.out (.out v6)))
       (some (.go ()))) fun (_:Unit) =>
      none)
     (none))))) fun (_:Unit) =>
 none
noncomputable def xX (t':bP):Option bP :=
 av (vZ t') fun v =>
 some (bP.mk t'.fU t'.fP t'.fS (bH t'.jl (ah v.aS)))
noncomputable def OT (t':bP) (d':dz) (b:(List Int)):Option bP :=
 av (lu t') fun v =>
 ay (!v)
  (none)
  (av (TU t'.fU b) fun v1 =>
   av (LK t'.fP v1.2) fun v2 =>
   aM (bD (fun ((v4,DN):Int × bP) =>
    ay (decide (v4 < (ah v2.2)))
     (chk (0≤v4∧v4 < (ah v2.2)) <|
      av (OQ DN.fS d' (au vP v2.2 v4)) fun v5 =>
      chk (aW .i64 (v4+1)) <|
      some (.go ((v4+1),(bP.mk DN.fU DN.fP v5 DN.jl))))
     (some (.out (.go DN)))) (0,(bP.mk v1.1 v2.1 t'.fS t'.jl))) fun NJ =>
   av (xX NJ) fun v3 =>
   some v3)
noncomputable def AA (r':aQ):Option Int :=
 av (mP r') fun v =>
 ay (!v)
  (some 0)
  (aM (bD (fun ((n1,v1):Int × Int) =>
    ay (decide (v1 < (ah r'.aH)))
     (chk (0≤v1∧v1 < (ah r'.aH)) <|
      ay (if (!((au aD r'.aH v1).fR == 0))=true then true else (!(((au aD r'.aH v1).bI.jP == 0) && (((au aD r'.aH v1).bI.jQ == 0) && (((au aD r'.aH v1).bI.dU == 0) && true)))))
       (chk (aW .i64 (v1+(bR (au aD r'.aH v1).fW 1))) <|
        let n2:=(v1+(bR (au aD r'.aH v1).fW 1))
        chk (aW .i64 (v1+1)) <|
        some (.go (n2,(v1+1))))
       (chk (aW .i64 (v1+1)) <|
        some (.go (n1,(v1+1)))))
     (some (.out (.go n1)))) (0,0)) fun n =>
   some n)
noncomputable def xY (s:bK):Option Int :=
 let n:=s.fR.fH
 aM (bD (fun (n2:Int) =>
  chk (aW .i64 (s.fC.fY+1)) <|
  chk ((decide ((s.fC.fY+1) < n2))=true→aW .i64 (n2-1)) <|
  chk ((decide ((s.fC.fY+1) < n2))=true→0≤(n2-1)∧(n2-1) < (ah s.fG.aS)) <|
  av (if (decide ((s.fC.fY+1) < n2))=true then AA (au aA s.fG.aS (n2-1)) else some 0) fun v =>
  ay (if (decide ((s.fC.fY+1) < n2))=true then (v == 0) else false)
   (chk (aW .i64 (n2-1)) <|
    let n3:=(n2-1)
    some (.go n3))
   (some (.out (.go n2)))) n) fun n1 =>
 some n1
noncomputable def mQ (l':(List aQ)):Option Bool :=
 aM (bD (fun (v:Int) =>
  ay (decide (v < (ah l')))
   (chk (0≤v∧v < (ah l')) <|
    av (mP (au aA l' v)) fun v1 =>
    ay (!v1)
     (some (.out (.out false)))
     (chk (aW .i64 (v+1)) <|
      some (.go (v+1))))
   (some (.out (.go ())))) 0) fun (_:Unit) =>
 some true
noncomputable def oQ (c':aV):Option Bool :=
 av (DK lq) fun v =>
 some ((c'.fR == v.fR) && ((c'.fM.x0 == v.fM.x0) && ((c'.fM.x1 == v.fM.x1) && ((c'.fW == v.fW) && ((c'.bI.jP == v.bI.jP) && ((c'.bI.jQ == v.bI.jQ) && ((c'.bI.dU == v.bI.dU) && true)))))))
noncomputable def oK (l':(List aQ)) (y':Int):Option Int :=
 chk (0≤y'∧y' < (ah l')) <|
 let n:=(ah (au aA l' y').aH)
 chk (0≤y'∧y' < (ah l')) <|
 chk ((au aA l' y').bX=true→aW .i64 (y'+1)) <|
 chk ((if (au aA l' y').bX=true then (decide ((y'+1) < (ah l'))) else false)=true→0≤y'∧y' < (ah l')) <|
 chk ((if (au aA l' y').bX=true then (decide ((y'+1) < (ah l'))) else false)=true→aW .i64 (n-1)) <|
 chk ((if (au aA l' y').bX=true then (decide ((y'+1) < (ah l'))) else false)=true→0≤(n-1)∧(n-1) < (ah (au aA l' y').aH)) <|
 av (if (if (au aA l' y').bX=true then (decide ((y'+1) < (ah l'))) else false)=true then oQ (au aD (au aA l' y').aH (n-1)) else some false) fun v =>
 chk ((if (if (au aA l' y').bX=true then (decide ((y'+1) < (ah l'))) else false)=true then v else false)=true→aW .i64 (y'+1)) <|
 chk ((if (if (au aA l' y').bX=true then (decide ((y'+1) < (ah l'))) else false)=true then v else false)=true→0≤(y'+1)∧(y'+1) < (ah l')) <|
 chk ((if (if (au aA l' y').bX=true then (decide ((y'+1) < (ah l'))) else false)=true then v else false)=true→(0:Int)≤0∧(0:Int) < (ah (au aA l' (y'+1)).aH)) <|
 ay (if (if (if (au aA l' y').bX=true then (decide ((y'+1) < (ah l'))) else false)=true then v else false)=true then ((au aD (au aA l' (y'+1)).aH 0).fW == 2) else false)
  (chk (aW .i64 (n-1)) <|
   some (n-1))
  (some n)
noncomputable def xZ (l':(List aQ)) (y':Int) (at':Int):Option (j4 × Bool) :=
 av (mQ l') fun v =>
 chk ((!(if (if (if (!v)=true then true else (decide (y' < 0)))=true then true else (decide ((ah l')≤y')))=true then true else (decide (at' < 0))))=true→0≤y'∧y' < (ah l')) <|
 ay (if (if (if (if (!v)=true then true else (decide (y' < 0)))=true then true else (decide ((ah l')≤y')))=true then true else (decide (at' < 0)))=true then true else (decide ((ah (au aA l' y').aH)≤at')))
  (some (J7,false))
  (aM (bD (fun ((v1,RA,Vp):Int × Int × Int) =>
    ay (decide (v1 < y'))
     (chk (0≤v1∧v1 < (ah l')) <|
      ay (au aA l' v1).bX
       (av (oK l' v1) fun v2 =>
        chk (aW .i64 (Vp+v2)) <|
        chk (aW .i64 (v1+1)) <|
        some (.go ((v1+1),RA,(Vp+v2))))
       (chk (aW .i64 (RA+1)) <|
        chk (aW .i64 (v1+1)) <|
        some (.go ((v1+1),(RA+1),0))))
     (some (.out (.go (RA,Vp))))) (0,0,0)) fun (afC,acJ) =>
   chk (aW .i64 (acJ+at')) <|
   some ((j4.mk afC (acJ+at')),true))
noncomputable def oU (l':(List aV)):Option (List aV) :=
 aM (bD (fun (zD:List aV) =>
  chk ((decide (0 < (ah zD)))=true→aW .i64 ((ah zD)-1)) <|
  chk ((decide (0 < (ah zD)))=true→0≤((ah zD)-1)∧((ah zD)-1) < (ah zD)) <|
  av (if (decide (0 < (ah zD)))=true then oQ (au aD zD ((ah zD)-1)) else some false) fun v =>
  ay (if (decide (0 < (ah zD)))=true then v else false)
   (chk (aW .i64 ((ah zD)-1)) <|
    chk ((0:Int)≤0∧(0:Int)≤((ah zD)-1)∧((ah zD)-1)≤(ah zD)) <|
    some (.go (jw zD 0 ((ah zD)-1))))
   (some (.out (.go zD)))) l') fun gG =>
 some gG
noncomputable def yc (l':(List aQ)):Option (List aI) :=
 av (mQ l') fun v =>
 ay (!v)
  (some ([]:List aI))
  (aM (bD (fun ((Vq,v3,jV):Bool × Int × List aI) =>
    ay (decide (v3 < (ah l')))
     (aM (chk (0≤v3∧v3 < (ah l')) <|
       aM (ay (!Vq)
        (chk (dL 40 ((ah jV)+1)) <|
         some (.go (jV++([(aI.mk ([]:List aV) (au aA l' v3).dJ (au aA l' v3).bL)]:List aI))))
        (some (.go jV))) fun nD =>
       chk (aW .i64 ((ah nD)-1)) <|
       chk (0≤((ah nD)-1)∧((ah nD)-1) < (ah nD)) <|
       aM (av (oK l' v3) fun v4 =>
        chk ((0:Int)≤0∧(0:Int)≤v4∧v4≤(ah (au aA l' v3).aH)) <|
        bD (fun ((v5,dB):Int × List aI) =>
         ay (decide (v5 < (v4-0)))
          (chk (0≤v5∧v5 < (ah (jw (au aA l' v3).aH 0 v4))) <|
           ay (!((au aD (jw (au aA l' v3).aH 0 v4) v5).fW == 0))
            (chk (dL 56 ((ah (au aC dB ((ah dB)-1)).aH)+1)) <|
             chk (aW .i64 (v5+1)) <|
             some (.go ((v5+1),(eB dB ((ah dB)-1) (aI.mk ((au aC dB ((ah dB)-1)).aH++([(au aD (jw (au aA l' v3).aH 0 v4) v5)]:List aV)) (au aC dB ((ah dB)-1)).dJ (au aC dB ((ah dB)-1)).bL)))))
            (chk (aW .i64 (v5+1)) <|
             some (.go ((v5+1),dB))))
          (some (.out (.go dB)))) (0,nD)) fun rZ =>
       let apu:=(au aA l' v3).bX
       some (.go rZ)) fun sj =>
      chk (aW .i64 (v3+1)) <|
      some (.go ((au aA l' v3).bX,(v3+1),sj)))
     (some (.out (.go jV)))) (false,0,([]:List aI))) fun lines =>
   aM (bD (fun ((v1,qI):Int × List aI) =>
    ay (decide (v1 < (ah lines)))
     (chk (0≤v1∧v1 < (ah qI)) <|
      av (oU (au aC qI (0+v1)).aH) fun v2 =>
      chk (0≤v1∧v1 < (ah qI)) <|
      chk (aW .i64 (v1+1)) <|
      some (.go ((v1+1),(eB qI v1 (aI.mk v2 (au aC qI (0+v1)).dJ (au aC qI (0+v1)).bL)))))
     (some (.out (.go qI)))) (0,lines)) fun J9 =>
   some J9)
noncomputable def su (c':aV):Option (List aV) :=
 ay (c'.fW == 2)
  (some ([c',(aV.mk 0 iL 0 c'.bI)]:List aV))
  (some ([c']:List aV))
noncomputable def qV (x':aI):Option Bool :=
 ay (if (decide (x'.dJ < 0))=true then true else (decide (2 < x'.dJ)))
  (some false)
  (aM (bD (fun (v:Int) =>
    ay (decide (v < (ah x'.aH)))
     (chk (0≤v∧v < (ah x'.aH)) <|
      av (if (!(if (!((au aD x'.aH v).fW == 1))=true then (!((au aD x'.aH v).fW == 2)) else false))=true then su (au aD x'.aH v) else some []) fun v1 =>
      av (if (!(if (!((au aD x'.aH v).fW == 1))=true then (!((au aD x'.aH v).fW == 2)) else false))=true then mP (aQ.mk v1 false 0 false) else some false) fun v2 =>
      ay (if (if (!((au aD x'.aH v).fW == 1))=true then (!((au aD x'.aH v).fW == 2)) else false)=true then true else (!v2))
       (some (.out (.out false)))
       (chk (aW .i64 (v+1)) <|
        some (.go (v+1))))
     (some (.out (.go ())))) 0) fun (_:Unit) =>
   some true)
noncomputable def nE (x':aI) (w:Int):Option (List aQ) :=
 av (qV x') fun v =>
 ay (!v)
  (some ([]:List aQ))
  (let w1:=(bR 1 (bH w 4096))
   bD (fun ((left,l'):List aV × List aQ) =>
    av (wT w1 lq) fun v1 =>
    aM (bD (fun ((at',v2,o1):Int × Int × List aV) =>
     ay (decide (v2 < (ah left)))
      (chk (0≤v2∧v2 < (ah left)) <|
       ay (decide (w1 < (au aD left v2).fW))
        (chk (aW .i64 (v2+1)) <|
         some (.go (at',(v2+1),o1)))
        (chk (aW .i64 (at'+(au aD left v2).fW)) <|
         ay (decide (w1 < (at'+(au aD left v2).fW)))
          (chk (dL 48 ((ah l')+1)) <|
           chk (0≤v2∧v2≤(ah left)∧(ah left)≤(ah left)) <|
           some (.out (.out (.go ((jw left v2 (ah left)),(l'++([(aQ.mk o1 true x'.dJ x'.bL)]:List aQ)))))))
          (chk (0≤at'∧at'≤(ah v1.aH)∧(ah v1.aH)≤(ah v1.aH)) <|
           av (su (au aD left v2)) fun v3 =>
           chk (aW .i64 (at'+(bH (ah v3) ((ah v1.aH)-at')))) <|
           let Ei:=(at'+(bH (ah v3) ((ah v1.aH)-at')))
           chk (aW .i64 (v2+1)) <|
           some (.go (Ei,(v2+1),(En o1 (0+at') v3 (bH (ah v3) ((ah v1.aH)-at'))))))))
      (some (.out (.go o1)))) (0,0,v1.aH)) fun o =>
    chk (dL 48 ((ah l')+1)) <|
    some (.out (l'++([(aQ.mk o v1.bX x'.dJ x'.bL)]:List aQ)))) (x'.aH,([]:List aQ)))
noncomputable def l7 (l':(List aI)) (w:Int):Option (List aQ) :=
 aM (bD (fun ((v,all1):Int × List aQ) =>
  ay (decide (v < (ah l')))
   (chk (0≤v∧v < (ah l')) <|
    av (nE (au aC l' v) w) fun v1 =>
    chk (dL 48 ((ah all1)+(ah v1))) <|
    chk (aW .i64 (v+1)) <|
    some (.go ((v+1),(all1++v1))))
   (some (.out (.go all1)))) (0,([]:List aQ))) fun all =>
 some all
noncomputable def wm (l':(List aI)) (w:Int) (p':j4):Option (Int × Int × Bool) :=
 ay (if (if (decide (p'.j5 < 0))=true then true else (decide ((ah l')≤p'.j5)))=true then true else (decide (p'.ko < 0)))
  (some (0,0,false))
  (aM (bD (fun (v4:Int) =>
    ay (decide (v4 < (ah l')))
     (chk (0≤v4∧v4 < (ah l')) <|
      av (qV (au aC l' v4)) fun v5 =>
      ay (!v5)
       (some (.out (.out (0,0,false))))
       (chk (aW .i64 (v4+1)) <|
        some (.go (v4+1))))
     (some (.out (.go ())))) 0) fun (_:Unit) =>
   chk ((0:Int)≤0∧(0:Int)≤p'.j5∧p'.j5≤(ah l')) <|
   av (l7 (jw l' 0 p'.j5) w) fun v =>
   let y':=(ah v)
   chk (0≤p'.j5∧p'.j5 < (ah l')) <|
   av (nE (au aC l' p'.j5) w) fun v1 =>
   chk (aW .i64 ((ah v1)-1)) <|
   let left:=p'.ko
   let last:=((ah v1)-1)
   aM (bD (fun ((LW,v2):Int × Int) =>
    ay (decide (v2 < last))
     (av (oK v1 v2) fun v3 =>
      ay (decide (LW < v3))
       (chk (aW .i64 (y'+v2)) <|
        some (.out (.out ((y'+v2),LW,true))))
       (chk (aW .i64 (LW-v3)) <|
        let aml:=(LW-v3)
        chk (aW .i64 (v2+1)) <|
        some (.go (aml,(v2+1)))))
     (some (.out (.go LW)))) (left,0)) fun Y1 =>
   chk (aW .i64 (y'+last)) <|
   chk (0≤last∧last < (ah v1)) <|
   chk (aW .i64 ((ah (au aA v1 (0+last)).aH)-1)) <|
   some ((y'+last),(bH Y1 ((ah (au aA v1 (0+last)).aH)-1)),true))
noncomputable def uM (l':(List aQ)) (w:Int) (y':Int) (at':Int):Option ((List aQ) × Int × Int) :=
 av (xZ l' y' at') fun v =>
 let ok:=v.2
 ay (!ok)
  (some (l',y',at'))
  (av (yc l') fun v1 =>
   av (wm v1 w v.1) fun v2 =>
   let toY:=v2.1
   let aow:=v2.2.1
   let u:=v2.2.2
   av (l7 v1 w) fun v3 =>
   some (v3,toY,aow))
noncomputable def wu (k':dS) (l':(List aQ)):Option dS :=
 av (pF k') fun v =>
 ay (!v)
  (some wQ)
  (chk (dL 48 (ah k'.aS)) <|
   aM (bD (fun ((v1,all1):Int × List aQ) =>
    ay (decide (v1 < (ah l')))
     (chk (0≤v1∧v1 < (ah l')) <|
      av (mP (au aA l' v1)) fun v2 =>
      ay v2
       (chk (dL 48 ((ah all1)+1)) <|
        chk (aW .i64 (v1+1)) <|
        some (.go ((v1+1),(all1++([(au aA l' v1)]:List aQ)))))
       (chk (aW .i64 (v1+1)) <|
        some (.go ((v1+1),all1))))
     (some (.out (.go all1)))) (0,k'.aS)) fun all =>
   let n:=(ah all)
   chk (aW .i64 (n-k'.iF)) <|
   chk (0≤(bR 0 (n-k'.iF))∧(bR 0 (n-k'.iF))≤n∧n≤(ah all)) <|
   chk (0≤n∧n≤n∧n≤(ah all)) <|
   some (dS.mk (jw all (0+(bR 0 (n-k'.iF))) ((0+(bR 0 (n-k'.iF)))+(n-(bR 0 (n-k'.iF))))) k'.iF))
noncomputable def nW (c':cB) (r':bS) (h':Int) (w:Int):Option (cB × bS) :=
 av (qF h' w) fun v =>
 av (mW c' r') fun v1 =>
 ay (!v1)
  (some (v.1,v.2))
  (chk (aW .i64 (v.2.fW-1)) <|
   av (mO c'.fX 0 (v.2.fW-1)) fun v2 =>
   chk (aW .i64 (v.2.fH-1)) <|
   av (mO c'.fY 0 (v.2.fH-1)) fun v3 =>
   some ((cB.mk v2 v3 false false c'.bI c'.aN),v.2))
noncomputable def Ey (x':Int) (cap0:Int):Option Bool :=
 some (decide (x' < cap0))
noncomputable def RB (v:FV) (a0:Int):Option Bool:=match v with
 | .int (.nil 132) .i64 c0=>Ey a0 c0
 | _=>none
noncomputable def yg (s:eF) (keep:FV):Option (List Int) :=
 aM (bD (fun ((v,gG):Int × List Int) =>
  ay (decide (v < (ah s.fL)))
   (chk (0≤v∧v < (ah s.fL)) <|
    let x':=(au 0 s.fL v)
    av (RB keep x') fun v1 =>
    ay v1
     (chk (dL 8 ((ah gG)+1)) <|
      chk (aW .i64 (v+1)) <|
      some (.go ((v+1),(gG++([x']:List Int)))))
     (chk (aW .i64 (v+1)) <|
      some (.go ((v+1),gG))))
   (some (.out (.go gG)))) (0,([]:List Int))) fun l' =>
 some l'
noncomputable def yh (s:eF) (w:Int):Option eF :=
 av (zC s) fun v =>
 ay (!v)
  (av (LD 80) fun v1 =>
   some v1)
  (av (EX w) fun v2 =>
   av (yg s (FV.int (FV.nil 132) .i64 v2)) fun v3 =>
   aM (chk (aW .i64 (s.fW+8)) <|
    chk (aW .i64 ((s.fW+8)-1)) <|
    chk ((8:Int)≠0) <|
    chk (aW .i64 (Int.tdiv ((s.fW+8)-1) 8)) <|
    chk (aW .i64 ((Int.tdiv ((s.fW+8)-1) 8)*8)) <|
    let at':=((Int.tdiv ((s.fW+8)-1) 8)*8)
    bD (fun ((Ei,gG):Int × List Int) =>
     ay (decide (Ei < v2))
      (chk (dL 8 ((ah gG)+1)) <|
       chk (aW .i64 (Ei+8)) <|
       let aox:=(Ei+8)
       some (.go (aox,(gG++([Ei]:List Int)))))
      (some (.out (.go gG)))) (at',v3)) fun l' =>
   some (eF.mk l' v2))
noncomputable def qo (s:bK) (h':Int) (w:Int):Option bK :=
 av (mX s) fun v =>
 ay (!v)
  (some s)
  (let Zq:=(bR 1 (bH h' 1000))
   let w1:=(bR 1 (bH w 4096))
   ay (if (Zq == s.fR.fH)=true then (w1 == s.fR.fW) else false)
    (some s)
    (av (xY s) fun v1 =>
     chk ((0:Int)≤0∧(0:Int)≤v1∧v1≤(ah s.fG.aS)) <|
     av (uM (jw s.fG.aS 0 v1) w1 s.fC.fY s.fC.fX) fun v2 =>
     let y':=v2.2.1
     let x':=v2.2.2
     chk (aW .i64 ((ah v2.1)-Zq)) <|
     let gone:=(bR 0 (bH ((ah v2.1)-Zq) y'))
     chk ((0:Int)≤0∧(0:Int)≤gone∧gone≤(ah v2.1)) <|
     av (wu s.fK (jw v2.1 0 gone)) fun v3 =>
     chk (gK 48 0 Zq) <|
     aM (chk (0≤gone∧gone≤(ah v2.1)∧(ah v2.1)≤(ah v2.1)) <|
      bD (fun ((v7,E5):Int × List aQ) =>
       ay (decide (v7 < ((ah v2.1)-gone)))
        (chk (0≤v7∧v7 < (ah (jw v2.1 gone (ah v2.1)))) <|
         ay (decide ((ah E5) < Zq))
          (chk (dL 48 ((ah E5)+1)) <|
           chk (aW .i64 (v7+1)) <|
           some (.go ((v7+1),(E5++([(au aA (jw v2.1 gone (ah v2.1)) v7)]:List aQ)))))
          (chk (aW .i64 (v7+1)) <|
           some (.go ((v7+1),E5))))
        (some (.out (.go E5)))) (0,(iG 0 aA))) fun rows =>
     aM (bD (fun (E8:List aQ) =>
      ay (decide ((ah E8) < Zq))
       (av (wT w1 lq) fun v6 =>
        chk (dL 48 ((ah E8)+1)) <|
        some (.go (E8++([v6]:List aQ))))
       (some (.out (.go E8)))) rows) fun RD =>
     av (nW s.fC s.fR Zq w1) fun v4 =>
     chk (aW .i64 (y'-gone)) <|
     av (yh s.fT w1) fun v5 =>
     some (bK.mk (eP.mk RD) (cB.mk x' (y'-gone) v4.1.bX v4.1.dH v4.1.bI v4.1.aN) v4.2 v5 v3 s.dJ s.bL)))
noncomputable def uN (s:bf) (h':Int) (w:Int):Option bf :=
 av (mY s) fun v =>
 ay (!v)
  (some s)
  (av (vY s.aR.fR) fun v1 =>
   av (qF h' w) fun v2 =>
   ay ((v2.2.fH == v1.fH) && ((v2.2.fW == v1.fW) && ((v2.2.jO == v1.jO) && ((v2.2.eZ == v1.eZ) && true))))
    (some s)
    (av (qo s.aR h' w) fun v3 =>
     av (qo s.aT h' w) fun v4 =>
     aM (aM (av (nW s.aK.x0 v1 h' w) fun v6 =>
       chk (aW .i64 (0+1)) <|
       some (.go (bf.mk v3 v4 s.pX s.fM (fO.mk v6.1 s.aK.x1) s.lK s.kY s.lM))) fun s2 =>
      aM (av (nW s.aK.x1 v1 h' w) fun v5 =>
       chk (aW .i64 (1+1)) <|
       some (.go (bf.mk s2.aR s2.aT s2.pX s2.fM (fO.mk s2.aK.x0 v5.1) s2.lK s2.kY s2.lM))) fun s3 =>
      some (.go s3)) fun s1 =>
     some s1))
noncomputable def mZ (t':bP) (h':Int) (w:Int):Option bP :=
 av (lu t') fun v =>
 ay (if (if (if (if (!v)=true then true else (decide (h' < 1)))=true then true else (decide (1000 < h')))=true then true else (decide (w < 1)))=true then true else (decide (4096 < w)))
  (some t')
  (av (uN t'.fS h' w) fun v1 =>
   av (xX (bP.mk t'.fU t'.fP v1 t'.jl)) fun v2 =>
   some v2)
noncomputable def Ci (k':dS) (g':eP) (back:Int):Option (List aQ) :=
 aM (av (pF k') fun v1 =>
  av (if (!(!v1))=true then vX g' else some false) fun v2 =>
  ay (if (!v1)=true then true else (!v2))
   (none)
   (chk (dL 48 (ah k'.aS)) <|
    chk (dL 48 ((ah k'.aS)+(ah g'.aS))) <|
    some (.go ()))) fun (_:Unit) =>
 av (vI back (ah k'.aS)) fun v =>
 chk (aW .i64 (((ah k'.aS)+(ah g'.aS))-v)) <|
 let to:=(((ah k'.aS)+(ah g'.aS))-v)
 chk (aW .i64 (to-(ah g'.aS))) <|
 chk (0≤(to-(ah g'.aS))∧(to-(ah g'.aS))≤to∧to≤((ah k'.aS)+(ah g'.aS))) <|
 chk (0≤to∧to≤to∧to≤((ah k'.aS)+(ah g'.aS))) <|
 some (jw (k'.aS++g'.aS) (0+(to-(ah g'.aS))) ((0+(to-(ah g'.aS)))+(to-(to-(ah g'.aS)))))
noncomputable def OU (t':bP):Option (List aQ) :=
 av (lu t') fun v =>
 ay (!v)
  (none)
  (av (iX t'.fS) fun v1 =>
   av (sS t'.fS.fM true 2501) fun v2 =>
   av (vZ t') fun v3 =>
   av (Ci v3 v1.fG t'.jl) fun v4 =>
   chk (gK 48 (ah v4) (ah v4)) <|
   aM (bD (fun ((v5,aO):Int × List aQ) =>
    ay (decide (v5 < (ah v4)))
     (chk (0≤v5∧v5 < (ah v4)) <|
      ay (!((ah (au aA v4 (0+v5)).aH) == v1.fR.fW))
       (none)
       (ay v2
        (none)
        (chk (0≤v5∧v5 < (ah v4)) <|
         chk (aW .i64 (v5+1)) <|
         some (.go ((v5+1),(eB aO v5 (au aA v4 (0+v5))))))))
     (some (.out (.go aO)))) (0,(iG (ah v4) aA))) fun out =>
   some out)
noncomputable def LX (t':bP):Option Bool :=
 av (sS t'.fS.fM true 2500) fun v =>
 some v
noncomputable def OV (l':(List aQ)):Option Bool :=
 aM (bD (fun (v:Int) =>
  ay (decide (v < (ah l')))
   (chk (0≤v∧v < (ah l')) <|
    av (mP (au aA l' v)) fun v1 =>
    ay (!v1)
     (none)
     (chk (aW .i64 (v+1)) <|
      some (.go (v+1))))
   (some (.out (.go ())))) 0) fun (_:Unit) =>
 some true
noncomputable def AB (r':aQ):Option ((List Int) × (List Int)) :=
 aM (bD (fun ((v,aO,uS):Int × List Int × List Int) =>
  ay (decide (v < (ah r'.aH)))
   (chk (0≤v∧v < (ah r'.aH)) <|
    ay ((au aD r'.aH v).fW == 0)
     (chk (aW .i64 (v+1)) <|
      some (.go ((v+1),aO,uS)))
     (let x':=(au aD r'.aH v).fR
      ay (x' == 0)
       (chk (dL 8 ((ah aO)+1)) <|
        chk (dL 8 ((ah uS)+1)) <|
        chk (aW .i64 (v+1)) <|
        some (.go ((v+1),(aO++([32]:List Int)),(uS++([(au aD r'.aH v).fW]:List Int)))))
       (chk (dL 8 ((ah aO)+1)) <|
        chk (dL 8 ((ah uS)+1)) <|
        chk (aW .i64 (v+1)) <|
        some (.go ((v+1),(aO++([x']:List Int)),(uS++([(au aD r'.aH v).fW]:List Int)))))))
   (some (.out (.go (aO,uS))))) (0,([]:List Int),([]:List Int))) fun (out,widths) =>
 some (out,widths)
noncomputable def Dp (l':(List aQ)):Option (List Int) :=
 aM (bD (fun ((v,aO):Int × List Int) =>
  ay (decide (v < (ah l')))
   (chk (0≤v∧v < (ah l')) <|
    av (AB (au aA l' v)) fun v1 =>
    chk (dL 8 ((ah aO)+(ah v1.1))) <|
    chk (aW .i64 (v+1)) <|
    some (.go ((v+1),(aO++v1.1))))
   (some (.out (.go aO)))) (0,([]:List Int))) fun out =>
 some out
noncomputable def Iw (d':dz) (r':Int):Option Int :=
 av (Az d'.Zh r') fun v =>
 ay (decide (0 < v))
  (some v)
  (some 1)
noncomputable def Gt (d':dz) (r':(List Int)):Option (List Int) :=
 chk (gK 8 (ah r') (ah r')) <|
 aM (bD (fun ((v,aO):Int × List Int) =>
  ay (decide (v < (ah r')))
   (chk (0≤v∧v < (ah r')) <|
    let x':=(au 0 r' v)
    av (Iw d' x') fun v1 =>
    chk (0≤v∧v < (ah r')) <|
    chk (aW .i64 (v+1)) <|
    some (.go ((v+1),(eB aO v v1))))
   (some (.out (.go aO)))) (0,(iG (ah r') 0))) fun out =>
 some out
noncomputable def JG (l':(List Int)):Option (List Int) :=
 chk (gK 8 (ah l') (ah l')) <|
 aM (bD (fun ((v,aO):Int × List Int) =>
  ay (decide (v < (ah l')))
   (chk (0≤v∧v < (ah l')) <|
    let c':=(au 0 l' v)
    ay (if (decide (c' < 1))=true then true else (decide (23 < c')))
     (none)
     (chk (0≤v∧v < (ah l')) <|
      chk (aW .i64 (v+1)) <|
      some (.go ((v+1),(eB aO v c')))))
   (some (.out (.go aO)))) (0,(iG (ah l') 0))) fun out =>
 some out
noncomputable def yj (l':(List Int)):Option (List Int) :=
 chk (gK 8 (ah l') (ah l')) <|
 aM (bD (fun ((v,aO):Int × List Int) =>
  ay (decide (v < (ah l')))
   (aM (chk (0≤v∧v < (ah l')) <|
     let c':=(au 0 l' v)
     chk (0≤v∧v < (ah l')) <|
     aM (ay (c' == 20)
      (some (.go (c' == 20)))
      (ay (c' == 21)
       (some (.go (c' == 21)))
       (some (.go (c' == 22))))) fun v1 =>
     ay v1
      (none)
      (ay (c' == 23)
       (none)
       (ay (c' == 11)
        (none)
        (some (.go ()))))) fun (_:Unit) =>
    chk (aW .i64 (v+1)) <|
    some (.go ((v+1),(eB aO v (-1)))))
   (some (.out (.go aO)))) (0,(iG (ah l') 0))) fun out =>
 some out
noncomputable def wz (base:Int):Option Int :=
 chk ((2:Int)≠0) <|
 some (Int.tmod (bR base 0) 2)
noncomputable def Xa (s:iK) (x':iw):Option (iK) :=
 chk (dL 24 ((ah s.fl)+1)) <|
 some (iK.mk (s.fl++([x']:List iw)))
noncomputable def Xb (s:iK):Option iw :=
 chk (aW .i64 ((ah s.fl)-1)) <|
 chk (0≤((ah s.fl)-1)∧((ah s.fl)-1) < (ah s.fl)) <|
 some (au rP s.fl ((ah s.fl)-1))
noncomputable def Zr (m:kF) (i:Int):Option (kF) :=
 av (Xb m.zU) fun v =>
 chk (0≤i∧i < (ah m.kU.iY)) <|
 ay (!(v.X3 == 14))
  (none)
  (some (kF.mk m.fl m.JY m.ET (iN.mk (eB m.kU.iY i v.aeg) m.kU.lN m.kU.jm) m.zU m.Dz m.xM m.Oq))
noncomputable def Cj (l':(List Int)) (base:Int):Option iN :=
 aM (av (JG l') fun v5 =>
  av (yj v5) fun v6 =>
  av (wz base) fun v7 =>
  chk (gK 8 (ah v5) (ah v5)) <|
  chk (dL 8 (ah v5)) <|
  chk (gK 1 (ah v5) (ah v5)) <|
  some (.go (v5,v5,v6,v7,(iG (ah v5) 0),v5,(iG (ah v5) false),([]:List iw)))) fun (gG,afD,afE,Xc,o,o1,o2,o3) =>
 av (Xa (iK.mk o3) (iw.mk Xc 14 false)) fun v =>
 aM (bD (fun ((v1,RF,RG,RH,RI,RJ,RL,o8,o9,Iy,Iz):Int × List Int × List Int × Int × Int × Int × Int × List Int × List Int × List Bool × List iw) =>
  ay (decide (v1 < (ah gG)))
   (aM (chk (0≤v1∧v1 < (ah gG)) <|
     let c':=(au 0 gG v1)
     aM (ay (c' == 17)
      (some (.go (c' == 17)))
      (ay (c' == 15)
       (some (.go (c' == 15)))
       (ay (c' == 18)
        (some (.go (c' == 18)))
        (some (.go (c' == 16)))))) fun v2 =>
     ay v2
      (none)
      (aM (ay (c' == 21)
        (some (.go (c' == 21)))
        (ay (c' == 20)
         (some (.go (c' == 20)))
         (some (.go (c' == 22))))) fun v3 =>
       ay v3
        (none)
        (ay (c' == 23)
         (none)
         (ay (c' == 19)
          (none)
          (ay (c' == 11)
           (none)
           (ay (c' == 10)
            (none)
            (av (Zr (kF.mk RF RG RH (iN.mk o8 o9 Iy) (iK.mk Iz) RI RJ RL) v1) fun v4 =>
             some (.go (v4.fl,v4.JY,v4.ET,v4.Dz,v4.xM,v4.Oq,v4.kU.iY,v4.kU.lN,v4.kU.jm,v4.zU.fl))))))))) fun (acK,acL,acM,acN,acO,acP,OW,OX,OY,o15) =>
    chk (aW .i64 (v1+1)) <|
    some (.go ((v1+1),acK,acL,acM,acN,acO,acP,OW,OX,OY,o15)))
   (some (.out (.go (RF,RG,RH,RI,RJ,RL,o8,o9,Iy,Iz))))) (0,afD,afE,Xc,0,0,0,o,o1,o2,v.fl)) fun (agV,agW,agX,ai2,ai3,ai4,o4,o5,o6,o7) =>
 some (iN.mk o4 o5 o6)
noncomputable def iI (s:(List Int)):Option (List Int) :=
 lI (ah s)
  (aM (none) fun (_:Unit) =>
   chk (dL 8 (ah s)) <|
   some s)
  (aM (some (.go ())) fun (_:Unit) =>
   chk (dL 8 (ah s)) <|
   some s)
noncomputable def E9 (l':(List Int)) (r':iN):Option Bool :=
 some (if (if ((ah r'.iY) == (ah l'))=true then ((ah r'.lN) == (ah l')) else false)=true then ((ah r'.jm) == (ah l')) else false)
noncomputable def LY (r':iN):Option (List (List Int)) :=
 aM (bD (fun ((v,aO):Int × List (List Int)) =>
  ay (decide (v < (ah r'.jm)))
   (chk (0≤v∧v < (ah r'.jm)) <|
    let gone:=(au false r'.jm v)
    ay gone
     (chk (aW .i64 (v+1)) <|
      some (.go ((v+1),aO)))
     (let n:=(ah aO)
      chk ((!(n == 0))=true→aW .i64 (n-1)) <|
      chk ((!(n == 0))=true→0≤(n-1)∧(n-1) < (ah aO)) <|
      chk ((!(n == 0))=true→(0:Int)≤0∧(0:Int) < (ah (au [] aO ((ah aO)-1)))) <|
      chk ((!(n == 0))=true→0≤(au 0 (au [] aO ((ah aO)-1)) (0+0))∧(au 0 (au [] aO ((ah aO)-1)) (0+0)) < (ah r'.iY)) <|
      chk ((!(n == 0))=true→0≤v∧v < (ah r'.iY)) <|
      ay (if (n == 0)=true then true else (!((au 0 r'.iY (au 0 (au [] aO ((ah aO)-1)) (0+0))) == (au 0 r'.iY v))))
       (chk (dL 24 ((ah aO)+1)) <|
        chk (aW .i64 (v+1)) <|
        some (.go ((v+1),(aO++([([v]:List Int)]:List (List Int))))))
       (chk (aW .i64 (n-1)) <|
        chk (aW .i64 (n-1)) <|
        chk (0≤(n-1)∧(n-1) < (ah aO)) <|
        chk (dL 8 ((ah (au [] aO ((ah aO)-1)))+1)) <|
        chk (0≤(n-1)∧(n-1) < (ah aO)) <|
        chk (aW .i64 (v+1)) <|
        some (.go ((v+1),(eB aO (n-1) ((au [] aO ((ah aO)-1))++([v]:List Int))))))))
   (some (.out (.go aO)))) (0,([]:List (List Int)))) fun out =>
 some out
noncomputable def yL (c':Int):Option Bool :=
 some (if (if (c' == 20)=true then true else (c' == 21))=true then true else (c' == 22))
noncomputable def AJ (l':(List Int)) (r':iN) (base:Int):Option (List (List Int)) :=
 av (E9 l' r') fun v =>
 ay (!v)
  (none)
  (av (yj l') fun v1 =>
   av (LY r') fun v2 =>
   chk (aW .i64 ((ah l')+1)) <|
   chk (gK 8 ((ah l')+1) ((ah l')+1)) <|
   aM (bD (fun ((v7,OZ):Int × List Int) =>
    ay (decide (v7 < ((ah l')+1)))
     (chk (0≤v7∧v7 < ((ah l')+1)) <|
      chk (aW .i64 (v7+1)) <|
      some (.go ((v7+1),(eB OZ v7 (-1)))))
     (some (.out (.go OZ)))) (0,(iG ((ah l')+1) 0))) fun heads =>
   aM (bD (fun ((v6,O0):Int × List Int) =>
    ay (decide (v6 < (ah v2)))
     (chk (0≤v6∧v6 < (ah v2)) <|
      chk ((0:Int)≤0∧(0:Int) < (ah (au [] v2 (0+v6)))) <|
      chk (0≤(au 0 (au [] v2 (0+v6)) 0)∧(au 0 (au [] v2 (0+v6)) 0) < ((ah l')+1)) <|
      chk (aW .i64 (v6+1)) <|
      some (.go ((v6+1),(eB O0 (au 0 (au [] v2 (0+v6)) 0) v6))))
     (some (.out (.go O0)))) (0,heads)) fun Vr =>
   chk (gK 8 (ah v2) (ah v2)) <|
   chk (gK 1 (ah v2) (ah v2)) <|
   aM (bD (fun ((v4,Ko):Int × List Int) =>
    ay (decide (v4 < (ah v2)))
     (chk (0≤v4∧v4 < (ah v2)) <|
      chk (0≤v4∧v4 < (ah v2)) <|
      chk (aW .i64 ((ah (au [] v2 (0+v4)))-1)) <|
      chk (0≤((ah (au [] v2 (0+v4)))-1)∧((ah (au [] v2 (0+v4)))-1) < (ah (au [] v2 (0+v4)))) <|
      let end':=(au 0 (au [] v2 (0+v4)) ((ah (au [] v2 (0+v4)))-1))
      chk (0≤end'∧end' < (ah l')) <|
      av (yL (au 0 l' end')) fun v5 =>
      ay (!v5)
       (chk (aW .i64 (v4+1)) <|
        some (.go ((v4+1),(eB Ko v4 (-1)))))
       (none))
     (some (.out (.go Ko)))) (0,(iG (ah v2) 0))) fun behind =>
   aM (bD (fun ((v3,aO):Int × List (List Int)) =>
    ay (decide (v3 < (ah v2)))
     (aM (chk (0≤v3∧v3 < (ah v2)) <|
       ay (au false (iG (ah v2) false) (0+v3))
        (some (.go aO))
        (aM (bD (fun ((at',seq1):Int × List Int) =>
          ay (decide (0≤at'))
           (chk (0≤at'∧at' < (ah v2)) <|
            chk (dL 8 ((ah seq1)+(ah (au [] v2 (0+at'))))) <|
            chk (0≤at'∧at' < (ah v2)) <|
            let Ei:=(au 0 behind (0+at'))
            some (.go (Ei,(seq1++(au [] v2 (0+at'))))))
           (some (.out (.go seq1)))) (v3,([]:List Int))) fun seq =>
         chk (dL 24 ((ah aO)+1)) <|
         some (.go (aO++([seq]:List (List Int)))))) fun jy =>
      chk (aW .i64 (v3+1)) <|
      some (.go ((v3+1),jy)))
     (some (.out (.go aO)))) (0,([]:List (List Int)))) fun out =>
   some out)
noncomputable def IB (l':(List Int)) (seq:(List Int)):Option (List Int) :=
 chk (gK 8 (ah seq) (ah seq)) <|
 aM (bD (fun ((v,aO):Int × List Int) =>
  ay (decide (v < (ah seq)))
   (chk (0≤v∧v < (ah seq)) <|
    let at':=(au 0 seq v)
    chk (0≤at'∧at' < (ah l')) <|
    chk (0≤v∧v < (ah seq)) <|
    chk (aW .i64 (v+1)) <|
    some (.go ((v+1),(eB aO v (au 0 l' at')))))
   (some (.out (.go aO)))) (0,(iG (ah seq) 0))) fun out =>
 some out
noncomputable def Fb (level:Int):Option Int :=
 ay ((y8 .i64 level 1) == 1)
  (none)
  (some 1)
noncomputable def JH (l':(List Int)) (r':iN) (base:Int) (seq:(List Int)):Option (Int × Int) :=
 av (E9 l' r') fun v =>
 ay (if (!v)=true then true else ((ah seq) == 0))
  (none)
  (aM (bD (fun (v5:Int) =>
    ay (decide (v5 < (ah seq)))
     (chk (0≤v5∧v5 < (ah seq)) <|
      let at':=(au 0 seq v5)
      ay (if (decide (at' < 0))=true then true else (decide ((ah l')≤at')))
       (none)
       (chk (aW .i64 (v5+1)) <|
        some (.go (v5+1))))
     (some (.out (.go ())))) 0) fun (_:Unit) =>
   chk ((0:Int)≤0∧(0:Int) < (ah seq)) <|
   chk (aW .i64 ((ah seq)-1)) <|
   chk (0≤((ah seq)-1)∧((ah seq)-1) < (ah seq)) <|
   let first:=(au 0 seq 0)
   let last:=(au 0 seq ((ah seq)-1))
   av (wz base) fun v1 =>
   av (wz base) fun v1 =>
   aM (chk (aW .i64 (first-1)) <|
    let i1:=(first-1)
    bD (fun (_:Unit) =>
     ay (decide (0≤i1))
      (none)
      (some (.out (.go ())))) ()) fun (_:Unit) =>
   aM (chk (0≤last∧last < (ah l')) <|
    av (yL (au 0 l' last)) fun v3 =>
    av (if (!(!v3))=true then yj l' else some []) fun v4 =>
    chk ((!(!v3))=true→0≤last∧last < (ah v4)) <|
    ay (if (!v3)=true then true else (decide ((au 0 v4 last) < (ah l'))))
     (chk (aW .i64 (last+1)) <|
      let i:=(last+1)
      bD (fun (_:Unit) =>
       ay (decide (i < (ah l')))
        (none)
        (some (.out (.go ())))) ())
     (some (.go ()))) fun (_:Unit) =>
   chk (0≤first∧first < (ah r'.iY)) <|
   let level:=(au 0 r'.iY first)
   av (Fb (bR level v1)) fun v2 =>
   av (Fb (bR level v1)) fun v2 =>
   some (v2,v2))
noncomputable def w1 (t':gu):Option (List Int) :=
 let ahead:=t'.xE
 bD (fun ((uO,v):Int × Int) =>
  ay (decide (v < (ah t'.fl)))
   (aM (chk (0≤v∧v < (ah t'.fl)) <|
     let c':=(au 0 t'.fl (0+v))
     aM (ay (c' == 9)
      (none)
      (some (.go ()))) fun (_:Unit) =>
     chk (0≤v∧v < (ah t'.fl)) <|
     let AL:=(au 0 t'.fl (0+v))
     ay (AL == 20)
      (ay (AL == 20)
       (none)
       (some (.go ())))
      (ay (AL == 21)
       (ay (AL == 21)
        (none)
        (some (.go ())))
       (ay (AL == 22)
        (ay (AL == 22)
         (none)
         (some (.go ())))
        (ay (AL == 23)
         (none)
         (some (.go ())))))) fun (_:Unit) =>
    chk (aW .i64 (v+1)) <|
    some (.go ((au 0 t'.fl (0+v)),(v+1))))
   (some (.out t'.fl))) (ahead,0)
noncomputable def w2 (t':gu):Option (List Int) :=
 let last:=t'.xE
 bD (fun ((IC,v):Int × Int) =>
  ay (decide (v < (ah t'.fl)))
   (aM (chk (0≤v∧v < (ah t'.fl)) <|
     let c':=(au 0 t'.fl (0+v))
     aM (ay (c' == 2)
      (some (.go (c' == 2)))
      (ay (c' == 1)
       (some (.go (c' == 1)))
       (some (.go (c' == 3))))) fun v1 =>
     ay v1
      (some (.go c'))
      (ay (c' == 4)
       (none)
       (some (.go IC)))) fun last2 =>
    chk (aW .i64 (v+1)) <|
    some (.go (last2,(v+1))))
   (some (.out t'.fl))) (last,0)
noncomputable def w3 (t':gu):Option (List Int) :=
 bD (fun (v:Int) =>
  ay (decide (v < (ah t'.fl)))
   (chk (0≤v∧v < (ah t'.fl)) <|
    let c':=(au 0 t'.fl (0+v))
    ay (c' == 3)
     (none)
     (chk (aW .i64 (v+1)) <|
      some (.go (v+1))))
   (some (.out t'.fl))) 0
noncomputable def yM (t':gu) (i:Int):Option Int :=
 ay (if (decide (i < 0))=true then true else (decide ((ah t'.fl)≤i)))
  (some 0)
  (chk (0≤i∧i < (ah t'.fl)) <|
   some (au 0 t'.fl i))
noncomputable def w4 (t':gu):Option (List Int) :=
 bD (fun (v:Int) =>
  ay (decide (v < (ah t'.fl)))
   (chk (0≤v∧v < (ah t'.fl)) <|
    let c':=(au 0 t'.fl (0+v))
    chk (aW .i64 (v-1)) <|
    av (yM t' (v-1)) fun v1 =>
    chk (aW .i64 (v+1)) <|
    av (yM t' (v+1)) fun v2 =>
    ay (!(v1 == v2))
     (chk (aW .i64 (v+1)) <|
      some (.go (v+1)))
     (ay (if (if (v1 == 4)=true then (if (c' == 5)=true then true else (c' == 8)) else false)=true then true else (if (v1 == 7)=true then (c' == 8) else false))
      (none)
      (chk (aW .i64 (v+1)) <|
       some (.go (v+1)))))
   (some (.out t'.fl))) 0
noncomputable def w5 (t':gu):Option (List Int) :=
 bD (fun (i:Int) =>
  ay (decide (i < (ah t'.fl)))
   (chk (0≤i∧i < (ah t'.fl)) <|
    ay (!((au 0 t'.fl (0+i)) == 6))
     (chk (aW .i64 (i+1)) <|
      let i1:=(i+1)
      some (.go i1))
     (none))
   (some (.out t'.fl))) 0
noncomputable def w6 (t':gu):Option (List Int) :=
 bD (fun (v:Int) =>
  ay (decide (v < (ah t'.fl)))
   (chk (0≤v∧v < (ah t'.fl)) <|
    let c':=(au 0 t'.fl (0+v))
    ay (c' == 5)
     (ay (c' == 5)
      (none)
      (chk (aW .i64 (v+1)) <|
       some (.go (v+1))))
     (ay (c' == 6)
      (ay (c' == 6)
       (none)
       (chk (aW .i64 (v+1)) <|
        some (.go (v+1))))
      (ay (c' == 8)
       (none)
       (chk (aW .i64 (v+1)) <|
        some (.go (v+1))))))
   (some (.out t'.fl))) 0
noncomputable def w7 (t':gu):Option (List Int) :=
 let last:=t'.xE
 bD (fun ((IC,v):Int × Int) =>
  ay (decide (v < (ah t'.fl)))
   (chk (0≤v∧v < (ah t'.fl)) <|
    let c':=(au 0 t'.fl (0+v))
    ay (c' == 2)
     (ay (c' == 2)
      (chk (aW .i64 (v+1)) <|
       some (.go (c',(v+1))))
      (ay (c' == 4)
       (none)
       (chk (aW .i64 (v+1)) <|
        some (.go (IC,(v+1))))))
     (ay (c' == 1)
      (chk (aW .i64 (v+1)) <|
       some (.go (c',(v+1))))
      (ay (c' == 4)
       (none)
       (chk (aW .i64 (v+1)) <|
        some (.go (IC,(v+1)))))))
   (some (.out t'.fl))) (last,0)
noncomputable def O1 (l':(List Int)) (pY:Int):Option (List Int) :=
 av (iI l') fun v =>
 aM (aM (aM (aM (chk ((0:Int)≤0∧(0:Int) < 7) <|
     some (.go ())) fun (_:Unit) =>
    av (w1 (gu.mk v pY)) fun v7 =>
    chk (ah v7=ah v) <|
    some (.go v7)) fun OY =>
   chk (aW .i64 (0+1)) <|
   some (.go OY)) fun o1 =>
  aM (aM (aM (chk ((0:Int)≤1∧(1:Int) < 7) <|
     some (.go ())) fun (_:Unit) =>
    av (w2 (gu.mk o1 pY)) fun v6 =>
    chk (ah v6=ah o1) <|
    some (.go v6)) fun OX =>
   chk (aW .i64 (1+1)) <|
   some (.go OX)) fun o2 =>
  aM (aM (aM (chk ((0:Int)≤2∧(2:Int) < 7) <|
     some (.go ())) fun (_:Unit) =>
    av (w3 (gu.mk o2 pY)) fun v5 =>
    chk (ah v5=ah o2) <|
    some (.go v5)) fun OW =>
   chk (aW .i64 (2+1)) <|
   some (.go OW)) fun o3 =>
  aM (aM (aM (chk ((0:Int)≤3∧(3:Int) < 7) <|
     some (.go ())) fun (_:Unit) =>
    av (w4 (gu.mk o3 pY)) fun v4 =>
    chk (ah v4=ah o3) <|
    some (.go v4)) fun Iz =>
   chk (aW .i64 (3+1)) <|
   some (.go Iz)) fun o4 =>
  aM (aM (aM (chk ((0:Int)≤4∧(4:Int) < 7) <|
     some (.go ())) fun (_:Unit) =>
    av (w5 (gu.mk o4 pY)) fun v3 =>
    chk (ah v3=ah o4) <|
    some (.go v3)) fun Iy =>
   chk (aW .i64 (4+1)) <|
   some (.go Iy)) fun o5 =>
  aM (aM (aM (chk ((0:Int)≤5∧(5:Int) < 7) <|
     some (.go ())) fun (_:Unit) =>
    av (w6 (gu.mk o5 pY)) fun v2 =>
    chk (ah v2=ah o5) <|
    some (.go v2)) fun o9 =>
   chk (aW .i64 (5+1)) <|
   some (.go o9)) fun o6 =>
  aM (aM (aM (chk ((0:Int)≤6∧(6:Int) < 7) <|
     some (.go ())) fun (_:Unit) =>
    av (w7 (gu.mk o6 pY)) fun v1 =>
    chk (ah v1=ah o6) <|
    some (.go v1)) fun o8 =>
   chk (aW .i64 (6+1)) <|
   some (.go o8)) fun o7 =>
  some (.go o7)) fun o =>
 some o
noncomputable def bits_Len64 (x':Int):Option Int :=
 ay (decide (4294967296≤x'))
  (none)
  (ay (decide (65536≤x'))
   (none)
   (ay (decide (256≤x'))
    (none)
    (chk (0≤(IntKind.wrap .u8 x')∧(IntKind.wrap .u8 x') < (cZ kS8)) <|
     chk (aW .i64 (0+(IntKind.wrap .i64 (lC kS8 (IntKind.wrap .u8 x'))))) <|
     let n:=(0+(IntKind.wrap .i64 (lC kS8 (IntKind.wrap .u8 x'))))
     some n)))
noncomputable def bits_Len (x':Int):Option Int :=
 av (bits_Len64 x') fun v =>
 some v
noncomputable def kg (data:(List iV)) (a:Int) (b:Int) (cmp:FV):Option Unit :=
 chk (aW .i64 (a+1)) <|
 let i:=(a+1)
 bD (fun (_:Unit) =>
  ay (decide (i < b))
   (none)
   (some (.out ()))) ()
noncomputable def mE (data:(List iV)) (a:Int) (b:Int) (limit:Int) (cmp:FV):Option Unit :=
 bD (fun (_:Unit) =>
  chk (aW .i64 (b-a)) <|
  let length:=(b-a)
  ay (decide (length≤12))
   (av (kg data a b cmp) fun v =>
    some (.out ()))
   (none)) ()
noncomputable def kV (x':(List iV)) (cmp:FV):Option Unit :=
 let n:=(ah x')
 av (bits_Len (IntKind.wrap .u64 n)) fun v =>
 av (mE x' 0 n v cmp) fun v1 =>
 some ()
noncomputable def LZ (d':dz) (r':(List Int)) (l':(List Int)):Option (List iV) :=
 ay (!((ah r') == (ah l')))
  (none)
  (aM (bD (fun (v1:Int) =>
    ay (decide (v1 < (ah l')))
     (aM (chk (0≤v1∧v1 < (ah l')) <|
       let c':=(au 0 l' v1)
       ay (!(c' == 14))
        (some (.go ()))
        (none)) fun (_:Unit) =>
      chk (aW .i64 (v1+1)) <|
      some (.go (v1+1)))
     (some (.out (.go ())))) 0) fun (_:Unit) =>
   av (kV ([]:List iV) (FV.nil 437)) fun v =>
   some ([]:List iV))
noncomputable def n0 (x':oJ):Option (List Int) :=
 bD (fun (_:Unit) =>
  ay (decide (0 < (ah x'.Ot)))
   (none)
   (some (.out x'.fl))) ()
noncomputable def AO (c':Int):Option Bool :=
 aM (aM (ay (c' == 11)
   (some (.go (c' == 11)))
   (ay (c' == 12)
    (some (.go (c' == 12)))
    (ay (c' == 13)
     (some (.go (c' == 13)))
     (ay (c' == 14)
      (some (.go (c' == 14)))
      (ay (c' == 20)
       (some (.go (c' == 20)))
       (ay (c' == 21)
        (some (.go (c' == 21)))
        (ay (c' == 22)
         (some (.go (c' == 22)))
         (some (.go (c' == 23)))))))))) fun v =>
  ay v
   (some (.out true))
   (some (.go ()))) fun (_:Unit) =>
 some false
noncomputable def JI (c':Int):Option Int :=
 ay (c' == 1)
  (some 1)
  (none)
noncomputable def n12 (x':oJ):Option (List Int) :=
 bD (fun ((i,o):Int × List Int) =>
  ay (decide (i < (ah x'.fl)))
   (chk (0≤i∧i < (ah x'.fl)) <|
    av (AO (au 0 o (0+i))) fun v =>
    ay (!v)
     (chk (aW .i64 (i+1)) <|
      let i1:=(i+1)
      some (.go (i1,o)))
     (aM (bD (fun (vK:Int) =>
       chk ((decide (vK < (ah x'.fl)))=true→0≤vK∧vK < (ah x'.fl)) <|
       av (if (decide (vK < (ah x'.fl)))=true then AO (au 0 o (0+vK)) else some false) fun v2 =>
       ay (if (decide (vK < (ah x'.fl)))=true then v2 else false)
        (chk (aW .i64 (vK+1)) <|
         let amm:=(vK+1)
         some (.go amm))
        (some (.out (.go vK)))) i) fun end' =>
      let ahead:=x'.xE
      let behind:=x'.acp
      aM (ay (decide (0 < i))
       (chk (aW .i64 (i-1)) <|
        chk (0≤(i-1)∧(i-1) < (ah x'.fl)) <|
        av (JI (au 0 o (0+(i-1)))) fun v1 =>
        some (.go v1))
       (some (.go ahead))) fun uO =>
      aM (ay (decide (end' < (ah x'.fl)))
       (none)
       (some (.go ()))) fun (_:Unit) =>
      let c':=x'.acr
      aM (ay (if (uO == behind)=true then (!(uO == 0)) else false)
       (some (.go uO))
       (some (.go c'))) fun c'1 =>
      bD (fun ((i2,o1):Int × List Int) =>
       ay (decide (i2 < end'))
        (chk (0≤i2∧i2 < (ah x'.fl)) <|
         chk (aW .i64 (i2+1)) <|
         let i3:=(i2+1)
         some (.go (i3,(eB o1 i2 c'1))))
        (some (.out (.go (i2,o1))))) (i,o)))
   (some (.out o))) (0,x'.fl)
noncomputable def Gu (d':dz) (r':(List Int)) (was:(List Int)) (l':(List Int)) (level:Int) (pY:Int) (O3:Int):Option (List Int) :=
 av (iI l') fun v =>
 ay (if (!((ah r') == (ah l')))=true then true else (!((ah was) == (ah l'))))
  (none)
  (av (LZ d' r' l') fun v1 =>
   aM (ay ((y8 .i64 level 1) == 1)
    (none)
    (some (.go ()))) fun (_:Unit) =>
   aM (aM (aM (aM (chk ((0:Int)≤0∧(0:Int) < 2) <|
       some (.go ())) fun (_:Unit) =>
      av (n0 (oJ.mk v was pY O3 1 2 v1)) fun v3 =>
      chk (ah v3=ah v) <|
      some (.go v3)) fun Zt =>
     chk (aW .i64 (0+1)) <|
     some (.go Zt)) fun aO =>
    aM (aM (aM (chk ((0:Int)≤1∧(1:Int) < 2) <|
       some (.go ())) fun (_:Unit) =>
      av (n12 (oJ.mk aO was pY O3 1 2 v1)) fun v2 =>
      chk (ah v2=ah aO) <|
      some (.go v2)) fun kD =>
     chk (aW .i64 (1+1)) <|
     some (.go kD)) fun jy =>
    some (.go jy)) fun out =>
   some out)
noncomputable def Ez (c':Int) (level:Int):Option Int :=
 let odd:=((y8 .i64 level 1) == 1)
 ay (if odd=true then (if (if (c' == 1)=true then true else (c' == 4))=true then true else (c' == 7)) else false)
  (none)
  (ay (if (!odd)=true then (c' == 2) else false)
   (none)
   (ay (if (!odd)=true then (if (c' == 4)=true then true else (c' == 7)) else false)
    (none)
    (some level)))
noncomputable def JJ (d':dz) (r':(List Int)) (l':(List Int)) (base:Int):Option (List Int) :=
 av (Cj l' base) fun v =>
 av (iI v.iY) fun v1 =>
 aM (av (AJ l' v base) fun v3 =>
  bD (fun ((v4,aO):Int × List Int) =>
   ay (decide (v4 < (ah v3)))
    (aM (chk (0≤v4∧v4 < (ah v3)) <|
      av (IB v.lN (au [] v3 (0+v4))) fun v5 =>
      chk ((0:Int)≤0∧(0:Int) < (ah (au [] v3 (0+v4)))) <|
      chk (0≤(au 0 (au [] v3 (0+v4)) 0)∧(au 0 (au [] v3 (0+v4)) 0) < (ah v.iY)) <|
      let level:=(au 0 v.iY (au 0 (au [] v3 (0+v4)) 0))
      av (JH l' v base (au [] v3 (0+v4))) fun v6 =>
      let pY:=v6.1
      let O3:=v6.2
      av (IB r' (au [] v3 (0+v4))) fun v7 =>
      av (O1 v5 pY) fun v8 =>
      av (Gu d' v7 v5 v8 level pY O3) fun v9 =>
      bD (fun ((v10,kD):Int × List Int) =>
       ay (decide (v10 < (ah (au [] v3 (0+v4)))))
        (chk (0≤v10∧v10 < (ah (au [] v3 (0+v4)))) <|
         let at':=(au 0 (au [] v3 (0+v4)) v10)
         chk (0≤v10∧v10 < (ah v9)) <|
         av (Ez (au 0 v9 (0+v10)) level) fun v11 =>
         chk (0≤at'∧at' < (ah v1)) <|
         chk (aW .i64 (v10+1)) <|
         some (.go ((v10+1),(eB kD at' v11))))
        (some (.out (.go kD)))) (0,aO)) fun jy =>
     chk (aW .i64 (v4+1)) <|
     some (.go ((v4+1),jy)))
    (some (.out (.go aO)))) (0,v1)) fun out =>
 chk ((2:Int)≠0) <|
 let ahead:=(Int.tmod (bR base 0) 2)
 aM (bD (fun ((uO,v2):Int × Int) =>
  ay (decide (v2 < (ah v.jm)))
   (chk (0≤v2∧v2 < (ah v.jm)) <|
    let gone:=(au false v.jm v2)
    ay gone
     (none)
     (chk (0≤v2∧v2 < (ah v1)) <|
      let AL:=(au 0 out (0+v2))
      chk (aW .i64 (v2+1)) <|
      some (.go (AL,(v2+1)))))
   (some (.out (.go ())))) (ahead,0)) fun (_:Unit) =>
 some out
noncomputable def Cm (d':dz) (r':(List Int)) (dir:Int):Option ((List Int) × Int) :=
 av (Gt d' r') fun v =>
 ay (if (!(dir == 0))=true then (!(dir == 1)) else false)
  (none)
  (av (JJ d' r' v dir) fun v1 =>
   some (v1,dir))
noncomputable def L8 (d':dz) (r':Int):Option Int :=
 av (Az d'.acn r') fun v =>
 some v
noncomputable def qp (at':Int) (side:Int) (cap0:(List (Int × Int))) (LQ:dz) (cap2:(List Int)):Option Bool :=
 chk ((decide (0≤at'))=true→0≤at'∧at' < (ah cap2)) <|
 av (if (decide (0≤at'))=true then L8 LQ (au 0 cap2 at') else some 0) fun v =>
 some (if (decide (0≤at'))=true then (!((y8 .i64 (Fe cap0 v) side) == 0)) else false)
def O4 (a0:dz) (a1:(List Int)) (a2:Int):Option Int:=none
noncomputable def Dq (d':dz) (r':(List Int)) (at':Int):Option Int :=
 ay (if (decide (at' < 0))=true then true else (decide ((ah r')≤at')))
  (none)
  (aM (chk (aW .i64 (at'+1)) <|
    let i:=(at'+1)
    bD (fun (_:Unit) =>
     ay (decide (i < (ah r')))
      (chk (0≤i∧i < (ah r')) <|
       av (L8 d' (au 0 r' i)) fun v =>
       ay (!(v == 4))
        (some (.out (.out i)))
        (none))
      (some (.out (.go ())))) ()) fun (_:Unit) =>
   some (-1))
noncomputable def JK (d':dz) (r':(List Int)):Option (List Int) :=
 av (SX) fun v =>
 chk (gK 8 (ah r') (ah r')) <|
 aM (bD (fun ((v1,aO):Int × List Int) =>
  ay (decide (v1 < (ah r')))
   (av (qp v1 1 v d' r') fun v2 =>
    av (if v2=true then O4 d' r' v1 else some 0) fun v3 =>
    av (if v2=true then qp v3 2 v d' r' else some false) fun v4 =>
    let first:=(if v2=true then v4 else false)
    av (qp v1 2 v d' r') fun v5 =>
    av (if v5=true then Dq d' r' v1 else some 0) fun v6 =>
    av (if v5=true then qp v6 1 v d' r' else some false) fun v7 =>
    let second:=(if v5=true then v7 else false)
    ay (if first=true then second else false)
     (none)
     (ay first
      (none)
      (ay second
       (none)
       (chk (0≤v1∧v1 < (ah r')) <|
        chk (aW .i64 (v1+1)) <|
        some (.go ((v1+1),(eB aO v1 0)))))))
   (some (.out (.go aO)))) (0,(iG (ah r') 0))) fun out =>
 some out
noncomputable def O5 (d':dz) (r':Int) (which:Int):Option Int :=
 ay (if (decide (which < 0))=true then true else (decide (3 < which)))
  (none)
  (aM (bD (fun (v:Int) =>
    ay (decide (v < (ah d'.Oj)))
     (chk (0≤v∧v < (ah d'.Oj)) <|
      ay (!((au zN d'.Oj v).fR == r'))
       (chk (aW .i64 (v+1)) <|
        some (.go (v+1)))
       (none))
     (some (.out (.go ())))) 0) fun (_:Unit) =>
   some r')
noncomputable def Gv (d':dz) (r':Int) (level:Int) (boxes:Bool):Option Int :=
 ay (if ((y8 .i64 level 1) == 0)=true then true else (if (if (decide (9472≤r'))=true then (decide (r'≤9631)) else false)=true then (!boxes) else false))
  (some r')
  (none)
noncomputable def Gw (d':dz) (r':(List Int)) (levels:(List Int)) (boxes:Bool):Option (List Int) :=
 av (iI r') fun v =>
 ay (!((ah r') == (ah levels)))
  (none)
  (av (JK d' r') fun v1 =>
   aM (bD (fun ((v4,aO):Int × List Int) =>
    ay (decide (v4 < (ah r')))
     (aM (aM (chk (0≤v4∧v4 < (ah r')) <|
        let x'1:=(au 0 r' v4)
        chk (0≤v4∧v4 < (ah v1)) <|
        av (O5 d' x'1 (au 0 v1 (0+v4))) fun v6 =>
        chk (0≤v4∧v4 < (ah v)) <|
        some (.go (eB aO v4 v6))) fun kD =>
       chk (0≤v4∧v4 < (ah v)) <|
       ay ((au 0 kD (0+v4)) == (au 0 r' v4))
        (chk (0≤v4∧v4 < (ah levels)) <|
         av (Gv d' (au 0 r' v4) (au 0 levels v4) boxes) fun v5 =>
         chk (0≤v4∧v4 < (ah v)) <|
         some (.go (eB kD v4 v5)))
        (some (.go kD))) fun jy =>
      chk (aW .i64 (v4+1)) <|
      some (.go ((v4+1),jy)))
     (some (.out (.go aO)))) (0,v)) fun out =>
   aM (bD (fun (v2:Int) =>
    ay (decide (v2 < (ah r')))
     (chk (0≤v2∧v2 < (ah r')) <|
      let x':=(au 0 r' v2)
      av (Dq d' r' v2) fun v3 =>
      ay (if (!(x' == 1604))=true then true else (decide (v3 < 0)))
       (chk (aW .i64 (v2+1)) <|
        some (.go (v2+1)))
       (none))
     (some (.out (.go ())))) 0) fun (_:Unit) =>
   some out)
noncomputable def O6 (d':dz) (l':(List aQ)) (from':Int) (to:Int) (boxes:Bool):Option jR :=
 chk (0≤from'∧from'≤to∧to≤(ah l')) <|
 av (Dp (jw l' from' to)) fun v =>
 chk (0≤from'∧from' < (ah l')) <|
 av (Cm d' v (au aA l' from').dJ) fun v1 =>
 let base:=v1.2
 av (Gw d' v v1.1 boxes) fun v2 =>
 some (jR.mk from' to v1.1 v2 base)
noncomputable def Gx (c':Int):Option Bool :=
 aM (aM (ay (c' == 13)
   (some (.go (c' == 13)))
   (ay (c' == 10)
    (some (.go (c' == 10)))
    (ay (c' == 15)
     (some (.go (c' == 15)))
     (ay (c' == 16)
      (some (.go (c' == 16)))
      (ay (c' == 17)
       (some (.go (c' == 17)))
       (ay (c' == 18)
        (some (.go (c' == 18)))
        (ay (c' == 19)
         (some (.go (c' == 19)))
         (ay (c' == 20)
          (some (.go (c' == 20)))
          (ay (c' == 21)
           (some (.go (c' == 21)))
           (ay (c' == 22)
            (some (.go (c' == 22)))
            (some (.go (c' == 23))))))))))))) fun v =>
  ay v
   (some (.out true))
   (some (.go ()))) fun (_:Unit) =>
 some false
noncomputable def JL (d':dz) (r':(List Int)) (levels:(List Int)) (base:Int):Option (List Int) :=
 av (iI levels) fun v =>
 ay (!((ah r') == (ah levels)))
  (none)
  (aM (chk (aW .i64 ((ah r')-1)) <|
    let i:=((ah r')-1)
    bD (fun ((end',i1,aO):Bool × Int × List Int) =>
     ay (decide (0≤i1))
      (chk (0≤i1∧i1 < (ah r')) <|
       av (Iw d' (au 0 r' i1)) fun v1 =>
       ay (if (v1 == 11)=true then true else (v1 == 12))
        (none)
        (av (Gx v1) fun v2 =>
         ay (!v2)
          (chk (aW .i64 (i1-1)) <|
           let i2:=(i1-1)
           some (.go (false,i2,aO)))
          (ay end'
           (chk (0≤i1∧i1 < (ah v)) <|
            chk (aW .i64 (i1-1)) <|
            let i3:=(i1-1)
            some (.go (end',i3,(eB aO i1 base))))
           (chk (aW .i64 (i1-1)) <|
            let i4:=(i1-1)
            some (.go (end',i4,aO))))))
      (some (.out (.go aO)))) (true,i,v)) fun out =>
   some out)
noncomputable def Gy (levels:(List Int)):Option (List Int) :=
 chk (gK 8 (ah levels) (ah levels)) <|
 chk (gK 8 (ah levels) (ah levels)) <|
 aM (bD (fun ((Y2,v,gG,aO):Int × Int × List Int × List Int) =>
  ay (decide (v < (ah levels)))
   (chk (0≤v∧v < (ah levels)) <|
    let x':=(au 0 levels v)
    let x'1:=(bR 0 (bH x' 127))
    chk (0≤v∧v < (ah levels)) <|
    chk (0≤v∧v < (ah levels)) <|
    let amn:=(bR Y2 x'1)
    chk ((2:Int)≠0) <|
    ay ((Int.tmod x'1 2) == 1)
     (none)
     (chk (aW .i64 (v+1)) <|
      some (.go (amn,(v+1),(eB gG v x'1),(eB aO v v)))))
   (some (.out (.go (Y2,gG,aO))))) (0,0,(iG (ah levels) 0),(iG (ah levels) 0))) fun (most,l',out) =>
 aM (bD (fun (_:Unit) =>
  ay (decide (128≤most))
   (none)
   (some (.out (.go ())))) ()) fun (_:Unit) =>
 some out
noncomputable def JM (levels:(List Int)) (widths:(List Int)):Option ((List Int) × Bool) :=
 ay (!((ah levels) == (ah widths)))
  (none)
  (chk (gK 8 (ah widths) (ah widths)) <|
   aM (bD (fun ((n1,v3,Kq):Int × Int × List Int) =>
    ay (decide (v3 < (ah widths)))
     (chk (0≤v3∧v3 < (ah widths)) <|
      let w:=(au 0 widths v3)
      ay (if (!(w == 1))=true then (!(w == 2)) else false)
       (none)
       (chk (0≤v3∧v3 < (ah widths)) <|
        chk (aW .i64 (n1+w)) <|
        let n2:=(n1+w)
        chk (aW .i64 (v3+1)) <|
        some (.go (n2,(v3+1),(eB Kq v3 n1)))))
     (some (.out (.go (n1,Kq))))) (0,0,(iG (ah widths) 0))) fun (n,starts) =>
   chk (gK 8 0 n) <|
   aM (av (Gy levels) fun v =>
    bD (fun ((v1,aO):Int × List Int) =>
     ay (decide (v1 < (ah v)))
      (aM (chk (0≤v1∧v1 < (ah v)) <|
        let i:=(au 0 v (0+v1))
        chk (0≤i∧i < (ah widths)) <|
        bD (fun ((v2,kD):Int × List Int) =>
         ay (decide (v2 < (au 0 widths i)))
          (chk (0≤i∧i < (ah widths)) <|
           chk (aW .i64 ((au 0 starts (0+i))+v2)) <|
           chk (dL 8 ((ah kD)+1)) <|
           chk (aW .i64 (v2+1)) <|
           some (.go ((v2+1),(kD++([((au 0 starts (0+i))+v2)]:List Int)))))
          (some (.out (.go kD)))) (0,aO)) fun jy =>
       chk (aW .i64 (v1+1)) <|
       some (.go ((v1+1),jy)))
      (some (.out (.go aO)))) (0,(iG 0 0))) fun out =>
   some (out,true))
noncomputable def Gz (l':(List Int)):Option ((List Int) × Bool) :=
 chk (gK 8 (ah l') (ah l')) <|
 aM (bD (fun ((v1,kD):Int × List Int) =>
  ay (decide (v1 < (ah l')))
   (chk (0≤v1∧v1 < (ah l')) <|
    chk (aW .i64 (v1+1)) <|
    some (.go ((v1+1),(eB kD v1 (-1)))))
   (some (.out (.go kD)))) (0,(iG (ah l') 0))) fun out =>
 aM (bD (fun ((v,jy):Int × List Int) =>
  ay (decide (v < (ah l')))
   (chk (0≤v∧v < (ah l')) <|
    let x':=(au 0 l' v)
    chk ((!(if (decide (x' < 0))=true then true else (decide ((ah l')≤x'))))=true→0≤x'∧x' < (ah l')) <|
    ay (if (if (decide (x' < 0))=true then true else (decide ((ah l')≤x')))=true then true else (decide (0≤(au 0 jy (0+x')))))
     (none)
     (chk (0≤x'∧x' < (ah l')) <|
      chk (aW .i64 (v+1)) <|
      some (.go ((v+1),(eB jy x' v)))))
   (some (.out (.go jy)))) (0,out)) fun aO =>
 some (aO,true)
noncomputable def TW (cells:(List aV)) (levels:(List Int)) (widths:(List Int)) (base:Int):Option kM :=
 av (JM levels widths) fun v =>
 av (Gz v.1) fun v1 =>
 chk (gK 56 (ah v.1) (ah v.1)) <|
 aM (bD (fun ((v2,o1):Int × List aV) =>
  ay (decide (v2 < (ah v.1)))
   (chk (0≤v2∧v2 < (ah v.1)) <|
    let at':=(au 0 v.1 v2)
    chk (0≤at'∧at' < (ah cells)) <|
    chk (0≤v2∧v2 < (ah v.1)) <|
    chk (aW .i64 (v2+1)) <|
    some (.go ((v2+1),(eB o1 v2 (au aD cells at')))))
   (some (.out (.go o1)))) (0,(iG (ah v.1) aD))) fun o =>
 some (kM.mk v.1 v1.1 o base)
noncomputable def TY (d':dz) (l':(List aQ)) (y':Int) (p':jR):Option kM :=
 chk (0≤p'.YS∧p'.YS≤y'∧y'≤(ah l')) <|
 av (Dp (jw l' p'.YS y')) fun v =>
 let start:=(ah v)
 chk (0≤y'∧y' < (ah l')) <|
 av (AB (au aA l' y')) fun v1 =>
 chk (aW .i64 (start+(ah v1.1))) <|
 chk (0≤start∧start≤(start+(ah v1.1))∧(start+(ah v1.1))≤(ah p'.Rt)) <|
 av (JL d' v1.1 (jw p'.Rt start (start+(ah v1.1))) p'.ET) fun v2 =>
 chk (0≤y'∧y' < (ah l')) <|
 chk (gK 56 (ah (au aA l' y').aH) (ah (au aA l' y').aH)) <|
 aM (chk (0≤y'∧y' < (ah l')) <|
  bD (fun ((n,v4,GA):Int × Int × List aV) =>
   ay (decide (v4 < (ah (au aA l' y').aH)))
    (chk (0≤v4∧v4 < (ah (au aA l' y').aH)) <|
     ay (!((au aD (au aA l' y').aH v4).fW == 0))
      (ay (!((au aD (au aA l' y').aH v4).fR == 0))
       (chk (0≤n∧n < (ah p'.Rw)) <|
        chk (aW .i64 (n+1)) <|
        let n1:=(n+1)
        chk (0≤v4∧v4 < (ah (au aA l' y').aH)) <|
        chk (aW .i64 (v4+1)) <|
        some (.go (n1,(v4+1),(eB GA v4 (aV.mk (au 0 p'.Rw n) (au aD (au aA l' y').aH v4).fM (au aD (au aA l' y').aH v4).fW (au aD (au aA l' y').aH v4).bI)))))
       (chk (aW .i64 (n+1)) <|
        let n2:=(n+1)
        chk (0≤v4∧v4 < (ah (au aA l' y').aH)) <|
        chk (aW .i64 (v4+1)) <|
        some (.go (n2,(v4+1),(eB GA v4 (au aD (au aA l' y').aH v4))))))
      (chk (0≤v4∧v4 < (ah (au aA l' y').aH)) <|
       chk (aW .i64 (v4+1)) <|
       some (.go (n,(v4+1),(eB GA v4 (au aD (au aA l' y').aH v4))))))
    (some (.out (.go GA)))) (start,0,(iG (ah (au aA l' y').aH) aD))) fun cells =>
 av (TW cells v2 v1.2 p'.ET) fun v3 =>
 some v3
noncomputable def T9 (d':dz) (l':(List aQ)) (y':Int) (boxes:Bool):Option (kM × Bool) :=
 av (if (!(if (decide (y' < 0))=true then true else (decide ((ah l')≤y'))))=true then OV l' else some false) fun v =>
 ay (if (if (decide (y' < 0))=true then true else (decide ((ah l')≤y')))=true then true else (!v))
  (none)
  (chk (0≤y'∧y' < (ah l')) <|
   ay (au aA l' y').bL
    (none)
    (av (Lj l' y') fun v1 =>
     let from':=v1.1
     let to:=v1.2
     av (O6 d' l' from' to boxes) fun v2 =>
     av (TY d' l' y' v2) fun v3 =>
     some (v3,true)))
noncomputable def O7 (t':bP) (d':dz):Option (kM × Int × Bool) :=
 av (iX t'.fS) fun v =>
 chk (aW .i64 (v.fC.fY+t'.jl)) <|
 let y':=(v.fC.fY+t'.jl)
 av (OU t') fun v1 =>
 av (LX t') fun v2 =>
 av (T9 d' v1 y' v2) fun v3 =>
 let ok:=v3.2
 some (v3.1,y',ok)
noncomputable def GD (s:bf):Option (bf × (List Int)) :=
 av (mY s) fun v =>
 ay (!v)
  (none)
  (some ((bf.mk s.aR s.aT s.pX s.fM s.aK ([]:List Int) s.kY s.lM),s.lK))
noncomputable def Xd (t':bP) (d':dz) (a:kR):Option (bP × (List Int)) :=
 av (lu t') fun v =>
 ay (!v)
  (none)
  (av (iX t'.fS) fun v1 =>
   av (OJ a) fun v2 =>
   av (OT t' d' v2.fb) fun v3 =>
   av (GD v3.fS) fun v4 =>
   chk (dL 1 (ah v4.2)) <|
   chk (dL 1 ((ah v4.2)+0)) <|
   some ((bP.mk v3.fU v3.fP v4.1 v3.jl),(v4.2++([]:List Int))))
noncomputable def Ua (h':Int) (w:Int) (kept:Int) (d':dz) (l':(List kR)):Option (bP × (List Int)) :=
 av (TS h' w kept) fun v =>
 aM (bD (fun ((v1,IE,aO):Int × bP × List Int) =>
  ay (decide (v1 < (ah l')))
   (chk (0≤v1∧v1 < (ah l')) <|
    av (Xd IE d' (au Ll l' v1)) fun v2 =>
    chk (dL 1 ((ah aO)+(ah v2.2))) <|
    chk (aW .i64 (v1+1)) <|
    some (.go ((v1+1),v2.1,(aO++v2.2))))
   (some (.out (.go (IE,aO))))) (0,v,([]:List Int))) fun (xA,out) =>
 some (xA,out)
noncomputable def L9 (l':(List Int)) (at':Int):Option Int :=
 ay ((ah l') == 0)
  (none)
  (chk (aW .i64 ((ah l')-1)) <|
   chk (0≤(bR 0 (bH at' ((ah l')-1)))∧(bR 0 (bH at' ((ah l')-1))) < (ah l')) <|
   some (au 0 l' (bR 0 (bH at' ((ah l')-1)))))
noncomputable def JN (x':kM) (at':Int):Option Int :=
 av (L9 x'.afl at') fun v =>
 some v
noncomputable def JO (t':bP) (d':dz):Option (Int × Int × Bool) :=
 av (lu t') fun v =>
 av (if (!(!v))=true then sS t'.fS.fM true 25 else some false) fun v1 =>
 ay (if (!v)=true then true else (!v1))
  (none)
  (av (O7 t' d') fun v2 =>
   let y':=v2.2.1
   let ok:=v2.2.2
   ay (!ok)
    (none)
    (av (iX t'.fS) fun v3 =>
     av (JN v2.1 v3.fC.fX) fun v4 =>
     some (y',v4,true)))
noncomputable def nG  : Option Bool :=
 av (BR) fun v =>
 av (Ua 3 9 5 v ([(kR.mk 0 0 0 0 0 ([97]:List Int) yG),(kR.mk 0 0 0 0 0 ([27,91,54,110]:List Int) yG)]:List kR)) fun v1 =>
 av (BR) fun v =>
 av (JO v1.1 v) fun v2 =>
 let y':=v2.1
 let x':=v2.2.1
 let ok:=v2.2.2
 av (if (if (if (if (mD (GH v1.2) (⟨#[27,91,49,59,50,82]⟩:ByteArray))=true then ok else false)=true then (y' == 0) else false)=true then (x' == 1) else false)=true then lu v1.1 else some false) fun v3 =>
 some (if (if (if (if (mD (GH v1.2) (⟨#[27,91,49,59,50,82]⟩:ByteArray))=true then ok else false)=true then (y' == 0) else false)=true then (x' == 1) else false)=true then v3 else false)
noncomputable def pG (c':dY):Option cB :=
 some (cB.mk c'.fX c'.fY c'.bX c'.dH c'.bI (eG.mk c'.aN.fG c'.aN.jH c'.aN.kr c'.aN.fq))
noncomputable def rA (s:dP):Option bK :=
 av (pG s.fC) fun v =>
 some (bK.mk (eP.mk s.fG.aS) v (bS.mk s.fR.fH s.fR.fW s.fR.jO s.fR.eZ) (eF.mk s.fT.fL s.fT.fW) (dS.mk s.fK.aS s.fK.iF) s.dJ s.bL)
noncomputable def wB (s:eX):Option bf :=
 av (rA s.aR) fun v =>
 av (rA s.aT) fun v1 =>
 av (pG s.aK.x0) fun v2 =>
 av (pG s.aK.x1) fun v3 =>
 some (bf.mk v v1 s.pX (iJ.mk s.fM.mV) (fO.mk v2 v3) s.lK s.kY s.lM)
noncomputable def rC (t':dV):Option bP :=
 av (wB t'.fS) fun v =>
 some (bP.mk (kK.mk t'.fU.fB) (dA.mk t'.fP.ko t'.fP.jD t'.fP.vw (iA.mk t'.fP.eu.fL t'.fP.eu.fOpen) t'.fP.fText t'.fP.vB) v t'.jl)
noncomputable def nH (c':cB):Option dY :=
 some (dY.mk c'.fX c'.fY c'.bX c'.dH c'.bI (jo.mk c'.aN.fG c'.aN.jH c'.aN.kr c'.aN.fq))
noncomputable def mJ (s:bK):Option dP :=
 av (nH s.fC) fun v =>
 some (dP.mk (jK.mk s.fG.aS) v (iZ.mk s.fR.fH s.fR.fW s.fR.jO s.fR.eZ) (fQ.mk s.fT.fL s.fT.fW) (gL.mk s.fK.aS s.fK.iF) s.dJ s.bL)
noncomputable def tX (s:bf):Option eX :=
 av (mJ s.aR) fun v =>
 av (mJ s.aT) fun v1 =>
 av (nH s.aK.x0) fun v2 =>
 av (nH s.aK.x1) fun v3 =>
 some (eX.mk v v1 s.pX (jq.mk s.fM.mV) (gV.mk v2 v3) s.lK s.kY s.lM)
noncomputable def jW (t':bP):Option dV :=
 av (tX t'.fS) fun v =>
 some (dV.mk (jr.mk t'.fU.fB) (gF.mk t'.fP.ko t'.fP.jD t'.fP.vw (jL.mk t'.fP.eu.fL t'.fP.eu.fOpen) t'.fP.fText t'.fP.vB) v t'.jl)
noncomputable def og (a:(List (List Int))) (b:(List (List Int))):Option Bool :=
 ay (!((ah a) == (ah b)))
  (some false)
  (aM (bD (fun (i:Int) =>
    ay (decide (i < (ah a)))
     (aM (chk (0≤i∧i < (ah a)) <|
       chk (0≤i∧i < (ah b)) <|
       ay (!((ah (au [] a i)) == (ah (au [] b i))))
        (some (.out (.out (.out false))))
        (bD (fun (k':Int) =>
         chk (0≤i∧i < (ah a)) <|
         ay (decide (k' < (ah (au [] a i))))
          (chk (0≤i∧i < (ah a)) <|
           chk (0≤k'∧k' < (ah (au [] a i))) <|
           chk (0≤i∧i < (ah b)) <|
           chk (0≤k'∧k' < (ah (au [] b i))) <|
           ay (!((au 0 (au [] a i) k') == (au 0 (au [] b i) k')))
            (some (.out (.out (.out (.out false)))))
            (chk (aW .i64 (k'+1)) <|
             let zB:=(k'+1)
             some (.go zB)))
          (some (.out (.go ())))) 0)) fun (_:Unit) =>
      chk (aW .i64 (i+1)) <|
      let i1:=(i+1)
      some (.go i1))
     (some (.out (.go ())))) 0) fun (_:Unit) =>
   some true)
noncomputable def rD (a:gF) (b:gF):Option Bool :=
 av (if (if (if (if (a.ko == b.ko)=true then (mD a.jD b.jD) else false)=true then (a.vw == b.vw) else false)=true then (a.eu.fOpen == b.eu.fOpen) else false)=true then og a.eu.fL b.eu.fL else some false) fun v =>
 some (if (if (if (if (if (if (a.ko == b.ko)=true then (mD a.jD b.jD) else false)=true then (a.vw == b.vw) else false)=true then (a.eu.fOpen == b.eu.fOpen) else false)=true then v else false)=true then (mD a.fText b.fText) else false)=true then (a.vB == b.vB) else false)
noncomputable def nI (a:(List aV)) (b:(List aV)):Option Bool :=
 ay (!((ah a) == (ah b)))
  (some false)
  (aM (bD (fun (i:Int) =>
    ay (decide (i < (ah a)))
     (chk (0≤i∧i < (ah a)) <|
      chk (0≤i∧i < (ah b)) <|
      ay (!(((au aD a i).fR == (au aD b i).fR) && (((au aD a i).fM.x0 == (au aD b i).fM.x0) && (((au aD a i).fM.x1 == (au aD b i).fM.x1) && (((au aD a i).fW == (au aD b i).fW) && (((au aD a i).bI.jP == (au aD b i).bI.jP) && (((au aD a i).bI.jQ == (au aD b i).bI.jQ) && (((au aD a i).bI.dU == (au aD b i).bI.dU) && true))))))))
       (some (.out (.out false)))
       (chk (aW .i64 (i+1)) <|
        let i1:=(i+1)
        some (.go i1)))
     (some (.out (.go ())))) 0) fun (_:Unit) =>
   some true)
noncomputable def oh (a:aQ) (b:aQ):Option Bool :=
 av (nI a.aH b.aH) fun v =>
 some (if (if (if v=true then (a.bX == b.bX) else false)=true then (a.dJ == b.dJ) else false)=true then (a.bL == b.bL) else false)
noncomputable def lY (a:(List aQ)) (b:(List aQ)):Option Bool :=
 ay (!((ah a) == (ah b)))
  (some false)
  (aM (bD (fun (i:Int) =>
    ay (decide (i < (ah a)))
     (chk (0≤i∧i < (ah a)) <|
      chk (0≤i∧i < (ah b)) <|
      av (oh (au aA a i) (au aA b i)) fun v =>
      ay (!v)
       (some (.out (.out false)))
       (chk (aW .i64 (i+1)) <|
        let i1:=(i+1)
        some (.go i1)))
     (some (.out (.go ())))) 0) fun (_:Unit) =>
   some true)
noncomputable def om (a:fQ) (b:fQ):Option Bool :=
 ay (if (!((ah a.fL) == (ah b.fL)))=true then true else (!(a.fW == b.fW)))
  (some false)
  (aM (bD (fun (i:Int) =>
    ay (decide (i < (ah a.fL)))
     (chk (0≤i∧i < (ah a.fL)) <|
      chk (0≤i∧i < (ah b.fL)) <|
      ay (!((au 0 a.fL i) == (au 0 b.fL i)))
       (some (.out (.out false)))
       (chk (aW .i64 (i+1)) <|
        let i1:=(i+1)
        some (.go i1)))
     (some (.out (.go ())))) 0) fun (_:Unit) =>
   some true)
noncomputable def rE (a:gL) (b:gL):Option Bool :=
 av (if (a.iF == b.iF)=true then lY a.aS b.aS else some false) fun v =>
 some (if (a.iF == b.iF)=true then v else false)
noncomputable def lZ (a:dP) (b:dP):Option Bool :=
 av (lY a.fG.aS b.fG.aS) fun v =>
 av (if (if (if v=true then ((a.fC.fX == b.fC.fX) && ((a.fC.fY == b.fC.fY) && ((a.fC.bX == b.fC.bX) && ((a.fC.dH == b.fC.dH) && ((a.fC.bI.jP == b.fC.bI.jP) && ((a.fC.bI.jQ == b.fC.bI.jQ) && ((a.fC.bI.dU == b.fC.bI.dU) && ((a.fC.aN.fG.x0 == b.fC.aN.fG.x0) && ((a.fC.aN.fG.x1 == b.fC.aN.fG.x1) && ((a.fC.aN.fG.x2 == b.fC.aN.fG.x2) && ((a.fC.aN.fG.x3 == b.fC.aN.fG.x3) && ((a.fC.aN.jH == b.fC.aN.jH) && ((a.fC.aN.kr == b.fC.aN.kr) && ((a.fC.aN.fq == b.fC.aN.fq) && true)))))))))))))) else false)=true then ((a.fR.fH == b.fR.fH) && ((a.fR.fW == b.fR.fW) && ((a.fR.jO == b.fR.jO) && ((a.fR.eZ == b.fR.eZ) && true)))) else false)=true then om a.fT b.fT else some false) fun v1 =>
 av (if (if (if (if v=true then ((a.fC.fX == b.fC.fX) && ((a.fC.fY == b.fC.fY) && ((a.fC.bX == b.fC.bX) && ((a.fC.dH == b.fC.dH) && ((a.fC.bI.jP == b.fC.bI.jP) && ((a.fC.bI.jQ == b.fC.bI.jQ) && ((a.fC.bI.dU == b.fC.bI.dU) && ((a.fC.aN.fG.x0 == b.fC.aN.fG.x0) && ((a.fC.aN.fG.x1 == b.fC.aN.fG.x1) && ((a.fC.aN.fG.x2 == b.fC.aN.fG.x2) && ((a.fC.aN.fG.x3 == b.fC.aN.fG.x3) && ((a.fC.aN.jH == b.fC.aN.jH) && ((a.fC.aN.kr == b.fC.aN.kr) && ((a.fC.aN.fq == b.fC.aN.fq) && true)))))))))))))) else false)=true then ((a.fR.fH == b.fR.fH) && ((a.fR.fW == b.fR.fW) && ((a.fR.jO == b.fR.jO) && ((a.fR.eZ == b.fR.eZ) && true)))) else false)=true then v1 else false)=true then rE a.fK b.fK else some false) fun v2 =>
 some (if (if (if (if (if (if v=true then ((a.fC.fX == b.fC.fX) && ((a.fC.fY == b.fC.fY) && ((a.fC.bX == b.fC.bX) && ((a.fC.dH == b.fC.dH) && ((a.fC.bI.jP == b.fC.bI.jP) && ((a.fC.bI.jQ == b.fC.bI.jQ) && ((a.fC.bI.dU == b.fC.bI.dU) && ((a.fC.aN.fG.x0 == b.fC.aN.fG.x0) && ((a.fC.aN.fG.x1 == b.fC.aN.fG.x1) && ((a.fC.aN.fG.x2 == b.fC.aN.fG.x2) && ((a.fC.aN.fG.x3 == b.fC.aN.fG.x3) && ((a.fC.aN.jH == b.fC.aN.jH) && ((a.fC.aN.kr == b.fC.aN.kr) && ((a.fC.aN.fq == b.fC.aN.fq) && true)))))))))))))) else false)=true then ((a.fR.fH == b.fR.fH) && ((a.fR.fW == b.fR.fW) && ((a.fR.jO == b.fR.jO) && ((a.fR.eZ == b.fR.eZ) && true)))) else false)=true then v1 else false)=true then v2 else false)=true then (a.dJ == b.dJ) else false)=true then (a.bL == b.bL) else false)
noncomputable def rF (a:eX) (b:eX):Option Bool :=
 av (lZ a.aR b.aR) fun v =>
 av (if v=true then lZ a.aT b.aT else some false) fun v1 =>
 some (if (if (if (if (if (if (if v=true then v1 else false)=true then (a.pX == b.pX) else false)=true then ((a.fM.mV == b.fM.mV) && true) else false)=true then ((a.aK.x0.fX == b.aK.x0.fX) && ((a.aK.x0.fY == b.aK.x0.fY) && ((a.aK.x0.bX == b.aK.x0.bX) && ((a.aK.x0.dH == b.aK.x0.dH) && ((a.aK.x0.bI.jP == b.aK.x0.bI.jP) && ((a.aK.x0.bI.jQ == b.aK.x0.bI.jQ) && ((a.aK.x0.bI.dU == b.aK.x0.bI.dU) && ((a.aK.x0.aN.fG.x0 == b.aK.x0.aN.fG.x0) && ((a.aK.x0.aN.fG.x1 == b.aK.x0.aN.fG.x1) && ((a.aK.x0.aN.fG.x2 == b.aK.x0.aN.fG.x2) && ((a.aK.x0.aN.fG.x3 == b.aK.x0.aN.fG.x3) && ((a.aK.x0.aN.jH == b.aK.x0.aN.jH) && ((a.aK.x0.aN.kr == b.aK.x0.aN.kr) && ((a.aK.x0.aN.fq == b.aK.x0.aN.fq) && ((a.aK.x1.fX == b.aK.x1.fX) && ((a.aK.x1.fY == b.aK.x1.fY) && ((a.aK.x1.bX == b.aK.x1.bX) && ((a.aK.x1.dH == b.aK.x1.dH) && ((a.aK.x1.bI.jP == b.aK.x1.bI.jP) && ((a.aK.x1.bI.jQ == b.aK.x1.bI.jQ) && ((a.aK.x1.bI.dU == b.aK.x1.bI.dU) && ((a.aK.x1.aN.fG.x0 == b.aK.x1.aN.fG.x0) && ((a.aK.x1.aN.fG.x1 == b.aK.x1.aN.fG.x1) && ((a.aK.x1.aN.fG.x2 == b.aK.x1.aN.fG.x2) && ((a.aK.x1.aN.fG.x3 == b.aK.x1.aN.fG.x3) && ((a.aK.x1.aN.jH == b.aK.x1.aN.jH) && ((a.aK.x1.aN.kr == b.aK.x1.aN.kr) && ((a.aK.x1.aN.fq == b.aK.x1.aN.fq) && true)))))))))))))))))))))))))))) else false)=true then (mD (GH a.lK) (GH b.lK)) else false)=true then (mD a.kY b.kY) else false)=true then (a.lM == b.lM) else false)
noncomputable def kE (a:dV) (b:dV):Option Bool :=
 av (if (mD (GH a.fU.fB) (GH b.fU.fB))=true then rD a.fP b.fP else some false) fun v =>
 av (if (if (mD (GH a.fU.fB) (GH b.fU.fB))=true then v else false)=true then rF a.fS b.fS else some false) fun v1 =>
 some (if (if (if (mD (GH a.fU.fB) (GH b.fU.fB))=true then v else false)=true then v1 else false)=true then (a.jl == b.jl) else false)
noncomputable def ng (t':dV) (h':Int) (w:Int):Option Bool :=
 av (nG) fun v =>
 av (rC t') fun v1 =>
 av (lu v1) fun v2 =>
 ay (if (if (if (!v2)=true then true else (decide (1100 < (cZ t'.fP.fText))))=true then true else (decide (20 < t'.fS.aR.fR.fH)))=true then true else (decide (40 < t'.fS.aR.fR.fW)))
  (some v)
  (let a:=(bH h' 30)
   let b:=(bH w 50)
   av (mZ v1 a b) fun v3 =>
   ay (if (decide (a < 1))=true then true else (decide (b < 1)))
    (av (if v=true then jW v3 else some mI) fun v4 =>
     av (if v=true then kE v4 t' else some false) fun v5 =>
     some (if v=true then v5 else false))
    (av (iX v3.fS) fun v6 =>
     av (mZ v1 1001 b) fun v7 =>
     av (mZ v1 a 4097) fun v8 =>
     av (if v=true then lu v3 else some false) fun v9 =>
     av (if (if (if (if (if (if v=true then v9 else false)=true then (v6.fR.fH == a) else false)=true then (v6.fR.fW == b) else false)=true then ((ah v3.fS.aR.fG.aS) == a) else false)=true then ((ah v3.fS.aT.fG.aS) == a) else false)=true then jW v7 else some mI) fun v10 =>
     av (if (if (if (if (if (if v=true then v9 else false)=true then (v6.fR.fH == a) else false)=true then (v6.fR.fW == b) else false)=true then ((ah v3.fS.aR.fG.aS) == a) else false)=true then ((ah v3.fS.aT.fG.aS) == a) else false)=true then kE v10 t' else some false) fun v11 =>
     av (if (if (if (if (if (if (if v=true then v9 else false)=true then (v6.fR.fH == a) else false)=true then (v6.fR.fW == b) else false)=true then ((ah v3.fS.aR.fG.aS) == a) else false)=true then ((ah v3.fS.aT.fG.aS) == a) else false)=true then v11 else false)=true then jW v8 else some mI) fun v12 =>
     av (if (if (if (if (if (if (if v=true then v9 else false)=true then (v6.fR.fH == a) else false)=true then (v6.fR.fW == b) else false)=true then ((ah v3.fS.aR.fG.aS) == a) else false)=true then ((ah v3.fS.aT.fG.aS) == a) else false)=true then v11 else false)=true then kE v12 t' else some false) fun v13 =>
     some (if (if (if (if (if (if (if v=true then v9 else false)=true then (v6.fR.fH == a) else false)=true then (v6.fR.fW == b) else false)=true then ((ah v3.fS.aR.fG.aS) == a) else false)=true then ((ah v3.fS.aT.fG.aS) == a) else false)=true then v11 else false)=true then v13 else false)))
end Go.Vx
