/- Lifted functions, by program (lift.py). -/
import Derived.Test.YtmpgicplgjmjkaaGreatDoorVxCut
import Derived.Lib.Bytealg
import Derived.Lib.ItoaLen
set_option linter.all false
namespace Go.Vx
noncomputable section
structure mM where
 adk:Int
 alI:Int
def nO:mM:=⟨0,0⟩
instance:Inhabited mM:=⟨nO⟩
structure gF where
 fLo:Int
 fHi:Int
 fV:Int
def ny:gF:=⟨0,0,0⟩
instance:Inhabited gF:=⟨ny⟩
structure iU where
 fL:(List gF)
def Et:iU:=⟨[]⟩
instance:Inhabited iU:=⟨Et⟩
structure ji where
 fA:Int
 fB:Int
def Ip:ji:=⟨0,0⟩
instance:Inhabited ji:=⟨Ip⟩
structure jH where
 fR:Int
 lu:Int
 fN:Int
def Iq:jH:=⟨0,0,0⟩
instance:Inhabited jH:=⟨Iq⟩
structure bL where
 ais:iU
 Eb:iU
 alJ:iU
 akT:(List ji)
 agp:(List ji)
 Yz:(List jH)
def alY:bL:=⟨Et,Et,Et,[],[],[]⟩
instance:Inhabited bL:=⟨alY⟩
structure bG where
 fH:Int
 fW:Int
 gJ:Int
 dw:Int
def QZ:bG:=⟨0,0,0,0⟩
instance:Inhabited bG:=⟨QZ⟩
structure mP where
 x0:Int
 x1:Int
 x2:Int
 x3:Int
def YQ:mP:=⟨0,0,0,0⟩
instance:Inhabited mP:=⟨YQ⟩
structure bQ where
 fG:mP
 jF:Int
 jk:Int
 eO:Int
def Q0:bQ:=⟨YQ,0,0,0⟩
instance:Inhabited bQ:=⟨Q0⟩
structure bU where
 jy:Int
 jq:Int
 dI:Int
def nu:bU:=⟨0,0,0⟩
instance:Inhabited bU:=⟨nu⟩
structure aD where
 fX:Int
 fY:Int
 dz:Bool
 bO:Bool
 bB:bU
 aF:bQ
def C8:aD:=⟨0,0,false,false,nu,Q0⟩
instance:Inhabited aD:=⟨C8⟩
structure kR where
 x0:Int
 x1:Int
def jP:kR:=⟨0,0⟩
instance:Inhabited kR:=⟨jP⟩
structure bY where
 fR:Int
 fM:kR
 fW:Int
 bB:bU
def bq:bY:=⟨0,jP,0,nu⟩
instance:Inhabited bY:=⟨bq⟩
structure aR where
 aN:(List bY)
 dz:Bool
 dH:Int
 bA:Bool
def aH:aR:=⟨[],false,0,false⟩
instance:Inhabited aR:=⟨aH⟩
structure cZ where
 aK:(List aR)
def abu:cZ:=⟨[]⟩
instance:Inhabited cZ:=⟨abu⟩
structure dJ where
 fL:(List Int)
 fW:Int
def YR:dJ:=⟨[],0⟩
instance:Inhabited dJ:=⟨YR⟩
structure gI where
 aK:(List aR)
 iw:Int
def Eu:gI:=⟨[],0⟩
instance:Inhabited gI:=⟨Eu⟩
structure av where
 fG:cZ
 fC:aD
 fR:bG
 fT:dJ
 fK:gI
 dH:Int
 bA:Bool
def IL:av:=⟨abu,C8,QZ,YR,Eu,0,false⟩
instance:Inhabited av:=⟨IL⟩
structure eG where
 qh:Int
def XR:eG:=⟨0⟩
instance:Inhabited eG:=⟨XR⟩
structure eT where
 jL:Bool
 fn:Int
def gK:eT:=⟨false,0⟩
instance:Inhabited eT:=⟨gK⟩
structure xO where
 x0:eT
 x1:eT
 x2:eT
 x3:eT
 x4:eT
 x5:eT
 x6:eT
 x7:eT
 x8:eT
 x9:eT
 x10:eT
 x11:eT
 x12:eT
 x13:eT
 x14:eT
 x15:eT
 x16:eT
 x17:eT
 x18:eT
 x19:eT
 x20:eT
 x21:eT
 x22:eT
 x23:eT
def YS:xO:=⟨gK,gK,gK,gK,gK,gK,gK,gK,gK,gK,gK,gK,gK,gK,gK,gK,gK,gK,gK,gK,gK,gK,gK,gK⟩
instance:Inhabited xO:=⟨YS⟩
structure gQ where
 x0:aD
 x1:aD
def IQ:gQ:=⟨C8,C8⟩
instance:Inhabited gQ:=⟨IQ⟩
structure ay where
 aI:av
 aM:av
 jA:Bool
 fM:eG
 aC:gQ
 iL:(List Int)
 fO:ByteArray
 fZ:Int
def UG:ay:=⟨IL,IL,false,XR,IQ,[],ByteArray.empty,0⟩
instance:Inhabited ay:=⟨UG⟩
structure kE where
 fB:(List Int)
def lT:kE:=⟨[]⟩
instance:Inhabited kE:=⟨lT⟩
structure dA where
 fL:(List (List Int))
 fOpen:Bool
def iC:dA:=⟨[],false⟩
instance:Inhabited dA:=⟨iC⟩
structure aT where
 lu:Int
 dS:ByteArray
 oN:Bool
 cO:dA
 fText:ByteArray
 nX:Int
def dL:aT:=⟨0,ByteArray.empty,false,iC,ByteArray.empty,0⟩
instance:Inhabited aT:=⟨dL⟩
structure bF where
 fU:kE
 fP:aT
 fS:ay
 iF:Int
def yG:bF:=⟨lT,dL,UG,0⟩
instance:Inhabited bF:=⟨yG⟩
structure rH where
 fb:(List Int)
def afe:rH:=⟨[]⟩
instance:Inhabited rH:=⟨afe⟩
structure Bq where
 nX:Int
 akU:Int
 aqz:Int
 fX:Int
 fY:Int
def Gf:Bq:=⟨0,0,0,0,0⟩
instance:Inhabited Bq:=⟨Gf⟩
structure oO where
 Og:Int
 fA:Int
 fB:Int
 fC:Int
 fD:Int
 ait:(List Int)
 YC:Bq
def VU:oO:=⟨0,0,0,0,0,[],Gf⟩
instance:Inhabited oO:=⟨VU⟩
structure aG where
 Og:Int
 fR:Int
 O3:Int
 dS:ByteArray
 cO:(List (List Int))
 fText:ByteArray
def sN:aG:=⟨0,0,0,ByteArray.empty,[],ByteArray.empty⟩
instance:Inhabited aG:=⟨sN⟩
structure aL where
 adg:ByteArray
 adh:Int
 fdo:FV
def Bt:aL:=⟨ByteArray.empty,0,V9⟩
instance:Inhabited aL:=⟨Bt⟩
structure xP where
 fl:(List Int)
def YT:xP:=⟨[]⟩
instance:Inhabited xP:=⟨YT⟩
structure jY where
 anH:Int
 agq:Int
 apf:Bool
def zw:jY:=⟨0,0,false⟩
instance:Inhabited jY:=⟨zw⟩
structure kS where
 fl:(List jY)
def Q5:kS:=⟨[]⟩
instance:Inhabited kS:=⟨Q5⟩
structure kV where
 lI:(List Int)
 ql:(List Int)
 l5:(List Bool)
def abv:kV:=⟨[],[],[]⟩
instance:Inhabited kV:=⟨abv⟩
structure oh where
 fl:(List Int)
 Uy:(List Int)
 Oh:Int
 pz:kV
 Iz:kS
 MN:Int
 FI:Int
 YD:Int
def adF:oh:=⟨[],[],0,abv,Q5,0,0,0⟩
instance:Inhabited oh:=⟨adF⟩
structure jh where
 fl:(List Int)
 EY:Int
def ake:jh:=⟨[],0⟩
instance:Inhabited jh:=⟨ake⟩
structure vo where
 fl:(List Int)
 alK:(List Int)
 EY:Int
 alL:Int
 alM:Int
 ab0:Int
 YE:(List kR)
def akf:vo:=⟨[],[],0,0,0,0,[]⟩
instance:Inhabited vo:=⟨akf⟩
structure nA where
 ahn:Int
 fto:Int
 aat:(List Int)
 aau:(List Int)
 Oh:Int
def ab6:nA:=⟨0,0,[],[],0⟩
instance:Inhabited nA:=⟨ab6⟩
structure oI where
 atz:(List Int)
 apg:(List Int)
 aN:(List bY)
 avM:Int
def akg:oI:=⟨[],[],[],0⟩
instance:Inhabited oI:=⟨akg⟩
structure l6 where
 fG:mP
 jF:Int
 jk:Int
 eO:Int
def IU:l6:=⟨YQ,0,0,0⟩
instance:Inhabited l6:=⟨IU⟩
structure iq where
 fX:Int
 fY:Int
 dz:Bool
 bO:Bool
 bB:bU
 aF:l6
def um:iq:=⟨0,0,false,false,nu,IU⟩
instance:Inhabited iq:=⟨um⟩
structure mR where
 aK:(List aR)
def JK:mR:=⟨[]⟩
instance:Inhabited mR:=⟨JK⟩
structure lJ where
 fH:Int
 fW:Int
 gJ:Int
 dw:Int
def Ht:lJ:=⟨0,0,0,0⟩
instance:Inhabited lJ:=⟨Ht⟩
structure iZ where
 fL:(List Int)
 fW:Int
def IV:iZ:=⟨[],0⟩
instance:Inhabited iZ:=⟨IV⟩
structure jJ where
 aK:(List aR)
 iw:Int
def JL:jJ:=⟨[],0⟩
instance:Inhabited jJ:=⟨JL⟩
structure dZ where
 fG:mR
 fC:iq
 fR:lJ
 fT:iZ
 fK:jJ
 dH:Int
 bA:Bool
def zC:dZ:=⟨JK,um,Ht,IV,JL,0,false⟩
instance:Inhabited dZ:=⟨zC⟩
structure l7 where
 qh:Int
def IW:l7:=⟨0⟩
instance:Inhabited l7:=⟨IW⟩
structure jM where
 x0:iq
 x1:iq
def Bv:jM:=⟨um,um⟩
instance:Inhabited jM:=⟨Bv⟩
structure gV where
 aI:dZ
 aM:dZ
 jA:Bool
 fM:l7
 aC:jM
 iL:(List Int)
 fO:ByteArray
 fZ:Int
def IX:gV:=⟨zC,zC,false,IW,Bv,[],ByteArray.empty,0⟩
instance:Inhabited gV:=⟨IX⟩
structure l8 where
 fB:(List Int)
def IY:l8:=⟨[]⟩
instance:Inhabited l8:=⟨IY⟩
structure mU where
 fL:(List (List Int))
 fOpen:Bool
def JM:mU:=⟨[],false⟩
instance:Inhabited mU:=⟨JM⟩
structure jw where
 lu:Int
 dS:ByteArray
 oN:Bool
 cO:mU
 fText:ByteArray
 nX:Int
def IZ:jw:=⟨0,ByteArray.empty,false,JM,ByteArray.empty,0⟩
instance:Inhabited jw:=⟨IZ⟩
structure fI where
 fU:l8
 fP:jw
 fS:gV
 iF:Int
def fJ:fI:=⟨IY,IZ,IX,0⟩
instance:Inhabited fI:=⟨fJ⟩
def kS0:ByteArray:=(⟨#[76,32,82,32,65,76,32,69,78,32,69,83,32,69,84,32,65,78,32,67,83,32,78,83,77,32,66,78,32,66,32,83,32,87,83,32,79,78,32,76,82,69,32,76,82,79,32,82,76,69,32,82,76,79,32,80,68,70,32,76,82,73,32,82,76,73,32,70,83,73,32,80,68,73]⟩:ByteArray)
def kS1:ByteArray:=(⟨#[48,45,56,32,66,78,44,32,57,32,83,44,32,65,32,66,44,32,66,32,83,44,32,67,32,87,83,44,32,68,32,66,44,32,69,45,49,66,32,66,78,44,32,49,67,45,49,69,32,66,44,32,49,70,32,83,44,32,50,48,32,87,83,44,10,50,49,45,50,50,32,79,78,44,32,50,51,45,50,53,32,69,84,44,32,50,54,45,50,65,32,79,78,44,32,50,66,32,69,83,44,32,50,67,32,67,83,44,32,50,68,32,69,83,44,32,50,69,45,50,70,32,67,83,44,32,51,48,45,51,57,32,69,78,44,32,51,65,32,67,83,44,32,51,66,45,52,48,32,79,78,44,10,53,66,45,54,48,32,79,78,44,32,55,66,45,55,69,32,79,78,44,32,55,70,45,56,52,32,66,78,44,32,56,53,32,66,44,32,56,54,45,57,70,32,66,78,44,32,65,48,32,67,83,44,32,65,49,32,79,78,44,32,65,50,45,65,53,32,69,84,44,32,65,54,45,65,57,32,79,78,44,32,65,66,45,65,67,32,79,78,44,10,65,68,32,66,78,44,32,65,69,45,65,70,32,79,78,44,32,66,48,45,66,49,32,69,84,44,32,66,50,45,66,51,32,69,78,44,32,66,52,32,79,78,44,32,66,54,45,66,56,32,79,78,44,32,66,57,32,69,78,44,32,66,66,45,66,70,32,79,78,44,32,68,55,32,79,78,44,32,70,55,32,79,78,44,10,51,48,48,45,51,54,70,32,78,83,77,44,32,53,57,48,32,82,44,32,53,57,49,45,53,66,68,32,78,83,77,44,32,53,66,69,32,82,44,32,53,66,70,32,78,83,77,44,32,53,67,48,32,82,44,32,53,67,49,45,53,67,50,32,78,83,77,44,32,53,67,51,32,82,44,32,53,67,52,45,53,67,53,32,78,83,77,44,32,53,67,54,32,82,44,10,53,67,55,32,78,83,77,44,32,53,67,56,45,53,70,70,32,82,44,32,54,48,48,45,54,48,53,32,65,78,44,32,54,48,54,45,54,48,55,32,79,78,44,32,54,48,56,32,65,76,44,32,54,48,57,45,54,48,65,32,69,84,44,32,54,48,66,32,65,76,44,32,54,48,67,32,67,83,44,32,54,48,68,32,65,76,44,32,54,48,69,45,54,48,70,32,79,78,44,10,54,49,48,45,54,49,65,32,78,83,77,44,32,54,49,66,45,54,52,65,32,65,76,44,32,54,52,66,45,54,53,70,32,78,83,77,44,32,54,54,48,45,54,54,57,32,65,78,44,32,54,54,65,32,69,84,44,32,54,54,66,45,54,54,67,32,65,78,44,32,54,54,68,45,54,54,70,32,65,76,44,32,54,55,48,32,78,83,77,44,32,54,55,49,45,54,68,53,32,65,76,44,32,54,68,54,45,54,68,67,32,78,83,77,44,10,54,68,68,32,65,78,44,32,54,68,69,32,79,78,44,32,54,68,70,45,54,69,52,32,78,83,77,44,32,54,69,53,45,54,69,54,32,65,76,44,32,54,69,55,45,54,69,56,32,78,83,77,44,32,54,69,57,32,79,78,44,32,54,69,65,45,54,69,68,32,78,83,77,44,32,54,69,69,45,54,69,70,32,65,76,44,32,54,70,48,45,54,70,57,32,69,78,44,32,54,70,65,45,54,70,70,32,65,76,44,10,50,48,48,48,45,50,48,48,65,32,87,83,44,32,50,48,48,66,45,50,48,48,68,32,66,78,44,32,50,48,48,70,32,82,44,32,50,48,49,48,45,50,48,50,55,32,79,78,44,32,50,48,50,56,32,87,83,44,32,50,48,50,57,32,66,44,32,50,48,50,65,32,76,82,69,44,32,50,48,50,66,32,82,76,69,44,32,50,48,50,67,32,80,68,70,44,32,50,48,50,68,32,76,82,79,44,10,50,48,50,69,32,82,76,79,44,32,50,48,50,70,32,67,83,44,32,50,48,51,48,45,50,48,51,52,32,69,84,44,32,50,48,51,53,45,50,48,52,51,32,79,78,44,32,50,48,52,52,32,67,83,44,32,50,48,52,53,45,50,48,53,69,32,79,78,44,32,50,48,53,70,32,87,83,44,32,50,48,54,48,45,50,48,54,53,32,66,78,44,32,50,48,54,54,32,76,82,73,44,32,50,48,54,55,32,82,76,73,44,10,50,48,54,56,32,70,83,73,44,32,50,48,54,57,32,80,68,73,44,32,50,48,54,65,45,50,48,54,70,32,66,78,44,32,50,49,57,48,45,50,50,49,49,32,79,78,44,32,50,50,49,50,32,69,83,44,32,50,50,49,51,32,69,84,44,32,50,50,49,52,45,50,51,51,53,32,79,78,44,32,50,53,48,48,45,50,53,57,70,32,79,78,44,32,51,48,48,48,32,87,83,44,32,51,48,48,49,45,51,48,48,52,32,79,78,44,10,51,48,48,56,45,51,48,50,48,32,79,78,44,32,70,66,49,68,32,82,44,32,70,66,49,69,32,78,83,77,44,32,70,66,49,70,45,70,66,50,56,32,82,44,32,70,66,50,57,32,69,83,44,32,70,66,50,65,45,70,66,52,70,32,82,44,32,70,66,53,48,45,70,68,67,70,32,65,76,44,32,70,69,55,48,45,70,69,70,69,32,65,76,44,32,70,69,70,70,32,66,78,44,32,70,70,70,57,45,70,70,70,68,32,79,78]⟩:ByteArray)
def kS2:ByteArray:=(⟨#[51,48,48,45,51,54,70,32,48,44,32,53,57,49,45,53,66,68,32,48,44,32,53,66,70,32,48,44,32,53,67,49,45,53,67,50,32,48,44,32,53,67,52,45,53,67,53,32,48,44,32,53,67,55,32,48,44,32,54,49,48,45,54,49,65,32,48,44,32,54,52,66,45,54,53,70,32,48,44,32,54,55,48,32,48,44,32,54,68,54,45,54,68,67,32,48,44,10,54,68,70,45,54,69,52,32,48,44,32,54,69,55,45,54,69,56,32,48,44,32,54,69,65,45,54,69,68,32,48,44,32,49,49,48,48,45,49,49,53,70,32,50,44,32,50,48,48,66,45,50,48,48,70,32,48,44,32,50,48,50,65,45,50,48,50,69,32,48,44,32,50,48,54,48,45,50,48,54,70,32,48,44,32,50,69,56,48,45,51,48,51,69,32,50,44,32,51,48,52,49,45,65,52,67,70,32,50,44,32,65,67,48,48,45,68,55,65,51,32,50,44,10,70,57,48,48,45,70,65,70,70,32,50,44,32,70,66,49,69,32,48,44,32,70,69,51,48,45,70,69,54,70,32,50,44,32,70,69,70,70,32,48,44,32,70,70,48,48,45,70,70,54,48,32,50,44,32,70,70,69,48,45,70,70,69,54,32,50,44,32,49,70,51,48,48,45,49,70,54,52,70,32,50,44,32,49,70,57,48,48,45,49,70,57,70,70,32,50,44,32,50,48,48,48,48,45,51,70,70,70,68,32,50]⟩:ByteArray)
def kS3:ByteArray:=(⟨#[51,48,48,45,51,54,70,32,84,44,32,53,57,49,45,53,66,68,32,84,44,32,53,66,70,32,84,44,32,53,67,49,45,53,67,50,32,84,44,32,53,67,52,45,53,67,53,32,84,44,32,53,67,55,32,84,44,32,54,49,48,45,54,49,65,32,84,44,32,54,50,48,32,68,44,32,54,50,50,45,54,50,53,32,82,44,32,54,50,54,32,68,44,10,54,50,55,32,82,44,32,54,50,56,32,68,44,32,54,50,57,32,82,44,32,54,50,65,45,54,50,69,32,68,44,32,54,50,70,45,54,51,50,32,82,44,32,54,51,51,45,54,51,70,32,68,44,32,54,52,48,32,67,44,32,54,52,49,45,54,52,55,32,68,44,32,54,52,56,45,54,52,57,32,82,44,32,54,52,65,32,68,44,10,54,52,66,45,54,53,70,32,84,44,32,54,54,69,45,54,54,70,32,68,44,32,54,55,48,32,84,44,32,54,55,49,45,54,55,51,32,82,44,32,54,55,53,45,54,55,55,32,82,44,32,54,55,56,45,54,56,55,32,68,44,32,54,56,56,45,54,57,57,32,82,44,32,54,57,65,45,54,66,70,32,68,44,32,54,67,48,32,82,44,32,54,67,49,45,54,67,50,32,68,44,10,54,67,51,45,54,67,66,32,82,44,32,54,67,67,32,68,44,32,54,67,68,32,82,44,32,54,67,69,32,68,44,32,54,67,70,32,82,44,32,54,68,48,45,54,68,49,32,68,44,32,54,68,50,45,54,68,51,32,82,44,32,54,68,53,32,82,44,32,54,68,54,45,54,68,67,32,84,44,32,54,68,70,45,54,69,52,32,84,44,10,54,69,55,45,54,69,56,32,84,44,32,54,69,65,45,54,69,68,32,84,44,32,54,69,69,45,54,69,70,32,82,44,32,54,70,65,45,54,70,67,32,68,44,32,54,70,70,32,68,44,32,50,48,48,66,32,84,44,32,50,48,48,68,32,67,44,32,70,66,49,69,32,84]⟩:ByteArray)
def kS4:ByteArray:=(⟨#[50,56,32,50,57,44,32,51,67,32,51,69,44,32,53,66,32,53,68,44,32,55,66,32,55,68,44,32,65,66,32,66,66,44,32,50,48,51,57,32,50,48,51,65,44,32,50,50,48,56,32,50,50,48,66,44,32,50,50,54,52,32,50,50,54,53,44,32,51,48,48,56,32,51,48,48,57,44,32,51,48,48,65,32,51,48,48,66,44,32,51,48,48,67,32,51,48,48,68,44,32,51,48,48,69,32,51,48,48,70,44,10,51,48,49,48,32,51,48,49,49,44,32,50,53,48,67,32,50,53,49,48,44,32,50,53,48,70,32,50,53,49,51,44,32,50,53,49,52,32,50,53,49,56,44,32,50,53,49,55,32,50,53,49,66,44,32,50,53,49,67,32,50,53,50,52,44,32,50,53,50,51,32,50,53,50,66,44,32,50,53,53,52,32,50,53,53,55,44,32,50,53,53,65,32,50,53,53,68,44,32,50,53,54,48,32,50,53,54,51,44,32,50,53,54,68,32,50,53,54,69,44,32,50,53,55,48,32,50,53,54,70,44,10,50,53,55,49,32,50,53,55,50,44,32,50,53,55,52,32,50,53,55,54,44,32,50,53,56,67,32,50,53,57,48]⟩:ByteArray)
def kS5:ByteArray:=(⟨#[50,56,32,50,57,44,32,53,66,32,53,68,44,32,55,66,32,55,68,44,32,51,48,48,56,32,51,48,48,57,44,32,51,48,48,65,32,51,48,48,66,44,32,51,48,48,67,32,51,48,48,68,44,32,51,48,48,69,32,51,48,48,70,44,32,51,48,49,48,32,51,48,49,49]⟩:ByteArray)
def kS6:ByteArray:=(⟨#[54,50,49,32,70,69,56,48,32,49,44,32,54,50,50,32,70,69,56,49,32,50,44,32,54,50,51,32,70,69,56,51,32,50,44,32,54,50,52,32,70,69,56,53,32,50,44,32,54,50,53,32,70,69,56,55,32,50,44,32,54,50,54,32,70,69,56,57,32,52,44,32,54,50,55,32,70,69,56,68,32,50,44,32,54,50,56,32,70,69,56,70,32,52,44,32,54,50,57,32,70,69,57,51,32,50,44,32,54,50,65,32,70,69,57,53,32,52,44,10,54,50,66,32,70,69,57,57,32,52,44,32,54,50,67,32,70,69,57,68,32,52,44,32,54,50,68,32,70,69,65,49,32,52,44,32,54,50,69,32,70,69,65,53,32,52,44,32,54,50,70,32,70,69,65,57,32,50,44,32,54,51,48,32,70,69,65,66,32,50,44,32,54,51,49,32,70,69,65,68,32,50,44,32,54,51,50,32,70,69,65,70,32,50,44,32,54,51,51,32,70,69,66,49,32,52,44,32,54,51,52,32,70,69,66,53,32,52,44,10,54,51,53,32,70,69,66,57,32,52,44,32,54,51,54,32,70,69,66,68,32,52,44,32,54,51,55,32,70,69,67,49,32,52,44,32,54,51,56,32,70,69,67,53,32,52,44,32,54,51,57,32,70,69,67,57,32,52,44,32,54,51,65,32,70,69,67,68,32,52,44,32,54,52,49,32,70,69,68,49,32,52,44,32,54,52,50,32,70,69,68,53,32,52,44,32,54,52,51,32,70,69,68,57,32,52,44,32,54,52,52,32,70,69,68,68,32,52,44,10,54,52,53,32,70,69,69,49,32,52,44,32,54,52,54,32,70,69,69,53,32,52,44,32,54,52,55,32,70,69,69,57,32,52,44,32,54,52,56,32,70,69,69,68,32,50,44,32,54,52,57,32,70,69,69,70,32,50,44,32,54,52,65,32,70,69,70,49,32,52]⟩:ByteArray)
def kS7:ByteArray:=(⟨#[0,1,2,2,3,3,3,3,4,4,4,4,4,4,4,4,5,5,5,5,5,5,5,5,5,5,5,5,5,5,5,5,6,6,6,6,6,6,6,6,6,6,6,6,6,6,6,6,6,6,6,6,6,6,6,6,6,6,6,6,6,6,6,6,7,7,7,7,7,7,7,7,7,7,7,7,7,7,7,7,7,7,7,7,7,7,7,7,7,7,7,7,7,7,7,7,7,7,7,7,7,7,7,7,7,7,7,7,7,7,7,7,7,7,7,7,7,7,7,7,7,7,7,7,7,7,7,7,8,8,8,8,8,8,8,8,8,8,8,8,8,8,8,8,8,8,8,8,8,8,8,8,8,8,8,8,8,8,8,8,8,8,8,8,8,8,8,8,8,8,8,8,8,8,8,8,8,8,8,8,8,8,8,8,8,8,8,8,8,8,8,8,8,8,8,8,8,8,8,8,8,8,8,8,8,8,8,8,8,8,8,8,8,8,8,8,8,8,8,8,8,8,8,8,8,8,8,8,8,8,8,8,8,8,8,8,8,8,8,8,8,8,8,8,8,8,8,8,8,8,8,8,8,8,8,8]⟩:ByteArray)
def jE(L:List (List Int)):List (List Int):=if L=[] then [[-1]] else L
def EP(L:List (List Int))(o:Bool):Bool:=if L=[] then true else o
def J5(L:List (List Int))(c:Int):List (List Int):=L.set (L.length-1) ((L.getD (L.length-1) []).set ((L.getD (L.length-1) []).length-1) (min (10*max ((L.getD (L.length-1) []).getD ((L.getD (L.length-1) []).length-1) 0) 0+(c-48)) 65535))
def D9(L:List (List Int)):List (List Int):=L.set (L.length-1) (L.getD (L.length-1) []++[-1])
def ahk(p:dA):Bool:=decide (p.fL.length<=1000)&&(!p.fL.isEmpty || !p.fOpen)&&p.fL.all λx=>decide (x.length<=1000)&&decide (0<x.length)&&x.all λy=>decide (-1<=y)&&decide (y<=65535)
def JI(s:ByteArray)(c:Int):Option Int:=some (Lib.countByte s.data.toList c.toNat.toUInt8:Nat)
def Ux(l:List aR):Nat->Int->Int
 | 0,x=>x
 | n+1,x=>if 0<=x-1/\(aB aH l (x-1)).dz=true then Ux l n (x-1) else x
def QM(l:List aR):Nat->Int->Int
 | 0,x=>x
 | n+1,x=>if x<ah l/\(aB aH l (x-1)).dz=true then QM l n (x+1) else x
def VR(l:List aR)(y:Int):Option (Int×Int):=if 0<=y/\y<=ah l/\ah l<4611686018427387904 then some (Ux l 31 y,QM l 32 (y+1)) else none
def abp:Option (List (Int×Int)):=some [(1,1),(2,3),(3,3)]
def ET(s:ByteArray)(c:Int):Option Int:=some (Lib.indexByte s.data.toList c.toNat.toUInt8)
def stringslite_IndexByte(s:ByteArray)(c':Int):Option Int :=
 au (ET s c') λv=>
 some v
def stringslite_Index(s:ByteArray)(substr:ByteArray):Option Int :=
 let n:=(bn substr)
 aA (if (n==0)=true then true else (ng substr s))
  (none)
  (aA (n==1)
   (chk ((0:Int)<=0/\(0:Int)<(bn substr)) <|
    au (stringslite_IndexByte s (kY substr 0)) λv=>
    some v)
   (none))
def strings_Index(s:ByteArray)(substr:ByteArray):Option Int :=
 au (stringslite_Index s substr) λv=>
 some v
def strings_Count(s:ByteArray)(substr:ByteArray):Option Int :=
 aA ((bn substr)==0)
  (none)
  (aA ((bn substr)==1)
   (chk ((0:Int)<=0/\(0:Int)<(bn substr)) <|
    au (JI s (kY substr 0)) λv=>
    some v)
   (none))
def strings_genSplit(s:ByteArray)(sep:ByteArray)(sepSave:Int)(n:Int):Option (List ByteArray) :=
 aA (n==0)
  (none)
  (aA (ng sep (⟨#[]⟩:ByteArray))
   (none)
   (aO (aA (decide (n<0))
     (au (strings_Count s sep) λv1=>
      chk (aU .i64 (v1+1)) <|
      let n4:=(v1+1)
      some (.go n4))
     (some (.go n))) λn1=>
    chk (aU .i64 ((bn s)+1)) <|
    let n2:=(aP n1 ((bn s)+1))
    chk (jD 16 n2 n2) <|
    chk (aU .i64 (n2-1)) <|
    let n3:=(n2-1)
    aO (bZ (λ((s2,i1,a1):ByteArray×Int×List ByteArray)=>
     aA (decide (i1<n3))
      (au (strings_Index s2 sep) λv=>
       aA (decide (v<0))
        (some (.out (.go (s2,i1,a1))))
        (chk (aU .i64 (v+sepSave)) <|
         chk ((0:Int)<=0/\(0:Int)<=(v+sepSave)/\(v+sepSave)<=(bn s2)) <|
         chk (0<=i1/\i1<n2) <|
         chk (aU .i64 (v+(bn sep))) <|
         chk (0<=(v+(bn sep))/\(v+(bn sep))<=(bn s2)/\(bn s2)<=(bn s2)) <|
         let s3:=(tQ s2 (v+(bn sep)) (bn s2))
         chk (aU .i64 (i1+1)) <|
         let i2:=(i1+1)
         some (.go (s3,i2,(iM a1 i1 (tQ s2 0 (v+sepSave)))))))
      (some (.out (.go (s2,i1,a1))))) (s,0,(jX n2 ByteArray.empty))) λ(s1,i,a)=>
    chk (0<=i/\i<n2) <|
    chk (aU .i64 (i+1)) <|
    chk ((0:Int)<=0/\(0:Int)<=(i+1)/\(i+1)<=n2) <|
    some (kU (iM a i s1) (0+0) ((0+0)+((i+1)-0)))))
def strings_Split(s:ByteArray)(sep:ByteArray):Option (List ByteArray) :=
 au (strings_genSplit s sep 0 (-1)) λv=>
 some v
def TY(c':Int):Option Bool :=
 some (if (if (c'==32)=true then true else (c'==10))=true then true else (c'==45))
def zD(s:ByteArray):Option (List ByteArray) :=
 chk (jD 16 0 32) <|
 aO (bZ (λ((I4,FR,pos):Int×List mM×Int)=>
  aA (decide (pos<(bn s)))
   (let rune:=(aaw s pos)
    au (TY rune) λv1=>
    aA v1
     (aA (decide (0<=I4))
      (chk (dY 16 ((ah FR)+1)) <|
       let at1:=(ahv .i64 (-1) I4)
       some (.go (at1,(FR++([(mM.mk I4 pos)]:List mM)),(if (decide (pos<(bn s)))=true then (pos+(LG s pos)) else pos))))
      (some (.go (I4,FR,(if (decide (pos<(bn s)))=true then (pos+(LG s pos)) else pos)))))
     (aA (decide (I4<0))
      (some (.go (pos,FR,(if (decide (pos<(bn s)))=true then (pos+(LG s pos)) else pos))))
      (some (.go (I4,FR,(if (decide (pos<(bn s)))=true then (pos+(LG s pos)) else pos))))))
   (some (.out (.go (I4,FR))))) ((-1),(jX 0 nO),0)) λ(start,spans)=>
 aO (aA (decide (0<=start))
  (chk (dY 16 ((ah spans)+1)) <|
   some (.go (spans++([(mM.mk start (bn s))]:List mM))))
  (some (.go spans))) λoJ=>
 chk (jD 16 (ah oJ) (ah oJ)) <|
 aO (bZ (λ((v,a1):Int×List ByteArray)=>
  aA (decide (v<(ah oJ)))
   (chk (0<=v/\v<(ah oJ)) <|
    chk (0<=(aB nO oJ (0+v)).adk/\(aB nO oJ (0+v)).adk<=(aB nO oJ (0+v)).alI/\(aB nO oJ (0+v)).alI<=(bn s)) <|
    chk (0<=v/\v<(ah oJ)) <|
    chk (aU .i64 (v+1)) <|
    some (.go ((v+1),(iM a1 v (tQ s (aB nO oJ (0+v)).adk (aB nO oJ (0+v)).alI)))))
   (some (.out (.go a1)))) (0,(jX (ah oJ) ByteArray.empty))) λa=>
 some a
def DK(e:ByteArray):Option (List ByteArray) :=
 au (zD e) λv=>
 some v
def Bw(c':Int):Option Int :=
 some (oW .u8 c' 32)
def Hu(a0:ByteArray):Option Bool:=none
def DL(s:ByteArray)(base:Int)(bitSize:Int):Option (Int×Unit) :=
 aA (ng s (⟨#[]⟩:ByteArray))
  (none)
  (let base0:=(base==0)
   aO (aA (if (decide (2<=base))=true then (decide (base<=36)) else false)
    (some (.go ()))
    (none)) λ(_:Unit)=>
   aO (aA (bitSize==0)
    (none)
    (aA (if (decide (bitSize<0))=true then true else (decide (64<bitSize)))
     (none)
     (some (.go ())))) λ(_:Unit)=>
   aO (aA (base==10)
    (none)
    (aA (base==16)
     (some (.go ()))
     (none))) λ(_:Unit)=>
   chk ((0:Int)<=(IntKind.wrap .u64 bitSize)) <|
   chk (aU .u64 ((zh .u64 1 (IntKind.wrap .u64 bitSize))-1)) <|
   let maxVal:=((zh .u64 1 (IntKind.wrap .u64 bitSize))-1)
   aO (bZ (λ((n1,v1):Int×Int)=>
    aA (decide (v1<(bn s)))
     (aO (chk (0<=v1/\v1<(ah (Dj s))) <|
       let c':=(aB 0 (Dj s) v1)
       aO (aA (if (c'==95)=true then base0 else false)
        (none)
        (aA (if (decide (48<=c'))=true then (decide (c'<=57)) else false)
         (chk (aU .u8 (c'-48)) <|
          let d'1:=(c'-48)
          some (.go d'1))
         (au (Bw c') λv2=>
          au (if (decide (97<=v2))=true then Bw c' else some 0) λv3=>
          aA (if (decide (97<=v2))=true then (decide (v3<=122)) else false)
           (au (Bw c') λv2=>
            chk (aU .u8 (v2-97)) <|
            chk (aU .u8 ((v2-97)+10)) <|
            let d'2:=((v2-97)+10)
            some (.go d'2))
           (none)))) λd'=>
       aA (decide ((IntKind.wrap .u8 base)<=d'))
        (none)
        (aA (decide (1152921504606846976<=n1))
         (none)
         (chk (aU .u64 (n1*(IntKind.wrap .u64 base))) <|
          let n3:=(n1*(IntKind.wrap .u64 base))
          chk (aU .u64 (n3+(IntKind.wrap .u64 d'))) <|
          let n11:=(n3+(IntKind.wrap .u64 d'))
          aA (if (decide (n11<n3))=true then true else (decide (maxVal<n11)))
           (none)
           (some (.go n11))))) λn2=>
      chk (aU .i64 (v1+1)) <|
      some (.go (n2,(v1+1))))
     (some (.out (.go n1)))) (0,0)) λn=>
   au (if false=true then Hu s else some false) λv=>
   aA (if false=true then (!v) else false)
    (none)
    (some (n,())))
def E8(s:ByteArray)(base:Int)(bitSize:Int):Option (Int×Unit) :=
 aA (ng s (⟨#[]⟩:ByteArray))
  (none)
  (aO (chk ((0:Int)<=0/\(0:Int)<(bn s)) <|
    aA ((kY s 0)==43)
     (none)
     (aA ((kY s 0)==45)
      (none)
      (some (.go ())))) λ(_:Unit)=>
   au (DL s base bitSize) λv=>
   let un:=v.1
   aA (if false=true then false else false)
    (none)
    (aA (bitSize==0)
     (none)
     (chk (aU .i64 (bitSize-1)) <|
      chk ((0:Int)<=(IntKind.wrap .u64 (bitSize-1))) <|
      let cutoff:=(zh .u64 1 (IntKind.wrap .u64 (bitSize-1)))
      aA (if (!false)=true then (decide (cutoff<=un)) else false)
       (none)
       (aA (if false=true then (decide (cutoff<un)) else false)
        (none)
        (let n:=(IntKind.wrap .i64 un)
         some (n,()))))))
def GJ(s:ByteArray)(base:Int)(bitSize:Int):Option (Int×Unit) :=
 au (E8 s base bitSize) λv=>
 let x':=v.1
 some (x',())
def uo(s:ByteArray):Option Int :=
 au (GJ s 16 32) λv=>
 let n:=v.1
 some n
def strings_Fields(s:ByteArray):Option (List ByteArray) :=
 aO (bZ (λ((n1,wasSpace,Wh,i3):Int×Int×Int×Int)=>
  aA (decide (i3<(bn s)))
   (chk (0<=i3/\i3<(bn s)) <|
    let r':=(kY s i3)
    let apv:=(oW .u8 Wh r')
    chk (0<=r'/\r'<(256:Int)) <|
    let aff:=(IntKind.wrap .i64 (xA 0 r'))
    chk (aU .i64 (n1+(jm .i64 wasSpace (ahv .i64 (-1) aff)))) <|
    let n2:=(n1+(jm .i64 wasSpace (ahv .i64 (-1) aff)))
    chk (aU .i64 (i3+1)) <|
    let i4:=(i3+1)
    some (.go (n2,aff,apv,i4)))
   (some (.out (.go (n1,Wh))))) (0,1,0,0)) λ(n,setBits)=>
 aA (decide (128<=setBits))
  (none)
  (chk (jD 16 n n) <|
   aO (bZ (λ(_:Unit)=>
    chk ((decide (0<(bn s)))=true->(0:Int)<=0/\(0:Int)<(bn s)) <|
    chk ((decide (0<(bn s)))=true->0<=(kY s 0)/\(kY s 0)<(256:Int)) <|
    aA (if (decide (0<(bn s)))=true then (!((xA 0 (kY s 0))==0)) else false)
     (none)
     (some (.out (.go ())))) ()) λ(_:Unit)=>
   aO (bZ (λ((XT,pY,i,a1):Int×Int×Int×List ByteArray)=>
    aA (decide (i<(bn s)))
     (chk (0<=i/\i<(bn s)) <|
      chk (0<=(kY s i)/\(kY s i)<(256:Int)) <|
      aA ((xA 0 (kY s i))==0)
       (chk (aU .i64 (i+1)) <|
        let i1:=(i+1)
        some (.go (XT,pY,i1,a1)))
       (chk (0<=pY/\pY<=i/\i<=(bn s)) <|
        chk (0<=XT/\XT<n) <|
        chk (aU .i64 (XT+1)) <|
        let na2:=(XT+1)
        chk (aU .i64 (i+1)) <|
        let i2:=(i+1)
        aO (bZ (λ(_:Unit)=>
         chk ((decide (i2<(bn s)))=true->0<=i2/\i2<(bn s)) <|
         chk ((decide (i2<(bn s)))=true->0<=(kY s i2)/\(kY s i2)<(256:Int)) <|
         aA (if (decide (i2<(bn s)))=true then (!((xA 0 (kY s i2))==0)) else false)
          (none)
          (some (.out (.go ())))) ()) λ(_:Unit)=>
        some (.go (na2,i2,i2,(iM a1 XT (tQ s pY i))))))
     (some (.out (.go (XT,pY,a1))))) (0,0,0,(jX n ByteArray.empty))) λ(na,fieldStart,a)=>
   aA (decide (fieldStart<(bn s)))
    (chk (0<=fieldStart/\fieldStart<=(bn s)/\(bn s)<=(bn s)) <|
     chk (0<=na/\na<n) <|
     some (iM a na (tQ s fieldStart (bn s))))
    (some a))
def Nk(s:ByteArray):Option Int :=
 aO (au (strings_Fields kS0) λv=>
  bZ (λ(v1:Int)=>
   aA (decide (v1<(ah v)))
    (chk (0<=v1/\v1<(ah v)) <|
     let n:=(aB ByteArray.empty v (0+v1))
     aA (ng n s)
      (chk (aU .i64 (v1+1)) <|
       some (.out (.out (v1+1))))
      (chk (aU .i64 (v1+1)) <|
       some (.go (v1+1))))
    (some (.out (.go ())))) 0) λ(_:Unit)=>
 none
def PL(s:ByteArray):Option Int :=
 au (uo s) λv=>
 chk (aU .i64 (v+1)) <|
 some (v+1)
def PN(s:ByteArray):Option Int :=
 aA (ng s (⟨#[82]⟩:ByteArray))
  (some 1)
  (aA (ng s (⟨#[68]⟩:ByteArray))
   (some 2)
   (aA (ng s (⟨#[67]⟩:ByteArray))
    (some 3)
    (aA (ng s (⟨#[84]⟩:ByteArray))
     (some 4)
     (none))))
def C9(text:ByteArray):Option iU :=
 aO (au (strings_Split text (⟨#[44]⟩:ByteArray)) λv=>
  bZ (λ((v1,o1):Int×List gF)=>
   aA (decide (v1<(ah v)))
    (aO (chk (0<=v1/\v1<(ah v)) <|
      let e:=(aB ByteArray.empty v (0+v1))
      au (DK e) λv2=>
      aO (aO (aA ((ah v2)==3)
        (chk ((0:Int)<=1/\(1:Int)<(ah v2)) <|
         au (uo (aB ByteArray.empty v2 (0+1))) λv5=>
         some (.go v5))
        (aA ((ah v2)==2)
         (some (.go 0))
         (some (.out (.go (0,0,0)))))) λDa=>
       chk ((0:Int)<=0/\(0:Int)<(ah v2)) <|
       au (uo (aB ByteArray.empty v2 (0+0))) λv3=>
       chk (aU .i64 ((ah v2)-1)) <|
       chk (0<=((ah v2)-1)/\((ah v2)-1)<(ah v2)) <|
       au (Nk (aB ByteArray.empty v2 (0+((ah v2)-1)))) λv4=>
       some (.go (v3,Da,v4))) λ(I5,PO,PS)=>
      chk (dY 24 ((ah o1)+1)) <|
      some (.go (o1++([(gF.mk I5 (aY I5 PO) PS)]:List gF)))) λo2=>
     chk (aU .i64 (v1+1)) <|
     some (.go ((v1+1),o2)))
    (some (.out (.go o1)))) (0,([]:List gF))) λo=>
 some (iU.mk o)
def Ew(text:ByteArray):Option iU :=
 aO (au (strings_Split text (⟨#[44]⟩:ByteArray)) λv=>
  bZ (λ((v1,o1):Int×List gF)=>
   aA (decide (v1<(ah v)))
    (aO (chk (0<=v1/\v1<(ah v)) <|
      let e:=(aB ByteArray.empty v (0+v1))
      au (DK e) λv2=>
      aO (aO (aA ((ah v2)==3)
        (chk ((0:Int)<=1/\(1:Int)<(ah v2)) <|
         au (uo (aB ByteArray.empty v2 (0+1))) λv5=>
         some (.go v5))
        (aA ((ah v2)==2)
         (some (.go 0))
         (some (.out (.go (0,0,0)))))) λDa=>
       chk ((0:Int)<=0/\(0:Int)<(ah v2)) <|
       au (uo (aB ByteArray.empty v2 (0+0))) λv3=>
       chk (aU .i64 ((ah v2)-1)) <|
       chk (0<=((ah v2)-1)/\((ah v2)-1)<(ah v2)) <|
       au (PL (aB ByteArray.empty v2 (0+((ah v2)-1)))) λv4=>
       some (.go (v3,Da,v4))) λ(I5,PO,PS)=>
      chk (dY 24 ((ah o1)+1)) <|
      some (.go (o1++([(gF.mk I5 (aY I5 PO) PS)]:List gF)))) λo2=>
     chk (aU .i64 (v1+1)) <|
     some (.go ((v1+1),o2)))
    (some (.out (.go o1)))) (0,([]:List gF))) λo=>
 some (iU.mk o)
def Ey(text:ByteArray):Option iU :=
 aO (au (strings_Split text (⟨#[44]⟩:ByteArray)) λv=>
  bZ (λ((v1,o1):Int×List gF)=>
   aA (decide (v1<(ah v)))
    (aO (chk (0<=v1/\v1<(ah v)) <|
      let e:=(aB ByteArray.empty v (0+v1))
      au (DK e) λv2=>
      aO (aO (aA ((ah v2)==3)
        (chk ((0:Int)<=1/\(1:Int)<(ah v2)) <|
         au (uo (aB ByteArray.empty v2 (0+1))) λv5=>
         some (.go v5))
        (aA ((ah v2)==2)
         (some (.go 0))
         (some (.out (.go (0,0,0)))))) λDa=>
       chk ((0:Int)<=0/\(0:Int)<(ah v2)) <|
       au (uo (aB ByteArray.empty v2 (0+0))) λv3=>
       chk (aU .i64 ((ah v2)-1)) <|
       chk (0<=((ah v2)-1)/\((ah v2)-1)<(ah v2)) <|
       au (PN (aB ByteArray.empty v2 (0+((ah v2)-1)))) λv4=>
       some (.go (v3,Da,v4))) λ(I5,PO,PS)=>
      chk (dY 24 ((ah o1)+1)) <|
      some (.go (o1++([(gF.mk I5 (aY I5 PO) PS)]:List gF)))) λo2=>
     chk (aU .i64 (v1+1)) <|
     some (.go ((v1+1),o2)))
    (some (.out (.go o1)))) (0,([]:List gF))) λo=>
 some (iU.mk o)
def Hw(text:ByteArray):Option (List ji) :=
 aO (au (strings_Split text (⟨#[44]⟩:ByteArray)) λv=>
  bZ (λ((v1,iE):Int×List ji)=>
   aA (decide (v1<(ah v)))
    (chk (0<=v1/\v1<(ah v)) <|
     let e:=(aB ByteArray.empty v (0+v1))
     au (DK e) λv2=>
     aA ((ah v2)==2)
      (chk ((0:Int)<=0/\(0:Int)<(ah v2)) <|
       au (uo (aB ByteArray.empty v2 (0+0))) λv3=>
       chk ((0:Int)<=1/\(1:Int)<(ah v2)) <|
       au (uo (aB ByteArray.empty v2 (0+1))) λv4=>
       chk (dY 16 ((ah iE)+1)) <|
       chk (aU .i64 (v1+1)) <|
       some (.go ((v1+1),(iE++([(ji.mk v3 v4)]:List ji)))))
      (chk (aU .i64 (v1+1)) <|
       some (.go ((v1+1),iE))))
    (some (.out (.go iE)))) (0,([]:List ji))) λl'=>
 some l'
def Q7(text:ByteArray):Option (List jH) :=
 aO (au (strings_Split text (⟨#[44]⟩:ByteArray)) λv=>
  bZ (λ((v1,iE):Int×List jH)=>
   aA (decide (v1<(ah v)))
    (chk (0<=v1/\v1<(ah v)) <|
     let e:=(aB ByteArray.empty v (0+v1))
     au (DK e) λv2=>
     aA ((ah v2)==3)
      (chk ((0:Int)<=0/\(0:Int)<(ah v2)) <|
       au (uo (aB ByteArray.empty v2 (0+0))) λv3=>
       chk ((0:Int)<=1/\(1:Int)<(ah v2)) <|
       au (uo (aB ByteArray.empty v2 (0+1))) λv4=>
       chk ((0:Int)<=2/\(2:Int)<(ah v2)) <|
       au (uo (aB ByteArray.empty v2 (0+2))) λv5=>
       chk (dY 24 ((ah iE)+1)) <|
       chk (aU .i64 (v1+1)) <|
       some (.go ((v1+1),(iE++([(jH.mk v3 v4 v5)]:List jH)))))
      (chk (aU .i64 (v1+1)) <|
       some (.go ((v1+1),iE))))
    (some (.out (.go iE)))) (0,([]:List jH))) λl'=>
 some l'
def Az  : Option bL :=
 au (C9 kS1) λv=>
 au (Ew kS2) λv1=>
 au (Ey kS3) λv2=>
 au (Hw kS4) λv3=>
 au (Hw kS5) λv4=>
 au (Q7 kS6) λv5=>
 some (bL.mk v v1 v2 v3 v4 v5)
def jW(v:Int)(least:Int)(most:Int):Option Int :=
 some (aY least (aP v most))
def LH(h':Int)(w:Int):Option bG :=
 some (bG.mk h' w 0 h')
def yH  : Option bQ :=
 some (bQ.mk (mP.mk 66 66 66 66) 0 2 0)
def zY(h':Int)(w:Int):Option (aD×bG) :=
 au (jW h' 1 1000) λv=>
 au (jW w 1 4096) λv1=>
 au (LH v v1) λv2=>
 au (yH) λv3=>
 some ((aD.mk 0 0 false false nu v3),v2)
def YU(w:Int):Option Int :=
 some (aY 1 (aP w 4096))
def Q8(p':bU):Option bY :=
 some (bY.mk 0 jP 1 p')
def Ec(l':List bY)(mH:Int)(tF:Int)(p':bU):Option (List bY) :=
 chk (0<=mH/\0<=tF/\mH+tF<=ah l') <|
 bZ (λ((v,iE):Int×List bY)=>
  aA (decide (v<tF))
   (au (Q8 p') λv1=>
    chk (0<=v/\v<tF) <|
    chk (aU .i64 (v+1)) <|
    some (.go ((v+1),(iM iE (mH+v) v1))))
   (some (.out iE))) (0,l')
def OM(w:Int)(p':bU):Option aR :=
 aO (au (YU w) λv1=>
  chk (jD 56 v1 v1) <|
  some (.go (jX v1 bq))) λl'=>
 au (Ec l' 0 (ah l') p') λv=>
 chk (ah v=ah l') <|
 some (aR.mk v false 0 false)
def yx(l':List aR)(mH:Int)(tF:Int)(w:Int)(p':bU):Option (List aR) :=
 chk (0<=mH/\0<=tF/\mH+tF<=ah l') <|
 bZ (λ((v,iE):Int×List aR)=>
  aA (decide (v<tF))
   (au (OM w p') λv1=>
    chk (0<=v/\v<tF) <|
    chk (aU .i64 (v+1)) <|
    some (.go ((v+1),(iM iE (mH+v) v1))))
   (some (.out iE))) (0,l')
def Pj(h':Int)(w:Int)(p':bU):Option cZ :=
 aO (chk (jD 48 (aY 1 (aP h' 1000)) (aY 1 (aP h' 1000))) <|
  some (.go ())) λ(_:Unit)=>
 au (yx (jX (aY 1 (aP h' 1000)) aH) 0 (aY 1 (aP h' 1000)) w p') λv=>
 chk (ah v=ah (jX (aY 1 (aP h' 1000)) aH)) <|
 some (cZ.mk v)
def Wj(w:Int):Option Int :=
 some (aY 1 (aP w 4096))
def Dk(w:Int):Option dJ :=
 au (Wj w) λv=>
 aO (bZ (λ((at',o1):Int×List Int)=>
  aA (decide (at'<v))
   (chk (dY 8 ((ah o1)+1)) <|
    chk (aU .i64 (at'+8)) <|
    let kg:=(at'+8)
    some (.go (kg,(o1++([at']:List Int)))))
   (some (.out (.go o1)))) (8,([]:List Int))) λo=>
 some (dJ.mk o v)
def Db(n:Int)(most:Int):Option Int :=
 some (aY 0 (aP n most))
def yw(c':Int):Option gI :=
 au (Db c' 200) λv=>
 some (gI.mk ([]:List aR) v)
def xu(h':Int)(w:Int)(kept:Int):Option av :=
 au (zY h' w) λv=>
 au (Pj h' w nu) λv1=>
 au (Dk w) λv2=>
 au (yw kept) λv3=>
 some (av.mk v1 v.1 v.2 v2 v3 0 false)
def zR  : Option eG :=
 some (eG.mk 322)
def yB(dU:Bool)(n:Int):Option Int :=
 aO (aO (aA (if (false==dU)=true then (4==n) else false)
   (some (.out (.out 0)))
   (chk (aU .i64 (0+1)) <|
    some (.go ()))) λ(_:Unit)=>
  aO (aA (if (false==dU)=true then (8==n) else false)
   (some (.out (.out 1)))
   (chk (aU .i64 (1+1)) <|
    some (.go ()))) λ(_:Unit)=>
  aO (aA (if (false==dU)=true then (20==n) else false)
   (some (.out (.out 2)))
   (chk (aU .i64 (2+1)) <|
    some (.go ()))) λ(_:Unit)=>
  aO (aA (if (true==dU)=true then (1==n) else false)
   (some (.out (.out 3)))
   (chk (aU .i64 (3+1)) <|
    some (.go ()))) λ(_:Unit)=>
  aO (aA (if (true==dU)=true then (5==n) else false)
   (some (.out (.out 4)))
   (chk (aU .i64 (4+1)) <|
    some (.go ()))) λ(_:Unit)=>
  aO (aA (if (true==dU)=true then (6==n) else false)
   (some (.out (.out 5)))
   (chk (aU .i64 (5+1)) <|
    some (.go ()))) λ(_:Unit)=>
  aO (aA (if (true==dU)=true then (7==n) else false)
   (some (.out (.out 6)))
   (chk (aU .i64 (6+1)) <|
    some (.go ()))) λ(_:Unit)=>
  aO (aA (if (true==dU)=true then (9==n) else false)
   (some (.out (.out 7)))
   (chk (aU .i64 (7+1)) <|
    some (.go ()))) λ(_:Unit)=>
  aO (aA (if (true==dU)=true then (25==n) else false)
   (some (.out (.out 8)))
   (chk (aU .i64 (8+1)) <|
    some (.go ()))) λ(_:Unit)=>
  aO (aA (if (true==dU)=true then (45==n) else false)
   (some (.out (.out 9)))
   (chk (aU .i64 (9+1)) <|
    some (.go ()))) λ(_:Unit)=>
  aO (aA (if (true==dU)=true then (47==n) else false)
   (some (.out (.out 10)))
   (chk (aU .i64 (10+1)) <|
    some (.go ()))) λ(_:Unit)=>
  aO (aA (if (true==dU)=true then (66==n) else false)
   (some (.out (.out 11)))
   (chk (aU .i64 (11+1)) <|
    some (.go ()))) λ(_:Unit)=>
  aO (aA (if (true==dU)=true then (1000==n) else false)
   (some (.out (.out 12)))
   (chk (aU .i64 (12+1)) <|
    some (.go ()))) λ(_:Unit)=>
  aO (aA (if (true==dU)=true then (1002==n) else false)
   (some (.out (.out 13)))
   (chk (aU .i64 (13+1)) <|
    some (.go ()))) λ(_:Unit)=>
  aO (aA (if (true==dU)=true then (1003==n) else false)
   (some (.out (.out 14)))
   (chk (aU .i64 (14+1)) <|
    some (.go ()))) λ(_:Unit)=>
  aO (aA (if (true==dU)=true then (1004==n) else false)
   (some (.out (.out 15)))
   (chk (aU .i64 (15+1)) <|
    some (.go ()))) λ(_:Unit)=>
  aO (aA (if (true==dU)=true then (1006==n) else false)
   (some (.out (.out 16)))
   (chk (aU .i64 (16+1)) <|
    some (.go ()))) λ(_:Unit)=>
  aO (aA (if (true==dU)=true then (1015==n) else false)
   (some (.out (.out 17)))
   (chk (aU .i64 (17+1)) <|
    some (.go ()))) λ(_:Unit)=>
  aO (aA (if (true==dU)=true then (1047==n) else false)
   (some (.out (.out 18)))
   (chk (aU .i64 (18+1)) <|
    some (.go ()))) λ(_:Unit)=>
  aO (aA (if (true==dU)=true then (1048==n) else false)
   (some (.out (.out 19)))
   (chk (aU .i64 (19+1)) <|
    some (.go ()))) λ(_:Unit)=>
  aO (aA (if (true==dU)=true then (1049==n) else false)
   (some (.out (.out 20)))
   (chk (aU .i64 (20+1)) <|
    some (.go ()))) λ(_:Unit)=>
  aO (aA (if (true==dU)=true then (2004==n) else false)
   (some (.out (.out 21)))
   (chk (aU .i64 (21+1)) <|
    some (.go ()))) λ(_:Unit)=>
  aO (aA (if (true==dU)=true then (2500==n) else false)
   (some (.out (.out 22)))
   (chk (aU .i64 (22+1)) <|
    some (.go ()))) λ(_:Unit)=>
  aO (aA (if (true==dU)=true then (2501==n) else false)
   (some (.out (.out 23)))
   (chk (aU .i64 (23+1)) <|
    some (.go ()))) λ(_:Unit)=>
  some (.go ())) λ(_:Unit)=>
 some (-1)
def zn(bits:Int):Option Bool :=
 chk (aU .i64 (bits-1)) <|
 some ((jm .i64 bits (bits-1))==0)
def rT(m:eG):Option Bool :=
 aA (if (decide (m.qh<0))=true then true else (decide (16777216<=m.qh)))
  (some false)
  (au (zn (jm .i64 m.qh 28800)) λv=>
   au (if v=true then zn (jm .i64 m.qh 196608) else some false) λv1=>
   some (if v=true then v1 else false))
def qV(m:eG)(dU:Bool)(n:Int):Option Bool :=
 au (yB dU n) λv=>
 au (rT m) λv1=>
 chk ((if v1=true then (decide (0<=v)) else false)=true->(0:Int)<=v) <|
 some (if (if v1=true then (decide (0<=v)) else false)=true then (!((jm .i64 m.qh (zh .i64 1 v))==0)) else false)
def kN(s:ay):Option ay :=
 au (qV s.fM false 8) λv=>
 let on:=(!v)
 some (ay.mk (av.mk s.aI.fG s.aI.fC s.aI.fR s.aI.fT s.aI.fK s.aI.dH on) (av.mk s.aM.fG s.aM.fC s.aM.fR s.aM.fT s.aM.fK s.aM.dH on) s.jA s.fM s.aC s.iL s.fO s.fZ)
def p9(h':Int)(w:Int)(kept:Int):Option ay :=
 au (zY h' w) λv=>
 au (xu h' w kept) λv1=>
 au (xu h' w 0) λv2=>
 au (zR) λv3=>
 au (kN (ay.mk v1 v2 false v3 (gQ.mk v.1 v.1) ([]:List Int) ByteArray.empty 0)) λv4=>
 some v4
def yC(h':Int)(w:Int)(kept:Int):Option bF :=
 au (p9 h' w kept) λv=>
 some (bF.mk lT dL v 0)
def Gv(c':Int):Option (Int×Int×Int) :=
 aO (aA (decide (c'<=127))
  (some (.go 1))
  (aA (if (decide (194<=c'))=true then (decide (c'<=223)) else false)
   (some (.go 2))
   (aA (if (decide (224<=c'))=true then (decide (c'<=239)) else false)
    (some (.go 3))
    (aA (if (decide (240<=c'))=true then (decide (c'<=244)) else false)
     (some (.go 4))
     (some (.go 0)))))) λn=>
 aA (c'==224)
  (some (n,160,191))
  (aA (c'==237)
   (some (n,128,159))
   (aA (c'==240)
    (some (n,144,191))
    (aA (c'==244)
     (some (n,128,143))
     (some (n,128,191)))))
def Ab(b:(List Int)):Option (Int×Int) :=
 chk ((0:Int)<=0/\(0:Int)<(ah b)) <|
 au (Gv (aB 0 b 0)) λv=>
 let n:=v.1;let lo:=v.2.1;let hi:=v.2.2
 aA (n==0)
  (some (0,0))
  (aO (bZ (λ((lo1,hi1,Hy):Int×Int×Int)=>
    chk ((if (decide (Hy<n))=true then (decide (Hy<(ah b))) else false)=true->0<=Hy/\Hy<(ah b)) <|
    chk ((if (if (decide (Hy<n))=true then (decide (Hy<(ah b))) else false)=true then (decide (lo1<=(aB 0 b Hy))) else false)=true->0<=Hy/\Hy<(ah b)) <|
    aA (if (if (if (decide (Hy<n))=true then (decide (Hy<(ah b))) else false)=true then (decide (lo1<=(aB 0 b Hy))) else false)=true then (decide ((aB 0 b Hy)<=hi1)) else false)
     (chk (aU .i64 (Hy+1)) <|
      let k'2:=(Hy+1)
      some (.go (128,191,k'2)))
     (some (.out (.go Hy)))) (lo,hi,1)) λk'=>
   some (k',n))
def J6(s:kE):Option Bool :=
 aA ((ah s.fB)==0)
  (some true)
  (au (Ab s.fB) λv=>
   let k':=v.1;let n:=v.2
   some (if (k'==(ah s.fB))=true then (decide (k'<n)) else false))
def rQ(p':dA):Option Bool :=
 aA (if (decide (16<(ah p'.fL)))=true then true else (if p'.fOpen=true then ((ah p'.fL)==0) else false))
  (some false)
  (aO (bZ (λ(v:Int)=>
    aA (decide (v<(ah p'.fL)))
     (aO (chk (0<=v/\v<(ah p'.fL)) <|
       aA (if (decide ((ah (aB [] p'.fL v))<1))=true then true else (decide (6<(ah (aB [] p'.fL v)))))
        (some (.out (.out (.out false))))
        (bZ (λ(v1:Int)=>
         aA (decide (v1<(ah (aB [] p'.fL v))))
          (chk (0<=v1/\v1<(ah (aB [] p'.fL v))) <|
           let n:=(aB 0 (aB [] p'.fL v) v1)
           aA (if (decide (n<(-1)))=true then true else (decide (65535<n)))
            (some (.out (.out (.out (.out false)))))
            (chk (aU .i64 (v1+1)) <|
             some (.go (v1+1))))
          (some (.out (.go ())))) 0)) λ(_:Unit)=>
      chk (aU .i64 (v+1)) <|
      some (.go (v+1)))
     (some (.out (.go ())))) 0) λ(_:Unit)=>
   some true)
def xE(s:aT):Option Bool :=
 au (if (!(if (if (if (decide (s.lu<0))=true then true else (decide (9<s.lu)))=true then true else (decide (2<(bn s.dS))))=true then true else (decide (1024<(bn s.fText)))))=true then rQ s.cO else some false) λv=>
 aA (if (if (if (if (decide (s.lu<0))=true then true else (decide (9<s.lu)))=true then true else (decide (2<(bn s.dS))))=true then true else (decide (1024<(bn s.fText))))=true then true else (!v))
  (some false)
  (aO (bZ (λ(v1:Int)=>
    aA (decide (v1<(bn s.dS)))
     (chk (0<=v1/\v1<(bn s.dS)) <|
      let c':=(kY s.dS v1)
      let first:=(if (if (v1==0)=true then (decide (60<=c')) else false)=true then (decide (c'<=63)) else false)
      aA (if (!first)=true then (if (decide (c'<32))=true then true else (decide (47<c'))) else false)
       (some (.out (.out false)))
       (chk (aU .i64 (v1+1)) <|
        some (.go (v1+1))))
     (some (.out (.go ())))) 0) λ(_:Unit)=>
   aA (s.lu==0)
    (some (if (if (if (if (ng s.dS (⟨#[]⟩:ByteArray))=true then (!s.oN) else false)=true then ((ah s.cO.fL)==0) else false)=true then (ng s.fText (⟨#[]⟩:ByteArray)) else false)=true then (s.nX==0) else false))
    (aA (s.lu==3)
     (some (ng s.dS (⟨#[]⟩:ByteArray)))
     (some true)))
def Bn(r':bG):Option Bool :=
 aA (if (if (if (decide (r'.fH<1))=true then true else (decide (1000<r'.fH)))=true then true else (decide (r'.fW<1)))=true then true else (decide (4096<r'.fW)))
  (some false)
  (some (if (if (decide (0<=r'.gJ))=true then (decide (r'.gJ<r'.dw)) else false)=true then (decide (r'.dw<=r'.fH)) else false))
def wX(c':aD)(r':bG):Option Bool :=
 some (if (decide (r'.gJ<=c'.fY))=true then (decide (c'.fY<r'.dw)) else false)
def Dv(c':Int):Option Bool :=
 some (if (if (decide (0<=c'))=true then (decide (c'<=256)) else false)=true then true else (if (decide (16777216<=c'))=true then (decide (c'<33554432)) else false))
def Ad(p':bU):Option Bool :=
 au (Dv p'.jy) λv=>
 au (if v=true then Dv p'.jq else some false) λv1=>
 some (if (if (if v=true then v1 else false)=true then (decide (0<=p'.dI)) else false)=true then (decide (p'.dI<=511)) else false)
def qU(final:Int):Option Bool :=
 some (if (if (final==66)=true then true else (final==48))=true then true else (final==65))
def mX(which:Int):Option Bool :=
 some (if (decide (0<=which))=true then (decide (which<=3)) else false)
def tY(which:Int):Option Bool :=
 some (if (which==2)=true then true else (which==3))
def qb(s:bQ):Option Bool :=
 aO (aO (let f'3:=s.fG.x0
   au (qU f'3) λv6=>
   aA (!v6)
    (some (.out (.out false)))
    (chk (aU .i64 (0+1)) <|
     some (.go ()))) λ(_:Unit)=>
  aO (let f'2:=s.fG.x1
   au (qU f'2) λv5=>
   aA (!v5)
    (some (.out (.out false)))
    (chk (aU .i64 (1+1)) <|
     some (.go ()))) λ(_:Unit)=>
  aO (let f'1:=s.fG.x2
   au (qU f'1) λv4=>
   aA (!v4)
    (some (.out (.out false)))
    (chk (aU .i64 (2+1)) <|
     some (.go ()))) λ(_:Unit)=>
  aO (let f':=s.fG.x3
   au (qU f') λv3=>
   aA (!v3)
    (some (.out (.out false)))
    (chk (aU .i64 (3+1)) <|
     some (.go ()))) λ(_:Unit)=>
  some (.go ())) λ(_:Unit)=>
 au (mX s.jF) λv=>
 au (if v=true then mX s.jk else some false) λv1=>
 au (if ((if v=true then v1 else false)&&((if v=true then v1 else false)&&(!(s.eO==0))))=true then tY s.eO else some false) λv2=>
 some (if (if v=true then v1 else false)=true then (if (s.eO==0)=true then true else v2) else false)
def nI(c':aD)(r':bG):Option Bool :=
 au (Bn r') λv=>
 aA (if (if (if (if (!v)=true then true else (decide (c'.fX<0)))=true then true else (decide (r'.fW<=c'.fX)))=true then true else (decide (c'.fY<0)))=true then true else (decide (r'.fH<=c'.fY)))
  (some false)
  (chk (c'.dz=true->aU .i64 (r'.fW-1)) <|
   au (if ((!(if c'.dz=true then (!(c'.fX==(r'.fW-1))) else false))&&((!(if c'.dz=true then (!(c'.fX==(r'.fW-1))) else false))&&c'.bO))=true then wX c' r' else some false) λv1=>
   aA (if (if c'.dz=true then (!(c'.fX==(r'.fW-1))) else false)=true then true else (if c'.bO=true then (!v1) else false))
    (some false)
    (au (Ad c'.bB) λv2=>
     au (if v2=true then qb c'.aF else some false) λv3=>
     some (if v2=true then v3 else false)))
def vg(s:dJ):Option Bool :=
 aA (if (decide (s.fW<1))=true then true else (decide (4096<s.fW)))
  (some false)
  (aO (bZ (λ((ahead,v):Int×Int)=>
    aA (decide (v<(ah s.fL)))
     (chk (0<=v/\v<(ah s.fL)) <|
      let x':=(aB 0 s.fL v)
      aA (if (decide (x'<=ahead))=true then true else (decide (s.fW<=x')))
       (some (.out (.out false)))
       (chk (aU .i64 (v+1)) <|
        some (.go (x',(v+1)))))
     (some (.out (.go ())))) ((-1),0)) λ(_:Unit)=>
   some true)
def J7(c':bY):Option Bool :=
 aO (aO (let m1:=c'.fM.x0
   aA (if (if (decide (m1<0))=true then true else (decide (1114111<m1)))=true then true else (if (!(m1==0))=true then (c'.fR==0) else false))
    (some (.out (.out false)))
    (chk (aU .i64 (0+1)) <|
     some (.go ()))) λ(_:Unit)=>
  aO (let m:=c'.fM.x1
   aA (if (if (decide (m<0))=true then true else (decide (1114111<m)))=true then true else (if (!(m==0))=true then (c'.fR==0) else false))
    (some (.out (.out false)))
    (chk (aU .i64 (1+1)) <|
     some (.go ()))) λ(_:Unit)=>
  some (.go ())) λ(_:Unit)=>
 au (if (!(if (if (decide (c'.fR<0))=true then true else (decide (1114111<c'.fR)))=true then true else (if (c'.fM.x0==0)=true then (!(c'.fM.x1==0)) else false)))=true then Ad c'.bB else some false) λv=>
 aA (if (if (if (decide (c'.fR<0))=true then true else (decide (1114111<c'.fR)))=true then true else (if (c'.fM.x0==0)=true then (!(c'.fM.x1==0)) else false))=true then true else (!v))
  (some false)
  (aA (c'.fW==0)
   (some (c'.fR==0))
   (aA (c'.fW==1)
    (some true)
    (aA (c'.fW==2)
     (some (!(c'.fR==0)))
     (some false))))
def J8(l':(List bY))(i:Int):Option Bool :=
 chk (0<=i/\i<(ah l')) <|
 aA ((aB bq l' i).fW==0)
  (chk ((!(i==0))=true->aU .i64 (i-1)) <|
   chk ((!(i==0))=true->0<=(i-1)/\(i-1)<(ah l')) <|
   some (if (i==0)=true then true else (!((aB bq l' (i-1)).fW==2))))
  (aA ((aB bq l' i).fW==2)
   (chk (aU .i64 (i+1)) <|
    chk ((!((i+1)==(ah l')))=true->aU .i64 (i+1)) <|
    chk ((!((i+1)==(ah l')))=true->0<=(i+1)/\(i+1)<(ah l')) <|
    some (if ((i+1)==(ah l'))=true then true else (!((aB bq l' (i+1)).fW==0))))
   (some false))
def qc(r':aR):Option Bool :=
 aA (if (if (if (decide ((ah r'.aN)<1))=true then true else (decide (4096<(ah r'.aN))))=true then true else (decide (r'.dH<0)))=true then true else (decide (2<r'.dH)))
  (some false)
  (aO (bZ (λ(v:Int)=>
    aA (decide (v<(ah r'.aN)))
     (chk (0<=v/\v<(ah r'.aN)) <|
      au (J7 (aB bq r'.aN v)) λv1=>
      au (if (!(!v1))=true then J8 r'.aN v else some false) λv2=>
      aA (if (!v1)=true then true else v2)
       (some (.out (.out false)))
       (chk (aU .i64 (v+1)) <|
        some (.go (v+1))))
     (some (.out (.go ())))) 0) λ(_:Unit)=>
   some true)
def zQ(g':cZ):Option Bool :=
 aA (if (decide ((ah g'.aK)<1))=true then true else (decide (1000<(ah g'.aK))))
  (some false)
  (aO (bZ (λ(v:Int)=>
    aA (decide (v<(ah g'.aK)))
     (chk (0<=v/\v<(ah g'.aK)) <|
      chk ((0:Int)<=0/\(0:Int)<(ah g'.aK)) <|
      au (if (!(!((ah (aB aH g'.aK v).aN)==(ah (aB aH g'.aK 0).aN))))=true then qc (aB aH g'.aK v) else some false) λv1=>
      aA (if (!((ah (aB aH g'.aK v).aN)==(ah (aB aH g'.aK 0).aN)))=true then true else (!v1))
       (some (.out (.out false)))
       (chk (aU .i64 (v+1)) <|
        some (.go (v+1))))
     (some (.out (.go ())))) 0) λ(_:Unit)=>
   some true)
def MH(g':cZ):Option (Int×Int) :=
 au (zQ g') λv=>
 aA (!v)
  (some (0,0))
  (chk ((0:Int)<=0/\(0:Int)<(ah g'.aK)) <|
   some ((ah g'.aK),(ah (aB aH g'.aK 0).aN)))
def vU(k':gI):Option Bool :=
 aA (if (if (decide (k'.iw<0))=true then true else (decide (200<k'.iw)))=true then true else (decide (k'.iw<(ah k'.aK))))
  (some false)
  (aO (bZ (λ(v:Int)=>
    aA (decide (v<(ah k'.aK)))
     (chk (0<=v/\v<(ah k'.aK)) <|
      au (qc (aB aH k'.aK v)) λv1=>
      aA (!v1)
       (some (.out (.out false)))
       (chk (aU .i64 (v+1)) <|
        some (.go (v+1))))
     (some (.out (.go ())))) 0) λ(_:Unit)=>
   some true)
def jg(s:av):Option Bool :=
 aA (if (decide (s.dH<0))=true then true else (decide (2<s.dH)))
  (some false)
  (au (nI s.fC s.fR) λv=>
   au (if (!(!v))=true then vg s.fT else some false) λv1=>
   aA (if (if (!v)=true then true else (!v1))=true then true else (!(s.fT.fW==s.fR.fW)))
    (some false)
    (au (MH s.fG) λv2=>
     let h':=v2.1;let w:=v2.2
     aA (if (!(h'==s.fR.fH))=true then true else (!(w==s.fR.fW)))
      (some false)
      (au (vU s.fK) λv3=>
       some v3)))
def DN(r':bG):Option bG :=
 some (bG.mk r'.fH r'.fW 0 r'.fH)
def rR(s:ay):Option Bool :=
 au (jg s.aI) λv=>
 au (if (!(!v))=true then jg s.aM else some false) λv1=>
 au (if (!(if (!v)=true then true else (!v1)))=true then rT s.fM else some false) λv2=>
 aA (if (if (!v)=true then true else (!v1))=true then true else (!v2))
  (some false)
  (au (DN s.aI.fR) λv3=>
   au (DN s.aM.fR) λv4=>
   aA (!((v3.fH==v4.fH)&&((v3.fW==v4.fW)&&((v3.gJ==v4.gJ)&&((v3.dw==v4.dw)&&true)))))
    (some false)
    (aO (aO (au (nI s.aC.x0 v3) λv6=>
       aA (!v6)
        (some (.out (.out false)))
        (chk (aU .i64 (0+1)) <|
         some (.go ()))) λ(_:Unit)=>
      aO (au (nI s.aC.x1 v3) λv5=>
       aA (!v5)
        (some (.out (.out false)))
        (chk (aU .i64 (1+1)) <|
         some (.go ()))) λ(_:Unit)=>
      some (.go ())) λ(_:Unit)=>
     aA (if (decide (4096<(ah s.iL)))=true then true else (decide (1024<(bn s.fO))))
      (some false)
      (some (if (decide (0<=s.fZ))=true then (decide (s.fZ<=1114111)) else false))))
def Du(t':bF):Option gI :=
 aA (!t'.fS.jA)
  (some t'.fS.aI.fK)
  (some (gI.mk ([]:List aR) t'.fS.aI.fK.iw))
def nY(t':bF):Option Bool :=
 au (J6 t'.fU) λv=>
 au (if (!(!v))=true then xE t'.fP else some false) λv1=>
 au (if (!(if (!v)=true then true else (!v1)))=true then rR t'.fS else some false) λv2=>
 aA (if (if (!v)=true then true else (!v1))=true then true else (!v2))
  (some false)
  (au (if (decide (0<=t'.iF))=true then Du t' else some Eu) λv3=>
   some (if (decide (0<=t'.iF))=true then (decide (t'.iF<=(ah v3.aK))) else false))
def eH(s:ay):Option av :=
 aA s.jA
  (some s.aM)
  (some s.aI)
def YV(a:oO):Option rH :=
 aA (a.Og==0)
  (some (rH.mk a.ait))
  (none)
def Ac(b:(List Int)):Option Int :=
 chk ((0:Int)<=0/\(0:Int)<(ah b)) <|
 let r':=(IntKind.wrap .i32 (aB 0 b 0))
 aO (aA ((ah b)==2)
  (let r'5:=(jm .i32 r' 31)
   some (.go r'5))
  (aA ((ah b)==3)
   (let r'6:=(jm .i32 r' 15)
    some (.go r'6))
   (aA ((ah b)==4)
    (let r'7:=(jm .i32 r' 7)
     some (.go r'7))
    (some (.go r'))))) λQ9=>
 aO (chk ((0:Int)<=1/\(1:Int)<=(ah b)/\(ah b)<=(ah b)) <|
  bZ (λ((r'3,v):Int×Int)=>
   aA (decide (v<((ah b)-1)))
    (chk (0<=v/\v<(ah (kU b 1 (ah b)))) <|
     let c':=(aB 0 (kU b 1 (ah b)) v)
     chk ((0:Int)<=6) <|
     let r'4:=(oW .i32 (zh .i32 r'3 6) (IntKind.wrap .i32 (jm .u8 c' 63)))
     chk (aU .i64 (v+1)) <|
     some (.go (r'4,(v+1))))
    (some (.out (.go r'3)))) (Q9,0)) λr'2=>
 some r'2
def O7(s:kE)(b:(List Int)):Option (kE×(List Int)) :=
 au (J6 s) λv=>
 aA (!v)
  (some (lT,([]:List Int)))
  (chk (aU .i64 ((ah s.fB)+(ah b))) <|
   chk (jD 1 0 ((ah s.fB)+(ah b))) <|
   chk (dY 1 (0+(ah s.fB))) <|
   chk (dY 1 ((0+(ah s.fB))+(ah b))) <|
   aO (bZ (λ((rM,wL,iE):Int×Int×List Int)=>
    aA (decide (0<wL))
     (au (Ab (kU (((jX 0 0)++s.fB)++b) rM (rM+wL))) λv1=>
      let k':=v1.1;let n:=v1.2
      aA (if (decide (0<k'))=true then (k'==n) else false)
       (chk ((0:Int)<=0/\(0:Int)<=n/\n<=wL) <|
        au (Ac (kU (((jX 0 0)++s.fB)++b) (rM+0) ((rM+0)+(n-0)))) λv2=>
        chk (dY 8 ((ah iE)+1)) <|
        chk (0<=(aY k' 1)/\(aY k' 1)<=wL/\wL<=wL) <|
        some (.go ((rM+(aY k' 1)),(wL-(aY k' 1)),(iE++([(IntKind.wrap .i64 v2)]:List Int)))))
       (aA (if (decide (0<k'))=true then (k'==wL) else false)
        (chk (dY 1 wL) <|
         some (.out (.out ((kE.mk (kU (((jX 0 0)++s.fB)++b) rM (rM+wL))),iE))))
        (chk (dY 8 ((ah iE)+1)) <|
         chk (0<=(aY k' 1)/\(aY k' 1)<=wL/\wL<=wL) <|
         some (.go ((rM+(aY k' 1)),(wL-(aY k' 1)),(iE++([(IntKind.wrap .i64 65533)]:List Int)))))))
     (some (.out (.go iE)))) (0,((0+(ah s.fB))+(ah b)),([]:List Int))) λl'=>
   some (lT,l'))
def wW(r':Int):Option (List aG) :=
 some ([(aG.mk 2 0 (IntKind.wrap .u8 r') ByteArray.empty ([]:List (List Int)) ByteArray.empty)]:List aG)
def Fz(r':Int):Option (aT×(List aG)) :=
 aA (r'==144)
  (some ((aT.mk 8 ByteArray.empty false iC ByteArray.empty 0),([]:List aG)))
  (aA (r'==152)
   (some ((aT.mk 9 ByteArray.empty false iC ByteArray.empty 88),([]:List aG)))
   (aA (r'==155)
    (some ((aT.mk 3 ByteArray.empty false iC ByteArray.empty 0),([]:List aG)))
    (aA (r'==156)
     (some (dL,([]:List aG)))
     (aA (r'==157)
      (some ((aT.mk 7 ByteArray.empty false iC ByteArray.empty 0),([]:List aG)))
      (aA (r'==158)
       (some ((aT.mk 9 ByteArray.empty false iC ByteArray.empty 94),([]:List aG)))
       (aA (r'==159)
        (some ((aT.mk 9 ByteArray.empty false iC ByteArray.empty 95),([]:List aG)))
        (au (wW r') λv=>
         some (dL,v))))))))
def KA(s:aT):Option Bool :=
 some (if (if (s.lu==7)=true then true else (s.lu==8))=true then true else (s.lu==9))
def utf8_appendRuneNonASCII(r':Int):Option (List Int) :=
 let i:=(IntKind.wrap .u32 r')
 aA (decide (i<=2047))
  (chk ((0:Int)<=6) <|
   chk (dY 1 2) <|
   some ([(oW .u8 192 (IntKind.wrap .u8 (Nl .i32 r' 6))),(oW .u8 128 (jm .u8 (IntKind.wrap .u8 r') 63))]:List Int))
  (aA (decide (i<55296))
   (aA (decide (i<55296))
    (chk ((0:Int)<=12) <|
     chk ((0:Int)<=6) <|
     chk (dY 1 3) <|
     some ([(oW .u8 224 (IntKind.wrap .u8 (Nl .i32 r' 12))),(oW .u8 128 (jm .u8 (IntKind.wrap .u8 (Nl .i32 r' 6)) 63)),(oW .u8 128 (jm .u8 (IntKind.wrap .u8 r') 63))]:List Int))
    (aA (if (decide (65535<i))=true then (decide (i<=1114111)) else false)
     (chk ((0:Int)<=18) <|
      chk ((0:Int)<=12) <|
      chk ((0:Int)<=6) <|
      chk (dY 1 4) <|
      some ([(oW .u8 240 (IntKind.wrap .u8 (Nl .i32 r' 18))),(oW .u8 128 (jm .u8 (IntKind.wrap .u8 (Nl .i32 r' 12)) 63)),(oW .u8 128 (jm .u8 (IntKind.wrap .u8 (Nl .i32 r' 6)) 63)),(oW .u8 128 (jm .u8 (IntKind.wrap .u8 r') 63))]:List Int))
     (chk (dY 1 3) <|
      some ([239,191,189]:List Int))))
   (aA (if (decide (57343<i))=true then (decide (i<=65535)) else false)
    (chk ((0:Int)<=12) <|
     chk ((0:Int)<=6) <|
     chk (dY 1 3) <|
     some ([(oW .u8 224 (IntKind.wrap .u8 (Nl .i32 r' 12))),(oW .u8 128 (jm .u8 (IntKind.wrap .u8 (Nl .i32 r' 6)) 63)),(oW .u8 128 (jm .u8 (IntKind.wrap .u8 r') 63))]:List Int))
    (aA (if (decide (65535<i))=true then (decide (i<=1114111)) else false)
     (chk ((0:Int)<=18) <|
      chk ((0:Int)<=12) <|
      chk ((0:Int)<=6) <|
      chk (dY 1 4) <|
      some ([(oW .u8 240 (IntKind.wrap .u8 (Nl .i32 r' 18))),(oW .u8 128 (jm .u8 (IntKind.wrap .u8 (Nl .i32 r' 12)) 63)),(oW .u8 128 (jm .u8 (IntKind.wrap .u8 (Nl .i32 r' 6)) 63)),(oW .u8 128 (jm .u8 (IntKind.wrap .u8 r') 63))]:List Int))
     (chk (dY 1 3) <|
      some ([239,191,189]:List Int)))))
def CO(r':Int):Option (List Int) :=
 aA (decide ((IntKind.wrap .u32 r')<=127))
  (chk (dY 1 1) <|
   some ([(IntKind.wrap .u8 r')]:List Int))
  (au (utf8_appendRuneNonASCII r') λv=>
   some v)
def Uo(r':Int):Option (List Int) :=
 aO (aA (if (if (decide (r'<0))=true then true else (decide (1114111<r')))=true then true else (if (decide (55296<=r'))=true then (decide (r'<=57343)) else false))
  (some (.go 65533))
  (some (.go r'))) λQ9=>
 au (CO (IntKind.wrap .i32 Q9)) λv=>
 some v
def MB(s:aT)(r':Int):Option aT :=
 aA (if (if (decide (0<=r'))=true then (decide (r'<=31)) else false)=true then true else (r'==127))
  (some s)
  (au (Uo r') λv=>
   chk (aU .i64 ((bn s.fText)+(ah v))) <|
   aA (decide (((bn s.fText)+(ah v))<=1024))
    (chk (aU .i64 (bn s.fText+bn (Aa v))) <|
     some (aT.mk s.lu s.dS s.oN s.cO (lY s.fText (Aa v)) s.nX))
    (some s))
def Dr(r':Int):Option (List aG) :=
 some ([(aG.mk 1 r' 0 ByteArray.empty ([]:List (List Int)) ByteArray.empty)]:List aG)
def qR(s:aT)(c':Int)(at':Int):Option aT :=
 aA (decide ((bn s.dS)<2))
  (chk (aU .i64 (bn s.dS+bn (Aa ([c']:List Int)))) <|
   some (aT.mk at' (lY s.dS (Aa ([c']:List Int))) s.oN s.cO s.fText s.nX))
  (some (aT.mk at' s.dS true s.cO s.fText s.nX))
def Dt(s:aT)(c':Int):Option (aT×(List aG)) :=
 aA (decide (c'<=47))
  (au (qR s c' 2) λv=>
   some (v,([]:List aG)))
  (aO (aA (s.lu==1)
    (aA (c'==91)
     (some (.out ((aT.mk 3 ByteArray.empty false iC ByteArray.empty 0),([]:List aG))))
     (aA (c'==93)
      (some (.out ((aT.mk 7 ByteArray.empty false iC ByteArray.empty 0),([]:List aG))))
      (aA (c'==80)
       (some (.out ((aT.mk 8 ByteArray.empty false iC ByteArray.empty 0),([]:List aG))))
       (aA (c'==88)
        (aA (c'==88)
         (some (.out ((aT.mk 9 ByteArray.empty false iC ByteArray.empty c'),([]:List aG))))
         (some (.go ())))
        (aA (c'==94)
         (aA (c'==94)
          (some (.out ((aT.mk 9 ByteArray.empty false iC ByteArray.empty c'),([]:List aG))))
          (some (.go ())))
         (aA (c'==95)
          (some (.out ((aT.mk 9 ByteArray.empty false iC ByteArray.empty c'),([]:List aG))))
          (some (.go ()))))))))
    (some (.go ()))) λ(_:Unit)=>
   aA s.oN
    (some (dL,([]:List aG)))
    (some (dL,([(aG.mk 3 0 c' s.dS ([]:List (List Int)) ByteArray.empty)]:List aG))))
def vB(s:aT)(c':Int):Option (aT×(List aG)) :=
 aA s.oN
  (some (dL,([]:List aG)))
  (some (dL,([(aG.mk 4 0 c' s.dS s.cO.fL ByteArray.empty)]:List aG)))
def VG(p:dA)(c:Bool)(r:dA):Option dA:=if (ahk p&&c)=true then au (rQ p) λb=>if b=true then some r else none else none
def Lp(p:dA):Option dA:=VG p true ⟨if (jE p.fL).length=16 then jE p.fL else jE p.fL++[[-1]],!((jE p.fL).length==16)⟩
def N7(p:dA):Option dA:=VG p true ⟨if EP p.fL p.fOpen=true/\((jE p.fL).getD ((jE p.fL).length-1) []).length<6 then D9 (jE p.fL) else jE p.fL,EP p.fL p.fOpen&&decide (((jE p.fL).getD ((jE p.fL).length-1) []).length<6)⟩
def Ic(p:dA)(c:Int):Option dA:=VG p (decide (48<=c)&&decide (c<=57)) ⟨if EP p.fL p.fOpen=true then J5 (jE p.fL) c else jE p.fL,EP p.fL p.fOpen⟩
def Bh(s:aT)(c':Int):Option (aT×(List aG)) :=
 aA (decide (c'<=47))
  (au (qR s c' 5) λv=>
   some (v,([]:List aG)))
  (aA (decide (64<=c'))
   (au (vB s c') λv1=>
    some (v1.1,v1.2))
   (aA (c'==59)
    (au (Lp s.cO) λv2=>
     some ((aT.mk 4 s.dS s.oN v2 s.fText s.nX),([]:List aG)))
    (aA (c'==58)
     (au (N7 s.cO) λv3=>
      some ((aT.mk 4 s.dS s.oN v3 s.fText s.nX),([]:List aG)))
     (aA (decide (c'<=57))
      (au (Ic s.cO c') λv4=>
       some ((aT.mk 4 s.dS s.oN v4 s.fText s.nX),([]:List aG)))
      (aA (s.lu==3)
       (au (qR s c' 4) λv5=>
        some (v5,([]:List aG)))
       (some ((aT.mk 6 s.dS s.oN s.cO s.fText s.nX),([]:List aG))))))))
def Bj(s:aT)(c':Int):Option (aT×(List aG)) :=
 aO (aO (aA (s.lu==1)
   (some (.go (s.lu==1)))
   (some (.go (s.lu==2)))) λv1=>
  aA v1
   (au (Dt s c') λv2=>
    some (.out (v2.1,v2.2)))
   (aO (aA (s.lu==3)
     (some (.go (s.lu==3)))
     (some (.go (s.lu==4)))) λv3=>
    aA v3
     (au (Bh s c') λv4=>
      some (.out (v4.1,v4.2)))
     (aA (s.lu==5)
      (aA (decide (c'<=47))
       (au (qR s c' 5) λv5=>
        some (.out (v5,([]:List aG))))
       (aA (decide (c'<=63))
        (some (.out ((aT.mk 6 s.dS s.oN s.cO s.fText s.nX),([]:List aG))))
        (au (vB s c') λv6=>
         some (.out (v6.1,v6.2)))))
      (aA (s.lu==6)
       (aA (decide (64<=c'))
        (some (.out (dL,([]:List aG))))
        (some (.out (s,([]:List aG)))))
       (some (.go ())))))) λ(_:Unit)=>
 au (Dr (IntKind.wrap .i64 c')) λv=>
 some (dL,v)
def Me(s:aT):Option (List aG) :=
 aA (s.lu==7)
  (some ([(aG.mk 5 0 0 ByteArray.empty ([]:List (List Int)) s.fText)]:List aG))
  (aA (s.lu==8)
   (some ([(aG.mk 6 0 0 ByteArray.empty ([]:List (List Int)) s.fText)]:List aG))
   (aA (s.lu==9)
    (some ([(aG.mk 7 0 s.nX ByteArray.empty ([]:List (List Int)) s.fText)]:List aG))
    (some ([]:List aG))))
def uU(s:aT)(r':Int):Option (aT×(List aG)) :=
 aO (au (xE s) λv1=>
  aA (!v1)
   (some (.out (dL,([]:List aG))))
   (aA (if (r'==24)=true then true else (r'==26))
    (au (wW r') λv2=>
     some (.out (dL,v2)))
    (aA (r'==27)
     (some (.go (([]:List aG),(aT.mk 1 ByteArray.empty false iC ByteArray.empty 0))))
     (aA (if (decide (128<=r'))=true then (decide (r'<=159)) else false)
      (au (Fz r') λv3=>
       some (.go (v3.2,v3.1)))
      (aA (if (s.lu==7)=true then (r'==7) else false)
       (some (.go (([]:List aG),dL)))
       (au (KA s) λv4=>
        aA v4
         (au (MB s r') λv5=>
          some (.out (v5,([]:List aG))))
         (aA (if (decide (0<=r'))=true then (decide (r'<=31)) else false)
          (au (wW r') λv2=>
           some (.out (s,v2)))
          (aA (r'==127)
           (some (.out (s,([]:List aG))))
           (aA (if (decide (159<r'))=true then true else (decide (r'<0)))
            (au (Dr r') λv6=>
             some (.out (dL,v6)))
            (au (Bj s (IntKind.wrap .u8 r')) λv7=>
             some (.out (v7.1,v7.2)))))))))))) λ(told,next)=>
 au (Me s) λv=>
 chk (dY 80 ((ah v)+(ah told))) <|
 some (next,(v++told))
def Ie(s:aT)(l':(List Int)):Option (aT×(List aG)) :=
 au (xE s) λv=>
 aA (!v)
  (some (dL,([]:List aG)))
  (aO (bZ (λ((v1,s2,all1):Int×aT×List aG)=>
    aA (decide (v1<(ah l')))
     (chk (0<=v1/\v1<(ah l')) <|
      let r':=(aB 0 l' v1)
      au (uU s2 r') λv2=>
      chk (dY 80 ((ah all1)+(ah v2.2))) <|
      chk (aU .i64 (v1+1)) <|
      some (.go ((v1+1),v2.1,(all1++v2.2))))
     (some (.out (.go (s2,all1))))) (0,s,([]:List aG))) λ(s1,all)=>
   some (s1,all))
def xJ(r':Int):Option Int :=
 aA (r'==95)
  (some 32)
  (aA (if (decide (96<=r'))=true then (decide (r'<=126)) else false)
   (chk (aU .i64 (r'-96)) <|
    chk (0<=(r'-96)/\(r'-96)<(31:Int)) <|
    some (xA 4 (r'-96)))
   (some r'))
def Oa(r':Int):Option Int :=
 aA (r'==35)
  (some 163)
  (some r')
def Af(final:Int)(r':Int):Option Int :=
 aA (final==48)
  (au (xJ r') λv=>
   some v)
  (aA (final==65)
   (au (Oa r') λv1=>
    some v1)
   (some r'))
def FB(s:bQ)(r':Int):Option (bQ×Int) :=
 au (qb s) λv=>
 aA (!v)
  (au (yH) λv1=>
   some (v1,r'))
  (aA (if (if (decide (32<=r'))=true then (decide (r'<=127)) else false)=true then (!(s.eO==0)) else false)
   (chk (0<=s.eO/\s.eO<(4:Int)) <|
    au (Af (if (s.eO==0)=true then s.fG.x0 else (if (s.eO==1)=true then s.fG.x1 else (if (s.eO==2)=true then s.fG.x2 else s.fG.x3))) r') λv2=>
    aA (if (decide (32<=r'))=true then (!(if (decide (127<=r'))=true then (decide (r'<=159)) else false)) else false)
     (some ((bQ.mk s.fG s.jF s.jk 0),v2))
     (some (s,v2)))
   (aA (if (decide (32<=r'))=true then (decide (r'<=127)) else false)
    (chk (0<=s.jF/\s.jF<(4:Int)) <|
     au (Af (if (s.jF==0)=true then s.fG.x0 else (if (s.jF==1)=true then s.fG.x1 else (if (s.jF==2)=true then s.fG.x2 else s.fG.x3))) r') λv3=>
     aA (if (decide (32<=r'))=true then (!(if (decide (127<=r'))=true then (decide (r'<=159)) else false)) else false)
      (some ((bQ.mk s.fG s.jF s.jk 0),v3))
      (some (s,v3)))
    (chk ((if (decide (160<=r'))=true then (decide (r'<=255)) else false)=true->0<=s.jk/\s.jk<(4:Int)) <|
     aA (if (if (decide (160<=r'))=true then (decide (r'<=255)) else false)=true then (!((if (s.jk==0)=true then s.fG.x0 else (if (s.jk==1)=true then s.fG.x1 else (if (s.jk==2)=true then s.fG.x2 else s.fG.x3)))==66)) else false)
      (chk (0<=s.jk/\s.jk<(4:Int)) <|
       chk (aU .i64 (r'-128)) <|
       au (Af (if (s.jk==0)=true then s.fG.x0 else (if (s.jk==1)=true then s.fG.x1 else (if (s.jk==2)=true then s.fG.x2 else s.fG.x3))) (r'-128)) λv4=>
       aA (if (decide (32<=r'))=true then (!(if (decide (127<=r'))=true then (decide (r'<=159)) else false)) else false)
        (some ((bQ.mk s.fG s.jF s.jk 0),v4))
        (some (s,v4)))
      (aA (if (decide (32<=r'))=true then (!(if (decide (127<=r'))=true then (decide (r'<=159)) else false)) else false)
       (some ((bQ.mk s.fG s.jF s.jk 0),r'))
       (some (s,r'))))))
def iY(s:ay)(x':av):Option ay :=
 aA s.jA
  (some (ay.mk s.aI x' s.jA s.fM s.aC s.iL s.fO s.fZ))
  (some (ay.mk x' s.aM s.jA s.fM s.aC s.iL s.fO s.fZ))
def Eh(t':iU)(r':Int):Option Int :=
 aO (bZ (λ(v:Int)=>
  aA (decide (v<(ah t'.fL)))
   (chk (0<=v/\v<(ah t'.fL)) <|
    aA (if (decide ((aB ny t'.fL v).fLo<=r'))=true then (decide (r'<=(aB ny t'.fL v).fHi)) else false)
     (some (.out (.out (aB ny t'.fL v).fV)))
     (chk (aU .i64 (v+1)) <|
      some (.go (v+1))))
   (some (.out (.go ())))) 0) λ(_:Unit)=>
 some 0
def Hf(d':bL)(r':Int):Option Int :=
 au (Eh d'.Eb r') λv=>
 aA (decide (0<v))
  (chk (aU .i64 (v-1)) <|
   some (v-1))
  (some 1)
def sP(r':aR):Option (List bY) :=
 chk (jD 56 (ah r'.aN) (ah r'.aN)) <|
 some (VL (jX (ah r'.aN) bq) 0 r'.aN (aP (ah r'.aN) (ah r'.aN)))
def Pg(r':aR)(at':Int)(m:Int):Option aR :=
 au (qc r') λv=>
 aA (if (if (if (if (!v)=true then true else (decide (at'<0)))=true then true else (decide ((ah r'.aN)<=at')))=true then true else (decide (m<1)))=true then true else (decide (1114111<m)))
  (some r')
  (aO (chk (0<=at'/\at'<(ah r'.aN)) <|
    aA ((aB bq r'.aN at').fW==0)
     (chk (aU .i64 (at'-1)) <|
      let KC:=(at'-1)
      some (.go KC))
     (some (.go at'))) λkg=>
   chk (0<=kg/\kg<(ah r'.aN)) <|
   aA ((aB bq r'.aN kg).fR==0)
    (some r')
    (aO (chk (0<=kg/\kg<(ah r'.aN)) <|
      aO (let x'1:=(aB bq r'.aN kg).fM.x0
       aA (x'1==0)
        (au (sP r') λv2=>
         chk (0<=kg/\kg<(ah v2)) <|
         some (.out (.out (aR.mk (iM v2 kg (bY.mk (aB bq v2 (0+kg)).fR (kR.mk m (aB bq v2 (0+kg)).fM.x1) (aB bq v2 (0+kg)).fW (aB bq v2 (0+kg)).bB)) r'.dz r'.dH r'.bA))))
        (chk (aU .i64 (0+1)) <|
         some (.go ()))) λ(_:Unit)=>
      aO (let x':=(aB bq r'.aN kg).fM.x1
       aA (x'==0)
        (au (sP r') λv1=>
         chk (0<=kg/\kg<(ah v1)) <|
         some (.out (.out (aR.mk (iM v1 kg (bY.mk (aB bq v1 (0+kg)).fR (kR.mk (aB bq v1 (0+kg)).fM.x0 m) (aB bq v1 (0+kg)).fW (aB bq v1 (0+kg)).bB)) r'.dz r'.dH r'.bA))))
        (chk (aU .i64 (1+1)) <|
         some (.go ()))) λ(_:Unit)=>
      some (.go ())) λ(_:Unit)=>
     some r'))
def F9(r':aR)(cap0:Int)(iI:Int):Option aR :=
 au (Pg r' cap0 iI) λv=>
 some v
def vk(g':cZ):Option (List aR) :=
 chk (dY 48 (ah g'.aK)) <|
 some g'.aK
def Ph(g':cZ)(y':Int)(r':aR):Option cZ :=
 aO (au (zQ g') λv=>
  chk ((!(if (if (!v)=true then true else (decide (y'<0)))=true then true else (decide ((ah g'.aK)<=y'))))=true->(0:Int)<=0/\(0:Int)<(ah g'.aK)) <|
  au (if (!(if (if (if (!v)=true then true else (decide (y'<0)))=true then true else (decide ((ah g'.aK)<=y')))=true then true else (!((ah r'.aN)==(ah (aB aH g'.aK 0).aN)))))=true then qc r' else some false) λv1=>
  aA (if (if (if (if (!v)=true then true else (decide (y'<0)))=true then true else (decide ((ah g'.aK)<=y')))=true then true else (!((ah r'.aN)==(ah (aB aH g'.aK 0).aN))))=true then true else (!v1))
   (some (.out g'))
   (au (vk g') λv2=>
    chk (0<=y'/\y'<(ah v2)) <|
    some (.go (iM v2 y' r')))) λl'=>
 some (cZ.mk l')
def Ee(r':aR)(cap0:Bool):Option aR :=
 some (aR.mk r'.aN cap0 r'.dH r'.bA)
def T9(r':aR)(from':Int)(to:Int):Option (Int×Int) :=
 let w:=(ah r'.aN)
 let wz:=(aY 0 (aP from' w))
 let to1:=(aY 0 (aP to w))
 some (wz,(aY wz to1))
def xI(r':aR)(l':List bY)(mH:Int)(tF:Int):Option (aR) :=
 chk (0<=mH/\0<=tF/\mH+tF<=ah l') <|
 aO (bZ (λ((v,l'2):Int×List bY)=>
  aA (decide (v<tF))
   (au (J8 (kU l'2 mH (mH+tF)) v) λv1=>
    aA v1
     (chk (0<=v/\v<tF) <|
      au (Q8 (aB bq l'2 (mH+v)).bB) λv2=>
      chk (0<=v/\v<tF) <|
      chk (aU .i64 (v+1)) <|
      some (.go ((v+1),(iM l'2 (mH+v) v2))))
     (chk (aU .i64 (v+1)) <|
      some (.go ((v+1),l'2))))
   (some (.out (.go l'2)))) (0,l')) λiE=>
 some (aR.mk (kU iE mH (mH+tF)) r'.dz r'.dH r'.bA)
def MI(r':aR)(from':Int)(to:Int)(p':bU):Option aR :=
 aO (au (qc r') λv1=>
  au (if (!(!v1))=true then Ad p' else some false) λv2=>
  aA (if (!v1)=true then true else (!v2))
   (some (.out r'))
   (au (T9 r' from' to) λv3=>
    let wz:=v3.1;let to1:=v3.2
    au (sP r') λv4=>
    chk (0<=wz/\wz<=to1/\to1<=(ah v4)) <|
    au (Ec v4 (0+wz) (to1-wz) p') λv5=>
    chk (ah v5=ah v4) <|
    some (.go v5))) λl'=>
 au (xI r' l' 0 (ah l')) λv=>
 some v
def CS(r':aR)(cap0:Int)(iI:Int)(Ez:Int)(EA:Int)(uX:Int):Option aR :=
 au (MI r' cap0 iI (bU.mk Ez EA uX)) λv=>
 some v
def G5(r':aR)(at':Int)(right:Int)(p':bU):Option Bool :=
 au (qc r') λv=>
 au (if v=true then Ad p' else some false) λv1=>
 some (if (if (if (if v=true then v1 else false)=true then (decide (0<=at')) else false)=true then (decide (at'<right)) else false)=true then (decide (right<=(ah r'.aN))) else false)
def Ig(r':aR)(at':Int)(n:Int)(right:Int)(p':bU):Option aR :=
 aO (au (G5 r' at' right p') λv2=>
  aA (!v2)
   (some (.out r'))
   (chk (aU .i64 (right-at')) <|
    let n1:=(aY 0 (aP n (right-at')))
    au (sP r') λv3=>
    chk (aU .i64 (at'+n1)) <|
    chk (0<=(at'+n1)/\(at'+n1)<=right/\right<=(ah v3)) <|
    chk (aU .i64 (right-n1)) <|
    chk (0<=at'/\at'<=(right-n1)/\(right-n1)<=(ah r'.aN)) <|
    some (.go (VL v3 (0+(at'+n1)) (kU r'.aN at' (right-n1)) (aP ((right-n1)-at') (right-(at'+n1))))))) λl'=>
 aO (chk (aU .i64 (at'+(aY 0 (aP n (right-at'))))) <|
  chk (0<=at'/\at'<=(at'+(aY 0 (aP n (right-at'))))/\(at'+(aY 0 (aP n (right-at'))))<=(ah l')) <|
  au (Ec l' (0+at') ((at'+(aY 0 (aP n (right-at'))))-at') p') λv1=>
  chk (ah v1=ah l') <|
  some (.go v1)) λiE=>
 au (xI r' iE 0 (ah l')) λv=>
 some v
def yU(r':aR)(cap0:Int)(iI:Int)(cap2:Int)(aax:Int)(aay:Int)(Oo:Int):Option aR :=
 au (Ig r' cap0 iI cap2 (bU.mk aax aay Oo)) λv=>
 some v
def Ut(r':aR)(at':Int)(c':bY):Option aR :=
 au (qc r') λv=>
 au (if (!(!v))=true then J7 c' else some false) λv1=>
 chk ((!(if (if (if (!v)=true then true else (!v1))=true then true else (c'.fW==0))=true then true else (decide (at'<0))))=true->aU .i64 ((ah r'.aN)-c'.fW)) <|
 aA (if (if (if (if (!v)=true then true else (!v1))=true then true else (c'.fW==0))=true then true else (decide (at'<0)))=true then true else (decide (((ah r'.aN)-c'.fW)<at')))
  (some r')
  (au (sP r') λv2=>
   chk (0<=at'/\at'<(ah v2)) <|
   aO (aA (c'.fW==2)
    (chk (aU .i64 (at'+1)) <|
     chk (0<=(at'+1)/\(at'+1)<(ah v2)) <|
     some (.go (iM (iM v2 at' c') (at'+1) (bY.mk 0 jP 0 c'.bB))))
    (some (.go (iM v2 at' c')))) λl'=>
   au (xI r' l' 0 (ah v2)) λv3=>
   some v3)
def zm(x':aR)(cap0:Int)(iI:Int)(cap2:Int)(Gg:Int)(Gi:Int)(AA:Int)(PU:Int)(Bz:Bool)(cap4:Bool):Option aR :=
 au (Ut x' cap0 (bY.mk iI jP cap2 (bU.mk Gg Gi AA))) λv=>
 aA cap4
  (some (aR.mk v.aN false PU Bz))
  (some (aR.mk v.aN v.dz PU Bz))
def Ih(r':aR)(at':Int)(n:Int)(right:Int)(p':bU):Option aR :=
 aO (au (G5 r' at' right p') λv2=>
  aA (!v2)
   (some (.out r'))
   (chk (aU .i64 (right-at')) <|
    let n1:=(aY 0 (aP n (right-at')))
    au (sP r') λv3=>
    chk (aU .i64 (right-n1)) <|
    chk (0<=at'/\at'<=(right-n1)/\(right-n1)<=(ah v3)) <|
    chk (aU .i64 (at'+n1)) <|
    chk (0<=(at'+n1)/\(at'+n1)<=right/\right<=(ah r'.aN)) <|
    some (.go (VL v3 (0+at') (kU r'.aN (at'+n1) right) (aP (right-(at'+n1)) ((right-n1)-at')))))) λl'=>
 aO (chk (aU .i64 (right-(aY 0 (aP n (right-at'))))) <|
  chk (0<=(right-(aY 0 (aP n (right-at'))))/\(right-(aY 0 (aP n (right-at'))))<=right/\right<=(ah l')) <|
  au (Ec l' (0+(right-(aY 0 (aP n (right-at'))))) (right-(right-(aY 0 (aP n (right-at'))))) p') λv1=>
  chk (ah v1=ah l') <|
  some (.go v1)) λiE=>
 au (xI r' iE 0 (ah l')) λv=>
 some v
def qd(r':aR)(cap0:Int)(iI:Int)(Ez:Int)(EA:Int)(uX:Int):Option aR :=
 au (Ih r' cap0 (aY iI 1) (ah r'.aN) (bU.mk Ez EA uX)) λv=>
 some v
def aao(v:FV)(a0:aR):Option aR:=match v with
 | .bool (.nil 325) c0=>Ee a0 c0
 | .box (.int (.int (.nil 326) .i64 c0) .i64 c1) 3 [(0,.int .i64 apw),(1,.int .i64 apx),(2,.int .i64 apy)]=>CS a0 c0 c1 apw apx apy
 | .box (.int (.int (.int (.nil 312) .i64 c0) .i64 c1) .i64 c2) 3 [(0,.int .i64 ayF),(1,.int .i64 ayG),(2,.int .i64 ayH)]=>yU a0 c0 c1 c2 ayF ayG ayH
 | .bool (.box (.int (.int (.int (.nil 221) .i64 c0) .i64 c1) .i64 c2) 25 [(5,.int .i64 ayI),(6,.int .i64 ayJ),(7,.int .i64 ayK),(23,.int .i64 awu),(24,.bool awv)]) c4=>zm a0 c0 c1 c2 ayI ayJ ayK awu awv c4
 | .int (.int (.nil 216) .i64 c0) .i64 c1=>F9 a0 c0 c1
 | .box (.int (.int (.nil 249) .i64 c0) .i64 c1) 3 [(0,.int .i64 apw),(1,.int .i64 apx),(2,.int .i64 apy)]=>qd a0 c0 c1 apw apx apy
 | _=>none
def kQ(s:av)(steps:(List FV)):Option av :=
 chk (0<=s.fC.fY/\s.fC.fY<(ah s.fG.aK)) <|
 aO (bZ (λ((v1,Q9):Int×aR)=>
  aA (decide (v1<(ah steps)))
   (chk (0<=v1/\v1<(ah steps)) <|
    au (aao (aB V9 steps v1) Q9) λv2=>
    chk (aU .i64 (v1+1)) <|
    some (.go ((v1+1),v2)))
   (some (.out (.go Q9)))) (0,(aB aH s.fG.aK s.fC.fY))) λr'=>
 au (Ph s.fG s.fC.fY r') λv=>
 some (av.mk v s.fC s.fR s.fT s.fK s.dH s.bA)
def FH(s:av)(m:Int):Option av :=
 au (jg s) λv=>
 aA (!v)
  (some s)
  (aO (aA (!s.fC.dz)
    (chk (aU .i64 (s.fC.fX-1)) <|
     some (.go (s.fC.fX-1)))
    (some (.go s.fC.fX))) λWl=>
   aO (aA (decide (Wl<0))
    (some (.out s))
    (some (.go ()))) λ(_:Unit)=>
   au (kQ s ([(FV.int (FV.int (FV.nil 216) .i64 Wl) .i64 m)]:List FV)) λv1=>
   some v1)
def vW(on:Bool):Option FV :=
 some (FV.bool (FV.nil 325) on)
def j4(s:av):Option bU :=
 some (bU.mk 0 s.fC.bB.jq 0)
def BN(g':cZ)(p':bU):Option Bool :=
 au (zQ g') λv=>
 au (if v=true then OM 1 p' else some aH) λv1=>
 au (if v=true then qc v1 else some false) λv2=>
 some (if v=true then v2 else false)
def Ed(g':cZ)(top:Int)(bottom:Int)(p':bU):Option Bool :=
 au (BN g' p') λv=>
 some (if (if (if v=true then (decide (0<=top)) else false)=true then (decide (top<bottom)) else false)=true then (decide (bottom<=(ah g'.aK))) else false)
def OO(g':cZ)(top:Int)(bottom:Int)(n:Int)(p':bU):Option (cZ×(List aR)) :=
 au (Ed g' top bottom p') λv=>
 aA (!v)
  (some (g',([]:List aR)))
  (chk (aU .i64 (bottom-top)) <|
   let n1:=(aY 0 (aP n (bottom-top)))
   au (vk g') λv1=>
   aO (bZ (λ((v4,Wn):Int×List aR)=>
    aA (decide (v4<n1))
     (chk (aU .i64 (top+v4)) <|
      chk (0<=(top+v4)/\(top+v4)<(ah g'.aK)) <|
      chk (dY 48 ((ah Wn)+1)) <|
      chk (aU .i64 (v4+1)) <|
      some (.go ((v4+1),(Wn++([(aB aH g'.aK (top+v4))]:List aR)))))
     (some (.out (.go Wn)))) (0,([]:List aR))) λgone=>
   aO (chk (aU .i64 (bottom-top)) <|
    chk (aU .i64 ((bottom-top)-n1)) <|
    bZ (λ((v3,iE):Int×List aR)=>
     aA (decide (v3<((bottom-top)-n1)))
      (chk (aU .i64 (top+v3)) <|
       chk (aU .i64 (top+n1)) <|
       chk (aU .i64 ((top+n1)+v3)) <|
       chk (0<=((top+n1)+v3)/\((top+n1)+v3)<(ah g'.aK)) <|
       chk (0<=(top+v3)/\(top+v3)<(ah v1)) <|
       chk (aU .i64 (v3+1)) <|
       some (.go ((v3+1),(iM iE (top+v3) (aB aH g'.aK ((top+n1)+v3))))))
      (some (.out (.go iE)))) (0,v1)) λl'=>
   chk (aU .i64 (bottom-n1)) <|
   chk (0<=(bottom-n1)/\(bottom-n1)<=bottom/\bottom<=(ah v1)) <|
   chk ((0:Int)<=0/\(0:Int)<(ah g'.aK)) <|
   au (yx l' (0+(bottom-n1)) (bottom-(bottom-n1)) (ah (aB aH g'.aK 0).aN) p') λv2=>
   chk (ah v2=ah l') <|
   some ((cZ.mk v2),gone))
def Dx(k':gI)(l':(List aR)):Option gI :=
 au (vU k') λv=>
 aA (!v)
  (some Eu)
  (chk (dY 48 (ah k'.aK)) <|
   aO (bZ (λ((v1,all1):Int×List aR)=>
    aA (decide (v1<(ah l')))
     (chk (0<=v1/\v1<(ah l')) <|
      au (qc (aB aH l' v1)) λv2=>
      aA v2
       (chk (dY 48 ((ah all1)+1)) <|
        chk (aU .i64 (v1+1)) <|
        some (.go ((v1+1),(all1++([(aB aH l' v1)]:List aR)))))
       (chk (aU .i64 (v1+1)) <|
        some (.go ((v1+1),all1))))
     (some (.out (.go all1)))) (0,k'.aK)) λall=>
   let n:=(ah all)
   chk (aU .i64 (n-k'.iw)) <|
   chk (0<=(aY 0 (n-k'.iw))/\(aY 0 (n-k'.iw))<=n/\n<=(ah all)) <|
   chk (0<=n/\n<=n/\n<=(ah all)) <|
   some (gI.mk (kU all (0+(aY 0 (n-k'.iw))) ((0+(aY 0 (n-k'.iw)))+(n-(aY 0 (n-k'.iw))))) k'.iw))
def G9(s:av)(n:Int):Option av :=
 au (j4 s) λv=>
 au (OO s.fG s.fR.gJ s.fR.dw n v) λv1=>
 aA (s.fR.gJ==0)
  (au (Dx s.fK v1.2) λv2=>
   some (av.mk v1.1 s.fC s.fR s.fT v2 s.dH s.bA))
  (some (av.mk v1.1 s.fC s.fR s.fT s.fK s.dH s.bA))
def BP(s:av):Option av :=
 chk (aU .i64 (s.fR.dw-1)) <|
 aA (s.fC.fY==(s.fR.dw-1))
  (au (G9 (av.mk s.fG (aD.mk s.fC.fX s.fC.fY false s.fC.bO s.fC.bB s.fC.aF) s.fR s.fT s.fK s.dH s.bA) 1) λv=>
   some v)
  (chk (aU .i64 (s.fC.fY+1)) <|
   chk (aU .i64 (s.fR.fH-1)) <|
   some (av.mk s.fG (aD.mk s.fC.fX (aP (s.fC.fY+1) (s.fR.fH-1)) false s.fC.bO s.fC.bB s.fC.aF) s.fR s.fT s.fK s.dH s.bA))
def BQ(s:av):Option av :=
 au (vW true) λv=>
 au (kQ s ([v]:List FV)) λv1=>
 au (BP v1) λv2=>
 some (av.mk v2.fG (aD.mk 0 v2.fC.fY v2.fC.dz v2.fC.bO v2.fC.bB v2.fC.aF) v2.fR v2.fT v2.fK v2.dH v2.bA)
def xK(at':Int)(n:Int)(right:Int)(p':bU):Option FV :=
 some (FV.box (FV.int (FV.int (FV.int (FV.nil 312) .i64 at') .i64 n) .i64 right) 3 [(0,.int .i64 p'.jy),(1,.int .i64 p'.jq),(2,.int .i64 p'.dI)])
def Dz(s:av)(r':Int)(w:Int)(insert:Bool)(auto:Bool):Option av :=
 au (jg s) λv=>
 aA (if (if (if (if (if (!v)=true then true else (decide (r'<1)))=true then true else (decide (1114111<r')))=true then true else (decide (w<1)))=true then true else (decide (2<w)))=true then true else (decide (s.fR.fW<w)))
  (some s)
  (chk (aU .i64 (s.fR.fW-1)) <|
   let last:=(s.fR.fW-1)
   aO (aA (if s.fC.dz=true then auto else false)
    (au (BQ s) λv5=>
     some (.go v5))
    (some (.go s))) λs1=>
   aO (aA (if (w==2)=true then (s1.fC.fX==last) else false)
    (aA auto
     (au (BQ s1) λv4=>
      some (.go v4))
     (chk (aU .i64 (s1.fC.fX-1)) <|
      some (.go (av.mk s1.fG (aD.mk (s1.fC.fX-1) s1.fC.fY s1.fC.dz s1.fC.bO s1.fC.bB s1.fC.aF) s1.fR s1.fT s1.fK s1.dH s1.bA))))
    (some (.go s1))) λs2=>
   chk (aU .i64 (s2.fC.fX+w)) <|
   aO (aA insert
    (au (j4 s2) λv2=>
     au (xK s2.fC.fX w s2.fR.fW v2) λv3=>
     chk (dY 8 1) <|
     some (.go ([v3]:List FV)))
    (some (.go ([]:List FV)))) λsteps=>
   chk (dY 8 ((ah steps)+1)) <|
   au (kQ s2 (steps++([(FV.bool (FV.box (FV.int (FV.int (FV.int (FV.nil 221) .i64 s2.fC.fX) .i64 r') .i64 w) 25 [(5,.int .i64 s2.fC.bB.jy),(6,.int .i64 s2.fC.bB.jq),(7,.int .i64 s2.fC.bB.dI),(23,.int .i64 s2.dH),(24,.bool s2.bA)]) (decide (last<(s2.fC.fX+w))))]:List FV))) λv1=>
   chk (aU .i64 (s2.fC.fX+w)) <|
   some (av.mk v1.fG (aD.mk (aP (s2.fC.fX+w) last) v1.fC.fY (if (decide (last<(s2.fC.fX+w)))=true then auto else false) v1.fC.bO v1.fC.bB v1.fC.aF) v1.fR v1.fT v1.fK v1.dH v1.bA))
def wZ(s:ay)(d':bL)(r':Int):Option ay :=
 au (eH s) λv=>
 au (Hf d' r') λv1=>
 aA (v1==0)
  (au (FH v r') λv2=>
   au (iY s v2) λv3=>
   some v3)
  (au (qV s.fM false 4) λv4=>
   au (qV s.fM true 7) λv5=>
   au (Dz v r' v1 v4 v5) λv6=>
   au (iY s v6) λv7=>
   some (ay.mk v7.aI v7.aM v7.jA v7.fM v7.aC v7.iL v7.fO (aY 0 (aP r' 1114111))))
def rP(l':(List (List Int)))(k':Int)(usual:Int):Option Int :=
 chk ((!(if (decide (k'<0))=true then true else (decide ((ah l')<=k'))))=true->0<=k'/\k'<(ah l')) <|
 chk ((!(if (if (decide (k'<0))=true then true else (decide ((ah l')<=k')))=true then true else ((ah (aB [] l' k'))==0)))=true->0<=k'/\k'<(ah l')) <|
 chk ((!(if (if (decide (k'<0))=true then true else (decide ((ah l')<=k')))=true then true else ((ah (aB [] l' k'))==0)))=true->(0:Int)<=0/\(0:Int)<(ah (aB [] l' k'))) <|
 aA (if (if (if (decide (k'<0))=true then true else (decide ((ah l')<=k')))=true then true else ((ah (aB [] l' k'))==0))=true then true else ((aB 0 (aB [] l' k') 0)==(-1)))
  (some usual)
  (chk (0<=k'/\k'<(ah l')) <|
   chk ((0:Int)<=0/\(0:Int)<(ah (aB [] l' k'))) <|
   some (aB 0 (aB [] l' k') 0))
def vZ(l':(List (List Int)))(k':Int)(usual:Int)(least:Int)(most:Int):Option Int :=
 au (rP l' k' usual) λv=>
 aA (v==0)
  (some (aY (aP usual most) least))
  (some (aY (aP v most) least))
def sU(a:aG):Option Int :=
 au (vZ a.cO 0 1 1 5000) λv=>
 some v
def rF(v:Int)(by':Int)(least:Int)(most:Int):Option Int :=
 au (jW by' (-4096) 4096) λv1=>
 chk (aU .i64 (v+v1)) <|
 au (jW (v+v1) least most) λv2=>
 some v2
def BO(c':aD)(r':bG)(dy:Int)(dx:Int):Option aD :=
 au (nI c' r') λv=>
 aA (!v)
  (some c')
  (let bottom:=r'.fH
   aO (au (LH r'.fH r'.fW) λv3=>
    aA (!((r'.fH==v3.fH)&&((r'.fW==v3.fW)&&((r'.gJ==v3.gJ)&&((r'.dw==v3.dw)&&true)))))
     (aA (decide (r'.gJ<=c'.fY))
      (let at6:=r'.gJ
       aA (decide (c'.fY<r'.dw))
        (let ase:=r'.dw
         some (.go (at6,ase)))
        (some (.go (at6,bottom))))
      (aA (decide (c'.fY<r'.dw))
       (let asf:=r'.dw
        some (.go (0,asf)))
       (some (.go (0,bottom)))))
     (some (.go (0,bottom)))) λ(top,aaz)=>
   chk (aU .i64 (aaz-1)) <|
   au (rF c'.fY dy top (aaz-1)) λv1=>
   chk (aU .i64 (r'.fW-1)) <|
   au (rF c'.fX dx 0 (r'.fW-1)) λv2=>
   some (aD.mk v2 v1 false c'.bO c'.bB c'.aF))
def uw(c':aD)(r':bG)(x':Int):Option aD :=
 au (nI c' r') λv=>
 aA (!v)
  (some c')
  (chk (aU .i64 (r'.fW-1)) <|
   au (jW x' 0 (r'.fW-1)) λv1=>
   some (aD.mk v1 c'.fY false c'.bO c'.bB c'.aF))
def zu(c':aD)(r':bG)(n:Int)(cap0:Int)(iI:Int)(cap2:Bool):Option aD :=
 chk (aU .i64 (cap0*n)) <|
 chk (aU .i64 (iI*n)) <|
 au (BO c' r' (cap0*n) (iI*n)) λv=>
 aA cap2
  (au (uw v r' 0) λv1=>
   some v1)
  (some v)
def sW(c':aD)(r':bG)(n:Int):Option aD :=
 chk (aU .i64 (n-1)) <|
 au (uw c' r' (n-1)) λv=>
 some v
def G6(c':aD)(r':bG)(y':Int)(x':Int):Option aD :=
 au (nI c' r') λv=>
 aA (!v)
  (some c')
  (aO (aA c'.bO
    (chk (aU .i64 (r'.dw-1)) <|
     au (rF r'.gJ y' r'.gJ (r'.dw-1)) λv2=>
     some (.go (aD.mk c'.fX v2 c'.dz c'.bO c'.bB c'.aF)))
    (chk (aU .i64 (r'.fH-1)) <|
     au (jW y' 0 (r'.fH-1)) λv3=>
     some (.go (aD.mk c'.fX v3 c'.dz c'.bO c'.bB c'.aF)))) λEW=>
   chk (aU .i64 (r'.fW-1)) <|
   au (jW x' 0 (r'.fW-1)) λv1=>
   some (aD.mk v1 EW.fY false EW.bO EW.bB EW.aF))
def sZ(c':aD)(r':bG)(n:Int):Option aD :=
 chk (aU .i64 (n-1)) <|
 au (G6 c' r' (n-1) c'.fX) λv=>
 some v
def adf(v:FV)(a0:aD)(a1:bG)(a2:Int):Option aD:=match v with
 | .bool (.int (.int (.nil 240) .i64 c0) .i64 c1) c2=>zu a0 a1 a2 c0 c1 c2
 | .nil 134=>sW a0 a1 a2
 | .nil 137=>sZ a0 a1 a2
 | _=>none
def xL(x':av)(n:Int)(cap0:FV):Option av :=
 au (adf cap0 x'.fC x'.fR n) λv=>
 some (av.mk x'.fG v x'.fR x'.fT x'.fK x'.dH x'.bA)
def uI(x':av)(u:Int):Option av :=
 au (BO x'.fC x'.fR 0 (-1)) λv=>
 some (av.mk x'.fG v x'.fR x'.fT x'.fK x'.dH x'.bA)
def FD(from':Int)(cap0:dJ):Option Int :=
 aO (bZ (λ(v:Int)=>
  aA (decide (v<(ah cap0.fL)))
   (chk (0<=v/\v<(ah cap0.fL)) <|
    let x':=(aB 0 cap0.fL v)
    aA (decide (from'<x'))
     (some (.out (.out x')))
     (chk (aU .i64 (v+1)) <|
      some (.go (v+1))))
   (some (.out (.go ())))) 0) λ(_:Unit)=>
 chk (aU .i64 (cap0.fW-1)) <|
 some (cap0.fW-1)
def MJ(s:dJ)(at':Int)(n:Int):Option Int :=
 au (vg s) λv=>
 aA (!v)
  (some 0)
  (chk (aU .i64 (s.fW-1)) <|
   let kg:=(aY 0 (aP at' (s.fW-1)))
   aO (bZ (λ((GK,i):Int×Int)=>
    chk ((decide (i<n))=true->aU .i64 (s.fW-1)) <|
    aA (if (decide (i<n))=true then (decide (GK<(s.fW-1))) else false)
     (au (FD GK s) λv1=>
      chk (aU .i64 (i+1)) <|
      let i1:=(i+1)
      some (.go (v1,i1)))
     (some (.out (.go GK)))) (kg,0)) λKC=>
   some KC)
def FE(from':Int)(cap0:dJ):Option Int :=
 aO (chk (aU .i64 ((ah cap0.fL)-1)) <|
  let i:=((ah cap0.fL)-1)
  bZ (λ(i1:Int)=>
   aA (decide (0<=i1))
    (chk (0<=i1/\i1<(ah cap0.fL)) <|
     aA (decide ((aB 0 cap0.fL i1)<from'))
      (chk (0<=i1/\i1<(ah cap0.fL)) <|
       some (.out (.out (aB 0 cap0.fL i1))))
      (chk (aU .i64 (i1-1)) <|
       let i2:=(i1-1)
       some (.go i2)))
    (some (.out (.go ())))) i) λ(_:Unit)=>
 some 0
def G8(s:dJ)(at':Int)(n:Int):Option Int :=
 au (vg s) λv=>
 aA (!v)
  (some 0)
  (chk (aU .i64 (s.fW-1)) <|
   let kg:=(aY 0 (aP at' (s.fW-1)))
   aO (bZ (λ((GK,i):Int×Int)=>
    aA (if (decide (i<n))=true then (decide (0<GK)) else false)
     (au (FE GK s) λv1=>
      chk (aU .i64 (i+1)) <|
      let i1:=(i+1)
      some (.go (v1,i1)))
     (some (.out (.go GK)))) (kg,0)) λKC=>
   some KC)
def Ag(s:av)(n:Int):Option av :=
 au (jg s) λv=>
 aA (!v)
  (some s)
  (aA (decide (0<=n))
   (au (MJ s.fT s.fC.fX n) λv1=>
    some (av.mk s.fG (aD.mk v1 s.fC.fY false s.fC.bO s.fC.bB s.fC.aF) s.fR s.fT s.fK s.dH s.bA))
   (aA (n==(-9223372036854775808))
    (au (G8 s.fT s.fC.fX 9223372036854775807) λv2=>
     some (av.mk s.fG (aD.mk v2 s.fC.fY false s.fC.bO s.fC.bB s.fC.aF) s.fR s.fT s.fK s.dH s.bA))
    (chk (aU .i64 (0-n)) <|
     au (G8 s.fT s.fC.fX (0-n)) λv3=>
     some (av.mk s.fG (aD.mk v3 s.fC.fY false s.fC.bO s.fC.bB s.fC.aF) s.fR s.fT s.fK s.dH s.bA))))
def uJ(x':av)(u:Int):Option av :=
 au (Ag x' 1) λv=>
 some v
def vI(x':av):Option av :=
 au (uw x'.fC x'.fR 0) λv=>
 some (av.mk x'.fG v x'.fR x'.fT x'.fK x'.dH x'.bA)
def uK(x':av)(u:Int):Option av :=
 au (vI x') λv=>
 some v
def yA(s:av):Option av :=
 au (jg s) λv=>
 aA (!v)
  (some s)
  (au (BP s) λv1=>
   some v1)
def Fv(x':av)(u:Int):Option av :=
 au (yA x') λv=>
 some v
def vM(x':av)(u:Int):Option av :=
 au (yA x') λv=>
 au (vI v) λv1=>
 some v1
def Dw(g':cZ)(top:Int)(bottom:Int)(n:Int)(p':bU):Option cZ :=
 au (Ed g' top bottom p') λv=>
 aA (!v)
  (some g')
  (chk (aU .i64 (bottom-top)) <|
   let n1:=(aY 0 (aP n (bottom-top)))
   au (vk g') λv1=>
   aO (chk (aU .i64 (bottom-top)) <|
    chk (aU .i64 ((bottom-top)-n1)) <|
    bZ (λ((v3,iE):Int×List aR)=>
     aA (decide (v3<((bottom-top)-n1)))
      (chk (aU .i64 (top+n1)) <|
       chk (aU .i64 ((top+n1)+v3)) <|
       chk (aU .i64 (top+v3)) <|
       chk (0<=(top+v3)/\(top+v3)<(ah g'.aK)) <|
       chk (0<=((top+n1)+v3)/\((top+n1)+v3)<(ah v1)) <|
       chk (aU .i64 (v3+1)) <|
       some (.go ((v3+1),(iM iE ((top+n1)+v3) (aB aH g'.aK (top+v3))))))
      (some (.out (.go iE)))) (0,v1)) λl'=>
   chk (aU .i64 (top+n1)) <|
   chk (0<=top/\top<=(top+n1)/\(top+n1)<=(ah v1)) <|
   chk ((0:Int)<=0/\(0:Int)<(ah g'.aK)) <|
   au (yx l' (0+top) ((top+n1)-top) (ah (aB aH g'.aK 0).aN) p') λv2=>
   chk (ah v2=ah l') <|
   some (cZ.mk v2))
def MK(s:av):Option av :=
 au (jg s) λv=>
 aA (!v)
  (some s)
  (aA (s.fC.fY==s.fR.gJ)
   (au (j4 (av.mk s.fG (aD.mk s.fC.fX s.fC.fY false s.fC.bO s.fC.bB s.fC.aF) s.fR s.fT s.fK s.dH s.bA)) λv1=>
    au (Dw s.fG s.fR.gJ s.fR.dw 1 v1) λv2=>
    some (av.mk v2 (aD.mk s.fC.fX s.fC.fY false s.fC.bO s.fC.bB s.fC.aF) s.fR s.fT s.fK s.dH s.bA))
   (chk (aU .i64 (s.fC.fY-1)) <|
    some (av.mk s.fG (aD.mk s.fC.fX (aY (s.fC.fY-1) 0) false s.fC.bO s.fC.bB s.fC.aF) s.fR s.fT s.fK s.dH s.bA)))
def Md(x':av)(u:Int):Option av :=
 au (MK x') λv=>
 some v
def sI(x':av)(n:Int):Option av :=
 chk (aU .i64 (0-n)) <|
 au (Ag x' (0-n)) λv=>
 some v
def wY(s:av)(n:Int):Option av :=
 au (jg s) λv=>
 aA (!v)
  (some s)
  (aA (decide (0<=n))
   (au (G9 s n) λv1=>
    some v1)
   (aO (aA (n==(-9223372036854775808))
     (chk (aU .i64 (0-s.fR.fH)) <|
      let n2:=(0-s.fR.fH)
      some (.go n2))
     (some (.go n))) λn1=>
    chk (aU .i64 (0-n1)) <|
    au (j4 s) λv2=>
    au (Dw s.fG s.fR.gJ s.fR.dw (0-n1) v2) λv3=>
    some (av.mk v3 s.fC s.fR s.fT s.fK s.dH s.bA)))
def sJ(x':av)(n:Int):Option av :=
 chk (aU .i64 (0-n)) <|
 au (wY x' (0-n)) λv=>
 some v
def PV(x':Int)(cap0:Int):Option Bool :=
 some (!(x'==cap0))
def Ws(x':Int)(cap0:Int):Option Bool :=
 some (decide (x'<cap0))
def Wu(x':Int)(cap0:Int):Option Bool :=
 some (decide (cap0<x'))
def Z9(v:FV)(a0:Int):Option Bool:=match v with
 | .int (.nil 319) .i64 c0=>Ws a0 c0
 | .int (.nil 320) .i64 c0=>Wu a0 c0
 | .int (.nil 329) .i64 c0=>PV a0 c0
 | _=>none
def yg(s:dJ)(keep:FV):Option (List Int) :=
 aO (bZ (λ((v,iE):Int×List Int)=>
  aA (decide (v<(ah s.fL)))
   (chk (0<=v/\v<(ah s.fL)) <|
    let x':=(aB 0 s.fL v)
    au (Z9 keep x') λv1=>
    aA v1
     (chk (dY 8 ((ah iE)+1)) <|
      chk (aU .i64 (v+1)) <|
      some (.go ((v+1),(iE++([x']:List Int)))))
     (chk (aU .i64 (v+1)) <|
      some (.go ((v+1),iE))))
   (some (.out (.go iE)))) (0,([]:List Int))) λl'=>
 some l'
def H7(s:dJ)(at':Int):Option dJ :=
 au (vg s) λv=>
 aA (!v)
  (au (Dk 80) λv1=>
   some v1)
  (au (yg s (FV.int (FV.nil 329) .i64 at')) λv2=>
   some (dJ.mk v2 s.fW))
def L6(s:dJ):Option dJ :=
 au (vg s) λv=>
 aA (!v)
  (au (Dk 80) λv1=>
   some v1)
  (some (dJ.mk ([]:List Int) s.fW))
def A8(x':av)(k':Int):Option av :=
 aA (k'==0)
  (au (H7 x'.fT x'.fC.fX) λv=>
   some (av.mk x'.fG x'.fC x'.fR v x'.fK x'.dH x'.bA))
  (aA (k'==3)
   (au (L6 x'.fT) λv1=>
    some (av.mk x'.fG x'.fC x'.fR v1 x'.fK x'.dH x'.bA))
   (some x'))
def uy(from':Int)(to:Int)(p':bU):Option FV :=
 some (FV.box (FV.int (FV.int (FV.nil 326) .i64 from') .i64 to) 3 [(0,.int .i64 p'.jy),(1,.int .i64 p'.jq),(2,.int .i64 p'.dI)])
def oZ(s:av)(kind:Int):Option av :=
 au (j4 s) λv=>
 aA (kind==0)
  (au (uy s.fC.fX s.fR.fW v) λv1=>
   au (vW false) λv2=>
   au (kQ s ([v1,v2]:List FV)) λv3=>
   some (av.mk v3.fG (aD.mk v3.fC.fX v3.fC.fY false v3.fC.bO v3.fC.bB v3.fC.aF) v3.fR v3.fT v3.fK v3.dH v3.bA))
  (aA (kind==1)
   (chk (aU .i64 (s.fC.fX+1)) <|
    au (uy 0 (s.fC.fX+1) v) λv4=>
    au (kQ s ([v4]:List FV)) λv5=>
    some (av.mk v5.fG (aD.mk v5.fC.fX v5.fC.fY false v5.fC.bO v5.fC.bB v5.fC.aF) v5.fR v5.fT v5.fK v5.dH v5.bA))
   (aA (kind==2)
    (au (uy 0 s.fR.fW v) λv6=>
     au (vW false) λv2=>
     au (kQ s ([v6,v2]:List FV)) λv7=>
     some (av.mk v7.fG (aD.mk v7.fC.fX v7.fC.fY false v7.fC.bO v7.fC.bB v7.fC.aF) v7.fR v7.fT v7.fK v7.dH v7.bA))
    (some s)))
def Ae(g':cZ)(from':Int)(to:Int)(p':bU):Option cZ :=
 au (BN g' p') λv=>
 aA (!v)
  (some g')
  (let h':=(ah g'.aK)
   let wz:=(aY 0 (aP from' h'))
   let to1:=(aY 0 (aP to h'))
   au (vk g') λv1=>
   chk (0<=wz/\wz<=(aY wz to1)/\(aY wz to1)<=(ah v1)) <|
   chk ((0:Int)<=0/\(0:Int)<(ah g'.aK)) <|
   au (yx v1 (0+wz) ((aY wz to1)-wz) (ah (aB aH g'.aK 0).aN) p') λv2=>
   chk (ah v2=ah v1) <|
   some (cZ.mk v2))
def vY(s:av)(kind:Int):Option av :=
 au (jg s) λv=>
 aA (!v)
  (some s)
  (au (j4 s) λv1=>
   aA (kind==0)
    (au (oZ s 0) λv2=>
     chk (aU .i64 (v2.fC.fY+1)) <|
     au (Ae v2.fG (v2.fC.fY+1) v2.fR.fH v1) λv3=>
     some (av.mk v3 (aD.mk v2.fC.fX v2.fC.fY false v2.fC.bO v2.fC.bB v2.fC.aF) v2.fR v2.fT v2.fK v2.dH v2.bA))
    (aA (kind==1)
     (au (oZ s 1) λv4=>
      au (Ae v4.fG 0 v4.fC.fY v1) λv5=>
      some (av.mk v5 (aD.mk v4.fC.fX v4.fC.fY false v4.fC.bO v4.fC.bB v4.fC.aF) v4.fR v4.fT v4.fK v4.dH v4.bA))
     (aA (kind==2)
      (au (Ae s.fG 0 s.fR.fH v1) λv6=>
       some (av.mk v6 (aD.mk s.fC.fX s.fC.fY false s.fC.bO s.fC.bB s.fC.aF) s.fR s.fT s.fK s.dH s.bA))
      (aA (kind==3)
       (au (yw s.fK.iw) λv7=>
        some (av.mk s.fG (aD.mk s.fC.fX s.fC.fY false s.fC.bO s.fC.bB s.fC.aF) s.fR s.fT v7 s.dH s.bA))
       (some s)))))
def vX(s:av)(kind:Int):Option av :=
 au (jg s) λv=>
 aA (!v)
  (some s)
  (au (oZ s kind) λv1=>
   some v1)
def G7(c':aD)(r':bG):Option Bool :=
 au (nI c' r') λv=>
 au (if v=true then wX c' r' else some false) λv1=>
 some (if v=true then v1 else false)
def uP(s:av)(n:Int):Option av :=
 au (jg s) λv=>
 au (if (!(!v))=true then G7 s.fC s.fR else some false) λv1=>
 aA (if (!v)=true then true else (!v1))
  (some s)
  (au (j4 s) λv2=>
   au (Dw s.fG s.fC.fY s.fR.dw (aY n 1) v2) λv3=>
   some (av.mk v3 (aD.mk 0 s.fC.fY false s.fC.bO s.fC.bB s.fC.aF) s.fR s.fT s.fK s.dH s.bA))
def uQ(s:av)(n:Int):Option av :=
 au (jg s) λv=>
 au (if (!(!v))=true then G7 s.fC s.fR else some false) λv1=>
 aA (if (!v)=true then true else (!v1))
  (some s)
  (au (j4 s) λv2=>
   au (OO s.fG s.fC.fY s.fR.dw (aY n 1) v2) λv3=>
   some (av.mk v3.1 (aD.mk 0 s.fC.fY false s.fC.bO s.fC.bB s.fC.aF) s.fR s.fT s.fK s.dH s.bA))
def sQ(s:av)(n:Int):Option av :=
 au (jg s) λv=>
 aA (!v)
  (some s)
  (au (j4 s) λv1=>
   au (xK s.fC.fX (aY n 1) s.fR.fW v1) λv2=>
   au (kQ s ([v2]:List FV)) λv3=>
   some (av.mk v3.fG (aD.mk v3.fC.fX v3.fC.fY false v3.fC.bO v3.fC.bB v3.fC.aF) v3.fR v3.fT v3.fK v3.dH v3.bA))
def sS(s:av)(n:Int):Option av :=
 au (jg s) λv=>
 aA (!v)
  (some s)
  (au (j4 s) λv1=>
   au (vW false) λv2=>
   au (kQ s ([(FV.box (FV.int (FV.int (FV.nil 249) .i64 s.fC.fX) .i64 n) 3 [(0,.int .i64 v1.jy),(1,.int .i64 v1.jq),(2,.int .i64 v1.dI)]),v2]:List FV)) λv3=>
   some (av.mk v3.fG (aD.mk v3.fC.fX v3.fC.fY false v3.fC.bO v3.fC.bB v3.fC.aF) v3.fR v3.fT v3.fK v3.dH v3.bA))
def uO(s:av)(n:Int):Option av :=
 au (jg s) λv=>
 aA (!v)
  (some s)
  (let n1:=(aY 1 (aP n s.fR.fW))
   chk (aU .i64 (s.fC.fX+n1)) <|
   au (j4 s) λv1=>
   au (uy s.fC.fX (s.fC.fX+n1) v1) λv2=>
   au (kQ s ([v2]:List FV)) λv3=>
   some (av.mk v3.fG (aD.mk v3.fC.fX v3.fC.fY false v3.fC.bO v3.fC.bB v3.fC.aF) v3.fR v3.fT v3.fK v3.dH v3.bA))
def Uu(v:FV)(a0:av)(a1:Int):Option av:=match v with
 | .fn (.nil 239) c0=>xL a0 a1 c0
 | .nil 114=>uI a0 a1
 | .nil 116=>uJ a0 a1
 | .nil 119=>uK a0 a1
 | .nil 122=>Fv a0 a1
 | .nil 123=>vM a0 a1
 | .nil 125=>Md a0 a1
 | .nil 140=>sI a0 a1
 | .nil 150=>sJ a0 a1
 | .nil 152=>A8 a0 a1
 | .nil 117=>Ag a0 a1
 | .nil 142=>vY a0 a1
 | .nil 143=>vX a0 a1
 | .nil 144=>uP a0 a1
 | .nil 145=>uQ a0 a1
 | .nil 146=>sQ a0 a1
 | .nil 147=>sS a0 a1
 | .nil 148=>uO a0 a1
 | .nil 149=>wY a0 a1
 | _=>none
def zq(s:ay)(u:bL)(a:aG)(cap0:FV):Option ay :=
 au (eH s) λv=>
 au (sU a) λv1=>
 au (Uu cap0 v v1) λv2=>
 au (iY s v2) λv3=>
 some v3
def iA(f':FV):Option FV :=
 some (FV.fn (FV.nil 223) f')
def Fh(s:ay)(u:bL)(u1:aG):Option ay :=
 au (eH s) λv=>
 au (yA v) λv1=>
 aO (au (qV s.fM false 20) λv3=>
  aA v3
   (au (vI v1) λv4=>
    some (.go v4))
   (some (.go v1))) λx'=>
 au (iY s x') λv2=>
 some v2
def Dy(s:bQ)(which:Int)(right:Bool):Option bQ :=
 au (qb s) λv=>
 aA (!v)
  (au (yH) λv1=>
   some v1)
  (au (mX which) λv2=>
   aA (!v2)
    (some s)
    (aA right
     (some (bQ.mk s.fG s.jF which s.eO))
     (some (bQ.mk s.fG which s.jk s.eO))))
def zX(c':bQ)(cap0:Int)(iI:Bool):Option bQ :=
 au (Dy c' cap0 iI) λv=>
 some v
def Bo(s:bQ)(which:Int):Option bQ :=
 au (qb s) λv=>
 aA (!v)
  (au (yH) λv1=>
   some v1)
  (au (tY which) λv2=>
   aA v2
    (some (bQ.mk s.fG s.jF s.jk which))
    (some s))
def yQ(c':bQ)(cap0:Int):Option bQ :=
 au (Bo c' cap0) λv=>
 some v
def acZ(v:FV)(a0:bQ):Option bQ:=match v with
 | .bool (.int (.nil 230) .i64 c0) c1=>zX a0 c0 c1
 | .int (.nil 234) .i64 c0=>yQ a0 c0
 | _=>none
def vH(s:ay)(u:bL)(u1:aG)(cap0:FV):Option ay :=
 au (eH s) λv=>
 au (acZ cap0 v.fC.aF) λv1=>
 au (iY s (av.mk v.fG (aD.mk v.fC.fX v.fC.fY v.fC.dz v.fC.bO v.fC.bB v1) v.fR v.fT v.fK v.dH v.bA)) λv2=>
 some v2
def y9(f':FV):Option FV :=
 some (FV.fn (FV.nil 317) f')
def kL(at':Int)(right:Bool):Option FV :=
 au (y9 (FV.bool (FV.int (FV.nil 230) .i64 at') right)) λv=>
 some v
def OY(s:dJ)(at':Int):Option dJ :=
 au (vg s) λv=>
 aA (!v)
  (au (Dk 80) λv1=>
   some v1)
  (aA (if (decide (at'<0))=true then true else (decide (s.fW<=at')))
   (some s)
   (au (yg s (FV.int (FV.nil 319) .i64 at')) λv2=>
    chk (dY 8 ((ah v2)+1)) <|
    au (yg s (FV.int (FV.nil 320) .i64 at')) λv3=>
    chk (dY 8 (((ah v2)+1)+(ah v3))) <|
    some (dJ.mk ((v2++([at']:List Int))++v3) s.fW)))
def Fj(s:ay)(u:bL)(u1:aG):Option ay :=
 au (eH s) λv=>
 au (OY v.fT v.fC.fX) λv1=>
 au (iY s (av.mk v.fG v.fC v.fR v1 v.fK v.dH v.bA)) λv2=>
 some v2
def mV(at':Int):Option FV :=
 au (y9 (FV.int (FV.nil 234) .i64 at')) λv=>
 some v
def tT  : Option (List aL) :=
 au (iA (FV.nil 114)) λv=>
 au (iA (FV.nil 116)) λv1=>
 au (iA (FV.nil 119)) λv2=>
 au (kL 1 false) λv3=>
 au (kL 0 false) λv4=>
 au (iA (FV.nil 122)) λv5=>
 au (iA (FV.nil 123)) λv6=>
 au (iA (FV.nil 125)) λv7=>
 au (mV 2) λv8=>
 au (mV 3) λv9=>
 some ([(aL.mk (⟨#[]⟩:ByteArray) 8 v),(aL.mk (⟨#[]⟩:ByteArray) 9 v1),(aL.mk (⟨#[]⟩:ByteArray) 10 (FV.nil 118)),(aL.mk (⟨#[]⟩:ByteArray) 11 (FV.nil 118)),(aL.mk (⟨#[]⟩:ByteArray) 12 (FV.nil 118)),(aL.mk (⟨#[]⟩:ByteArray) 13 v2),(aL.mk (⟨#[]⟩:ByteArray) 14 v3),(aL.mk (⟨#[]⟩:ByteArray) 15 v4),(aL.mk (⟨#[]⟩:ByteArray) 132 v5),(aL.mk (⟨#[]⟩:ByteArray) 133 v6),(aL.mk (⟨#[]⟩:ByteArray) 136 (FV.nil 124)),(aL.mk (⟨#[]⟩:ByteArray) 141 v7),(aL.mk (⟨#[]⟩:ByteArray) 142 v8),(aL.mk (⟨#[]⟩:ByteArray) 143 v9)]:List aL)
def Nn(s:ay)(u:bL)(u1:aG):Option ay :=
 some s
def oG(l':(List aL))(inter:ByteArray)(final:Int):Option FV :=
 aO (bZ (λ(v:Int)=>
  aA (decide (v<(ah l')))
   (chk (0<=v/\v<(ah l')) <|
    aA (if (ng (aB Bt l' v).adg inter)=true then ((aB Bt l' v).adh==final) else false)
     (some (.out (.out (aB Bt l' v).fdo)))
     (chk (aU .i64 (v+1)) <|
      some (.go (v+1))))
   (some (.out (.go ())))) 0) λ(_:Unit)=>
 some (FV.nil 112)
def strings_IndexByte(s:ByteArray)(c':Int):Option Int :=
 au (stringslite_IndexByte s c') λv=>
 some v
def FC(s:bQ)(which:Int)(final:Int):Option bQ :=
 au (qb s) λv=>
 aA (!v)
  (au (yH) λv1=>
   some v1)
  (au (mX which) λv2=>
   au (if v2=true then qU final else some false) λv3=>
   aA (if v2=true then v3 else false)
    (chk (0<=which/\which<(4:Int)) <|
     some (bQ.mk (mP.mk (if (which==0)=true then final else s.fG.x0) (if ((!(which==0))&&(which==1))=true then final else s.fG.x1) (if (((!(which==0))&&(!(which==1)))&&(which==2))=true then final else s.fG.x2) (if (((!(which==0))&&(!(which==1)))&&(!(which==2)))=true then final else s.fG.x3)) s.jF s.jk s.eO))
    (some s))
def vJ(s:ay)(at':Int)(final:Int):Option ay :=
 au (eH s) λv=>
 au (FC v.fC.aF at' final) λv1=>
 au (iY s (av.mk v.fG (aD.mk v.fC.fX v.fC.fY v.fC.dz v.fC.bO v.fC.bB v1) v.fR v.fT v.fK v.dH v.bA)) λv2=>
 some v2
def vL(s:ay):Option Int :=
 aA s.jA
  (some 1)
  (some 0)
def BR(s:ay)(u:bL)(u1:aG):Option ay :=
 au (vL s) λv=>
 au (eH s) λv1=>
 chk (0<=v/\v<(2:Int)) <|
 some (ay.mk s.aI s.aM s.jA s.fM (gQ.mk (aD.mk (if (v==0)=true then v1.fC.fX else s.aC.x0.fX) (if (v==0)=true then v1.fC.fY else s.aC.x0.fY) (if (v==0)=true then v1.fC.dz else s.aC.x0.dz) (if (v==0)=true then v1.fC.bO else s.aC.x0.bO) (bU.mk (if (v==0)=true then v1.fC.bB.jy else s.aC.x0.bB.jy) (if (v==0)=true then v1.fC.bB.jq else s.aC.x0.bB.jq) (if (v==0)=true then v1.fC.bB.dI else s.aC.x0.bB.dI)) (bQ.mk (mP.mk (if (v==0)=true then v1.fC.aF.fG.x0 else s.aC.x0.aF.fG.x0) (if (v==0)=true then v1.fC.aF.fG.x1 else s.aC.x0.aF.fG.x1) (if (v==0)=true then v1.fC.aF.fG.x2 else s.aC.x0.aF.fG.x2) (if (v==0)=true then v1.fC.aF.fG.x3 else s.aC.x0.aF.fG.x3)) (if (v==0)=true then v1.fC.aF.jF else s.aC.x0.aF.jF) (if (v==0)=true then v1.fC.aF.jk else s.aC.x0.aF.jk) (if (v==0)=true then v1.fC.aF.eO else s.aC.x0.aF.eO))) (aD.mk (if (!(v==0))=true then v1.fC.fX else s.aC.x1.fX) (if (!(v==0))=true then v1.fC.fY else s.aC.x1.fY) (if (!(v==0))=true then v1.fC.dz else s.aC.x1.dz) (if (!(v==0))=true then v1.fC.bO else s.aC.x1.bO) (bU.mk (if (!(v==0))=true then v1.fC.bB.jy else s.aC.x1.bB.jy) (if (!(v==0))=true then v1.fC.bB.jq else s.aC.x1.bB.jq) (if (!(v==0))=true then v1.fC.bB.dI else s.aC.x1.bB.dI)) (bQ.mk (mP.mk (if (!(v==0))=true then v1.fC.aF.fG.x0 else s.aC.x1.aF.fG.x0) (if (!(v==0))=true then v1.fC.aF.fG.x1 else s.aC.x1.aF.fG.x1) (if (!(v==0))=true then v1.fC.aF.fG.x2 else s.aC.x1.aF.fG.x2) (if (!(v==0))=true then v1.fC.aF.fG.x3 else s.aC.x1.aF.fG.x3)) (if (!(v==0))=true then v1.fC.aF.jF else s.aC.x1.aF.jF) (if (!(v==0))=true then v1.fC.aF.jk else s.aC.x1.aF.jk) (if (!(v==0))=true then v1.fC.aF.eO else s.aC.x1.aF.eO)))) s.iL s.fO s.fZ)
def rG(s:ay)(u:bL)(u1:aG):Option ay :=
 au (eH s) λv=>
 au (vL s) λv1=>
 chk (0<=v1/\v1<(2:Int)) <|
 aO (aA (if (decide ((if (v1==0)=true then s.aC.x0.fY else s.aC.x1.fY)<v.fR.gJ))=true then true else (decide (v.fR.dw<=(if (v1==0)=true then s.aC.x0.fY else s.aC.x1.fY))))
  (some (.go (av.mk v.fG (aD.mk (if (v1==0)=true then s.aC.x0.fX else s.aC.x1.fX) (if (v1==0)=true then s.aC.x0.fY else s.aC.x1.fY) (if (v1==0)=true then s.aC.x0.dz else s.aC.x1.dz) false (bU.mk (if (v1==0)=true then s.aC.x0.bB.jy else s.aC.x1.bB.jy) (if (v1==0)=true then s.aC.x0.bB.jq else s.aC.x1.bB.jq) (if (v1==0)=true then s.aC.x0.bB.dI else s.aC.x1.bB.dI)) (bQ.mk (mP.mk (if (v1==0)=true then s.aC.x0.aF.fG.x0 else s.aC.x1.aF.fG.x0) (if (v1==0)=true then s.aC.x0.aF.fG.x1 else s.aC.x1.aF.fG.x1) (if (v1==0)=true then s.aC.x0.aF.fG.x2 else s.aC.x1.aF.fG.x2) (if (v1==0)=true then s.aC.x0.aF.fG.x3 else s.aC.x1.aF.fG.x3)) (if (v1==0)=true then s.aC.x0.aF.jF else s.aC.x1.aF.jF) (if (v1==0)=true then s.aC.x0.aF.jk else s.aC.x1.aF.jk) (if (v1==0)=true then s.aC.x0.aF.eO else s.aC.x1.aF.eO))) v.fR v.fT v.fK v.dH v.bA)))
  (some (.go (av.mk v.fG (aD.mk (if (v1==0)=true then s.aC.x0.fX else s.aC.x1.fX) (if (v1==0)=true then s.aC.x0.fY else s.aC.x1.fY) (if (v1==0)=true then s.aC.x0.dz else s.aC.x1.dz) (if (v1==0)=true then s.aC.x0.bO else s.aC.x1.bO) (bU.mk (if (v1==0)=true then s.aC.x0.bB.jy else s.aC.x1.bB.jy) (if (v1==0)=true then s.aC.x0.bB.jq else s.aC.x1.bB.jq) (if (v1==0)=true then s.aC.x0.bB.dI else s.aC.x1.bB.dI)) (bQ.mk (mP.mk (if (v1==0)=true then s.aC.x0.aF.fG.x0 else s.aC.x1.aF.fG.x0) (if (v1==0)=true then s.aC.x0.aF.fG.x1 else s.aC.x1.aF.fG.x1) (if (v1==0)=true then s.aC.x0.aF.fG.x2 else s.aC.x1.aF.fG.x2) (if (v1==0)=true then s.aC.x0.aF.fG.x3 else s.aC.x1.aF.fG.x3)) (if (v1==0)=true then s.aC.x0.aF.jF else s.aC.x1.aF.jF) (if (v1==0)=true then s.aC.x0.aF.jk else s.aC.x1.aF.jk) (if (v1==0)=true then s.aC.x0.aF.eO else s.aC.x1.aF.eO))) v.fR v.fT v.fK v.dH v.bA)))) λx'=>
 au (iY s x') λv2=>
 some v2
def vK(s:ay)(u:bL)(u1:aG):Option ay :=
 au (p9 s.aI.fR.fH s.aI.fR.fW s.aI.fK.iw) λv=>
 some (ay.mk v.aI v.aM v.jA v.fM v.aC s.iL v.fO v.fZ)
def yj(x':av):Option av :=
 aA x'.fC.bO
  (some (av.mk x'.fG (aD.mk 0 x'.fR.gJ false x'.fC.bO x'.fC.bB x'.fC.aF) x'.fR x'.fT x'.fK x'.dH x'.bA))
  (some (av.mk x'.fG (aD.mk 0 0 false x'.fC.bO x'.fC.bB x'.fC.aF) x'.fR x'.fT x'.fK x'.dH x'.bA))
def Fq(s:ay)(u:bL)(u1:aG):Option ay :=
 au (eH s) λv=>
 chk (jD 48 (ah v.fG.aK) (ah v.fG.aK)) <|
 aO (bZ (λ((v4,adH):Int×List aR)=>
  aA (decide (v4<(ah v.fG.aK)))
   (aO (chk (0<=v4/\v4<(ah v.fG.aK)) <|
     chk (jD 56 (ah (aB aH v.fG.aK v4).aN) (ah (aB aH v.fG.aK v4).aN)) <|
     aO (bZ (λ((v5,o1):Int×List bY)=>
      aA (decide (v5<(ah (aB aH v.fG.aK v4).aN)))
       (chk (0<=v5/\v5<(ah (aB aH v.fG.aK v4).aN)) <|
        chk (aU .i64 (v5+1)) <|
        some (.go ((v5+1),(iM o1 v5 (bY.mk 69 jP 1 nu)))))
       (some (.out (.go o1)))) (0,(jX (ah (aB aH v.fG.aK v4).aN) bq))) λo=>
     chk (0<=v4/\v4<(ah v.fG.aK)) <|
     some (.go (iM adH v4 (aR.mk o false (aB aH v.fG.aK v4).dH (aB aH v.fG.aK v4).bA)))) λadI=>
    chk (aU .i64 (v4+1)) <|
    some (.go ((v4+1),adI)))
   (some (.out (.go adH)))) (0,(jX (ah v.fG.aK) aH))) λrows=>
 au (DN v.fR) λv1=>
 au (yj (av.mk (cZ.mk rows) (aD.mk v.fC.fX v.fC.fY v.fC.dz false v.fC.bB v.fC.aF) v1 v.fT v.fK v.dH v.bA)) λv2=>
 au (iY s v2) λv3=>
 some v3
def vv  : Option (List aL) :=
 au (iA (FV.nil 122)) λv=>
 au (iA (FV.nil 123)) λv1=>
 au (iA (FV.nil 125)) λv2=>
 au (kL 2 false) λv3=>
 au (kL 3 false) λv4=>
 au (kL 1 true) λv5=>
 au (kL 2 true) λv6=>
 au (kL 3 true) λv7=>
 au (mV 2) λv8=>
 au (mV 3) λv9=>
 some ([(aL.mk (⟨#[]⟩:ByteArray) 55 (FV.nil 129)),(aL.mk (⟨#[]⟩:ByteArray) 56 (FV.nil 130)),(aL.mk (⟨#[]⟩:ByteArray) 68 v),(aL.mk (⟨#[]⟩:ByteArray) 69 v1),(aL.mk (⟨#[]⟩:ByteArray) 77 v2),(aL.mk (⟨#[]⟩:ByteArray) 72 (FV.nil 124)),(aL.mk (⟨#[]⟩:ByteArray) 99 (FV.nil 131)),(aL.mk (⟨#[]⟩:ByteArray) 110 v3),(aL.mk (⟨#[]⟩:ByteArray) 111 v4),(aL.mk (⟨#[]⟩:ByteArray) 126 v5),(aL.mk (⟨#[]⟩:ByteArray) 125 v6),(aL.mk (⟨#[]⟩:ByteArray) 124 v7),(aL.mk (⟨#[]⟩:ByteArray) 78 v8),(aL.mk (⟨#[]⟩:ByteArray) 79 v9),(aL.mk (⟨#[35]⟩:ByteArray) 56 (FV.nil 132))]:List aL)
def qQ(f':FV):Option FV :=
 au (iA (FV.fn (FV.nil 239) f')) λv=>
 some v
def lH(dy:Int)(dx:Int)(begin:Bool):Option FV :=
 au (qQ (FV.bool (FV.int (FV.int (FV.nil 240) .i64 dy) .i64 dx) begin)) λv=>
 some v
def DC(s:ay)(u:bL)(a:aG):Option ay :=
 au (eH s) λv=>
 au (vZ a.cO 1 1 1 5000) λv1=>
 au (sU a) λv2=>
 chk (aU .i64 (v2-1)) <|
 chk (aU .i64 (v1-1)) <|
 au (G6 v.fC v.fR (v2-1) (v1-1)) λv3=>
 au (iY s (av.mk v.fG v3 v.fR v.fT v.fK v.dH v.bA)) λv4=>
 some v4
def oF(a:aG):Option Int :=
 au (rP a.cO 0 0) λv=>
 some v
def uR(s:ay)(u:bL)(a:aG)(cap0:FV):Option ay :=
 au (eH s) λv=>
 au (oF a) λv1=>
 au (Uu cap0 v v1) λv2=>
 au (iY s v2) λv3=>
 some v3
def mW(f':FV):Option FV :=
 some (FV.fn (FV.nil 242) f')
def Ba(s:ay)(d':bL)(a:aG):Option ay :=
 aA (s.fZ==0)
  (some s)
  (au (eH s) λv=>
   let last:=s.fZ
   aO (au (sU a) λv1=>
    chk (aU .i64 (v.fR.fH*v.fR.fW)) <|
    bZ (λ((v2,s2):Int×ay)=>
     aA (decide (v2<(aP v1 (v.fR.fH*v.fR.fW))))
      (au (wZ s2 d' last) λv3=>
       chk (aU .i64 (v2+1)) <|
       some (.go ((v2+1),v3)))
      (some (.out (.go s2)))) (0,s)) λs1=>
   some s1)
def Um(p':bU)(q:(List Int)):Option bU :=
 chk ((0:Int)<=0/\(0:Int)<(ah q)) <|
 let n:=(aB 0 q 0)
 aO (aA (if (n==0)=true then true else (n==(-1)))
  (some (.out nu))
  (chk ((if (n==4)=true then (decide (1<(ah q))) else false)=true->(0:Int)<=1/\(1:Int)<(ah q)) <|
   aA (if (if (n==4)=true then (decide (1<(ah q))) else false)=true then ((aB 0 q 1)==0) else false)
    (some (.go (p'.jy,p'.jq,(uH .i64 p'.dI 264))))
    (chk (((!(n==21))&&((!(n==21))&&(if (n==4)=true then (decide (1<(ah q))) else false)))=true->(0:Int)<=1/\(1:Int)<(ah q)) <|
     aA (if (n==21)=true then true else (if (if (n==4)=true then (decide (1<(ah q))) else false)=true then ((aB 0 q 1)==2) else false))
      (some (.go (p'.jy,p'.jq,(oW .i64 (uH .i64 p'.dI 8) 256))))
      (aA (n==4)
       (some (.go (p'.jy,p'.jq,(oW .i64 (uH .i64 p'.dI 256) 8))))
       (aA (if (decide (1<=n))=true then (decide (n<=9)) else false)
        (chk (0<=n/\n<(10:Int)) <|
         some (.go (p'.jy,p'.jq,(oW .i64 p'.dI (xA 8 n)))))
        (aA (if (decide (22<=n))=true then (decide (n<=29)) else false)
         (chk (aU .i64 (n-22)) <|
          chk (0<=(n-22)/\(n-22)<(8:Int)) <|
          some (.go (p'.jy,p'.jq,(uH .i64 p'.dI (xA 9 (n-22))))))
         (aA (if (decide (30<=n))=true then (decide (n<=37)) else false)
          (chk (aU .i64 (n-30)) <|
           chk (aU .i64 ((n-30)+1)) <|
           some (.go (((n-30)+1),p'.jq,p'.dI)))
          (aA (n==39)
           (some (.go (0,p'.jq,p'.dI)))
           (aA (if (decide (40<=n))=true then (decide (n<=47)) else false)
            (chk (aU .i64 (n-40)) <|
             chk (aU .i64 ((n-40)+1)) <|
             some (.go (p'.jy,((n-40)+1),p'.dI)))
            (aA (n==49)
             (some (.go (p'.jy,0,p'.dI)))
             (aA (if (decide (90<=n))=true then (decide (n<=97)) else false)
              (chk (aU .i64 (n-90)) <|
               chk (aU .i64 ((n-90)+8)) <|
               chk (aU .i64 (((n-90)+8)+1)) <|
               some (.go ((((n-90)+8)+1),p'.jq,p'.dI)))
              (aA (if (decide (100<=n))=true then (decide (n<=107)) else false)
               (chk (aU .i64 (n-100)) <|
                chk (aU .i64 ((n-100)+8)) <|
                chk (aU .i64 (((n-100)+8)+1)) <|
                some (.go (p'.jy,(((n-100)+8)+1),p'.dI)))
               (some (.go (p'.jy,p'.jq,p'.dI))))))))))))))) λ(ab7,ab8,ab9)=>
 some (bU.mk ab7 ab8 ab9)
def L9(l':(List Int)):Option (List Int) :=
 chk ((0:Int)<=0/\(0:Int)<(ah l')) <|
 aA (if (!((aB 0 l' 0)==2))=true then true else (decide ((ah l')<5)))
  (some l')
  (chk ((0:Int)<=2/\(2:Int)<(ah l')) <|
   chk ((0:Int)<=3/\(3:Int)<(ah l')) <|
   chk ((0:Int)<=4/\(4:Int)<(ah l')) <|
   some ([2,(aB 0 l' 2),(aB 0 l' 3),(aB 0 l' 4)]:List Int))
def xB(n:Int):Option Bool :=
 some (if (decide (0<=n))=true then (decide (n<=255)) else false)
def BL(n:Int):Option Int :=
 some (aY 0 (aP n 255))
def Un(r':Int)(g':Int)(b:Int):Option Int :=
 au (BL r') λv=>
 chk ((0:Int)<=16) <|
 chk (aU .i64 (16777216+(zh .i64 v 16))) <|
 au (BL g') λv1=>
 chk ((0:Int)<=8) <|
 chk (aU .i64 ((16777216+(zh .i64 v 16))+(zh .i64 v1 8))) <|
 au (BL b) λv2=>
 chk (aU .i64 (((16777216+(zh .i64 v 16))+(zh .i64 v1 8))+v2)) <|
 some (((16777216+(zh .i64 v 16))+(zh .i64 v1 8))+v2)
def D7(l':(List Int)):Option (Int×Int) :=
 chk ((decide (2<=(ah l')))=true->(0:Int)<=0/\(0:Int)<(ah l')) <|
 chk ((if (decide (2<=(ah l')))=true then ((aB 0 l' 0)==5) else false)=true->(0:Int)<=1/\(1:Int)<(ah l')) <|
 au (if (if (decide (2<=(ah l')))=true then ((aB 0 l' 0)==5) else false)=true then xB (aB 0 l' 1) else some false) λv=>
 aA (if (if (decide (2<=(ah l')))=true then ((aB 0 l' 0)==5) else false)=true then v else false)
  (chk ((0:Int)<=1/\(1:Int)<(ah l')) <|
   chk (aU .i64 ((aB 0 l' 1)+1)) <|
   some (((aB 0 l' 1)+1),2))
  (chk ((decide (4<=(ah l')))=true->(0:Int)<=0/\(0:Int)<(ah l')) <|
   chk ((if (decide (4<=(ah l')))=true then ((aB 0 l' 0)==2) else false)=true->(0:Int)<=1/\(1:Int)<(ah l')) <|
   au (if (if (decide (4<=(ah l')))=true then ((aB 0 l' 0)==2) else false)=true then xB (aB 0 l' 1) else some false) λv1=>
   chk ((if (if (decide (4<=(ah l')))=true then ((aB 0 l' 0)==2) else false)=true then v1 else false)=true->(0:Int)<=2/\(2:Int)<(ah l')) <|
   au (if (if (if (decide (4<=(ah l')))=true then ((aB 0 l' 0)==2) else false)=true then v1 else false)=true then xB (aB 0 l' 2) else some false) λv2=>
   chk ((if (if (if (decide (4<=(ah l')))=true then ((aB 0 l' 0)==2) else false)=true then v1 else false)=true then v2 else false)=true->(0:Int)<=3/\(3:Int)<(ah l')) <|
   au (if (if (if (if (decide (4<=(ah l')))=true then ((aB 0 l' 0)==2) else false)=true then v1 else false)=true then v2 else false)=true then xB (aB 0 l' 3) else some false) λv3=>
   aA (if (if (if (if (decide (4<=(ah l')))=true then ((aB 0 l' 0)==2) else false)=true then v1 else false)=true then v2 else false)=true then v3 else false)
    (chk ((0:Int)<=1/\(1:Int)<(ah l')) <|
     chk ((0:Int)<=2/\(2:Int)<(ah l')) <|
     chk ((0:Int)<=3/\(3:Int)<(ah l')) <|
     au (Un (aB 0 l' 1) (aB 0 l' 2) (aB 0 l' 3)) λv4=>
     some (v4,4))
    (some (0,0)))
def H8(l':(List (List Int))):Option (List Int) :=
 aO (chk ((0:Int)<=0/\(0:Int)<=(aP (ah l') 4)/\(aP (ah l') 4)<=(ah l')) <|
  bZ (λ((v,EB):Int×List Int)=>
   aA (decide (v<((aP (ah l') 4)-0)))
    (chk (0<=v/\v<(ah (kU l' 0 (aP (ah l') 4)))) <|
     aA (decide (0<(ah (aB [] (kU l' 0 (aP (ah l') 4)) v))))
      (chk ((0:Int)<=0/\(0:Int)<(ah (aB [] (kU l' 0 (aP (ah l') 4)) v))) <|
       let n:=(aB 0 (aB [] (kU l' 0 (aP (ah l') 4)) v) 0)
       chk (dY 8 ((ah EB)+1)) <|
       chk (aU .i64 (v+1)) <|
       some (.go ((v+1),(EB++([n]:List Int)))))
      (chk (dY 8 ((ah EB)+1)) <|
       chk (aU .i64 (v+1)) <|
       some (.go ((v+1),(EB++([(-1)]:List Int))))))
    (some (.out (.go EB)))) (0,([]:List Int))) λfirsts=>
 some firsts
def Mc(p':bU)(l':(List (List Int))):Option bU :=
 au (Ad p') λv=>
 aA (if (!v)=true then true else ((ah l')==0))
  (some nu)
  (aO (bZ (λ((i,I6,I7,EC):Int×Int×Int×Int)=>
    aA (decide (i<(ah l')))
     (aO (chk (0<=i/\i<(ah l')) <|
       aA ((ah (aB [] l' i))==0)
        (some (.go (i,I6,I7,EC)))
        (chk ((0:Int)<=0/\(0:Int)<(ah (aB [] l' i))) <|
         chk ((!((aB 0 (aB [] l' i) 0)==38))=true->(0:Int)<=0/\(0:Int)<(ah (aB [] l' i))) <|
         aA (if (!((aB 0 (aB [] l' i) 0)==38))=true then (!((aB 0 (aB [] l' i) 0)==48)) else false)
          (au (Um (bU.mk I6 I7 EC) (aB [] l' i)) λv1=>
           some (.go (i,v1.jy,v1.jq,v1.dI)))
          (let own:=(decide (1<(ah (aB [] l' i))))
           aA own
            (chk ((0:Int)<=1/\(1:Int)<=(ah (aB [] l' i))/\(ah (aB [] l' i))<=(ah (aB [] l' i))) <|
             au (L9 (kU (aB [] l' i) 1 (ah (aB [] l' i)))) λv2=>
             au (D7 v2) λv3=>
             let c':=v3.1
             aA (if (c'==0)=true then (!own) else false)
              (some (.out (.out (.out (bU.mk I6 I7 EC)))))
              (aA (c'==0)
               (chk (aU .i64 (i+0)) <|
                let i3:=(i+0)
                some (.go (i3,I6,I7,EC)))
               (chk ((0:Int)<=0/\(0:Int)<(ah (aB [] l' i))) <|
                aA ((aB 0 (aB [] l' i) 0)==38)
                 (chk (aU .i64 (i+0)) <|
                  let i4:=(i+0)
                  some (.go (i4,c',I7,EC)))
                 (chk (aU .i64 (i+0)) <|
                  let i5:=(i+0)
                  some (.go (i5,I6,c',EC))))))
            (chk (aU .i64 (i+1)) <|
             chk (0<=(i+1)/\(i+1)<=(ah l')/\(ah l')<=(ah l')) <|
             au (H8 (kU l' (i+1) (ah l'))) λv4=>
             au (D7 v4) λv5=>
             let EW:=v5.1;let taken:=v5.2
             aA (if (EW==0)=true then (!own) else false)
              (some (.out (.out (.out (bU.mk I6 I7 EC)))))
              (aA (EW==0)
               (chk (aU .i64 (i+taken)) <|
                let i6:=(i+taken)
                some (.go (i6,I6,I7,EC)))
               (chk ((0:Int)<=0/\(0:Int)<(ah (aB [] l' i))) <|
                aA ((aB 0 (aB [] l' i) 0)==38)
                 (chk (aU .i64 (i+taken)) <|
                  let i7:=(i+taken)
                  some (.go (i7,EW,I7,EC)))
                 (chk (aU .i64 (i+taken)) <|
                  let i8:=(i+taken)
                  some (.go (i8,I6,EW,EC))))))))) λ(i1,alZ,al0,al1)=>
      chk (aU .i64 (i1+1)) <|
      let i2:=(i1+1)
      some (.go (i2,alZ,al0,al1)))
     (some (.out (.go (I6,I7,EC))))) (0,p'.jy,p'.jq,p'.dI)) λ(ab7,ab8,ab9)=>
   some (bU.mk ab7 ab8 ab9))
def Fp(s:ay)(u:bL)(a:aG):Option ay :=
 au (eH s) λv=>
 au (Mc v.fC.bB a.cO) λv1=>
 au (iY s (av.mk v.fG (aD.mk v.fC.fX v.fC.fY v.fC.dz v.fC.bO v1 v.fC.aF) v.fR v.fT v.fK v.dH v.bA)) λv2=>
 some v2
def D6(r':bG)(top:Int)(bottom:Int):Option bG :=
 chk ((!(if (if (decide (top<0))=true then true else (decide (r'.fH<bottom)))=true then true else (decide (bottom<2))))=true->aU .i64 (bottom-2)) <|
 aA (if (if (if (decide (top<0))=true then true else (decide (r'.fH<bottom)))=true then true else (decide (bottom<2)))=true then true else (decide ((bottom-2)<top)))
  (some r')
  (some (bG.mk r'.fH r'.fW top bottom))
def ze(s:ay)(u:bL)(a:aG):Option ay :=
 au (eH s) λv=>
 au (sU a) λv1=>
 chk (aU .i64 (v1-1)) <|
 let top:=(v1-1)
 au (vZ a.cO 1 v.fR.fH 1 v.fR.fH) λv2=>
 au (D6 v.fR top v2) λv3=>
 aA (if (!(v3.gJ==top))=true then true else (!(v3.dw==v2)))
  (some s)
  (au (yj (av.mk v.fG v.fC v3 v.fT v.fK v.dH v.bA)) λv4=>
   au (iY s v4) λv5=>
   some v5)
def He(m:eG)(dU:Bool)(n:Int)(on:Bool):Option eG :=
 au (rT m) λv=>
 aA (!v)
  (au (zR) λv1=>
   some v1)
  (au (yB dU n) λv2=>
   aA (decide (v2<0))
    (some m)
    (chk ((0:Int)<=v2) <|
     let bit:=(zh .i64 1 v2)
     aA (!on)
      (some (eG.mk (uH .i64 m.qh bit)))
      (let bits:=m.qh
       aA (!((jm .i64 bit 28800)==0))
        (let aqL:=(uH .i64 bits 28800)
         aA (!((jm .i64 bit 196608)==0))
          (let aww:=(uH .i64 aqL 196608)
           some (eG.mk (oW .i64 aww bit)))
          (some (eG.mk (oW .i64 aqL bit))))
        (aA (!((jm .i64 bit 196608)==0))
         (let awx:=(uH .i64 bits 196608)
          some (eG.mk (oW .i64 awx bit)))
         (some (eG.mk (oW .i64 bits bit)))))))
def sD(s:ay)(u:bL)(a:aG)(cap0:Bool):Option ay :=
 aO (bZ (λ((v1,s2):Int×ay)=>
  aA (decide (v1<(ah a.cO)))
   (au (rP a.cO v1 0) λv2=>
    au (He s2.fM false v2 cap0) λv3=>
    chk (aU .i64 (v1+1)) <|
    some (.go ((v1+1),(ay.mk s2.aI s2.aM s2.jA v3 s2.aC s2.iL s2.fO s2.fZ))))
   (some (.out (.go s2)))) (0,s)) λs1=>
 au (kN s1) λv=>
 some v
def vN(on:Bool):Option FV :=
 some (FV.bool (FV.nil 258) on)
def oM(s:ay)(t':ByteArray):Option ay :=
 aO (chk (aU .i64 ((ah s.iL)+(bn t'))) <|
  aA (decide (4096<((ah s.iL)+(bn t'))))
   (some (.out s))
   (chk (aU .i64 ((ah s.iL)+(bn t'))) <|
    chk (jD 1 0 ((ah s.iL)+(bn t'))) <|
    chk (dY 1 (0+(ah s.iL))) <|
    some (.go ((jX 0 0)++s.iL)))) λout=>
 chk (dY 1 ((ah out)+(bn t'))) <|
 some (ay.mk s.aI s.aM s.jA s.fM s.aC (out++(Dj t')) s.fO s.fZ)
def Bc(c':aD)(r':bG):Option (Int×Int) :=
 au (nI c' r') λv=>
 aA (!v)
  (some (0,0))
  (let y':=c'.fY
   aA c'.bO
    (chk (aU .i64 (y'-r'.gJ)) <|
     let y'1:=(y'-r'.gJ)
     chk (aU .i64 (y'1+1)) <|
     chk (aU .i64 (c'.fX+1)) <|
     some ((y'1+1),(c'.fX+1)))
    (chk (aU .i64 (y'+1)) <|
     chk (aU .i64 (c'.fX+1)) <|
     some ((y'+1),(c'.fX+1))))
def strconv_Itoa(i:Int):Option ByteArray:=if 0<=i/\i<10 then some ⟨#[UInt8.ofNat (48+i.toNat)]⟩ else chk (aU .i64 i) <| some ⟨(Go.Lib.itoa i).toArray⟩
def zk(s:ay):Option ByteArray :=
 au (eH s) λv=>
 au (Bc v.fC v.fR) λv1=>
 let y':=v1.1;let at':=v1.2
 au (strconv_Itoa y') λv2=>
 chk (aU .i64 (bn v2+bn (⟨#[59]⟩:ByteArray))) <|
 au (strconv_Itoa at') λv3=>
 chk (aU .i64 (bn (lY v2 (⟨#[59]⟩:ByteArray))+bn v3)) <|
 chk (aU .i64 (bn (lY (lY v2 (⟨#[59]⟩:ByteArray)) v3)+bn (⟨#[82]⟩:ByteArray))) <|
 some (lY (lY (lY v2 (⟨#[59]⟩:ByteArray)) v3) (⟨#[82]⟩:ByteArray))
def Bd(s:ay)(u:bL)(a:aG):Option ay :=
 au (oF a) λv=>
 aA (v==5)
  (au (oM s (⟨#[27,91,48,110]⟩:ByteArray)) λv1=>
   some v1)
  (aA (v==6)
   (au (zk s) λv2=>
    chk (aU .i64 (bn (⟨#[27,91]⟩:ByteArray)+bn v2)) <|
    au (oM s (lY (⟨#[27,91]⟩:ByteArray) v2)) λv3=>
    some v3)
   (some s))
def DR(a0:ay):Option ByteArray :=
 some (⟨#[27,91,63,54,50,59,50,50,99]⟩:ByteArray)
def xD(s:ay):Option ByteArray :=
 au (zk s) λv=>
 chk (aU .i64 (bn (⟨#[27,91,63]⟩:ByteArray)+bn v)) <|
 some (lY (⟨#[27,91,63]⟩:ByteArray) v)
def I8(a0:ay):Option ByteArray :=
 some (⟨#[27,91,62,49,59,49,48,59,48,99]⟩:ByteArray)
def aaf(v:FV)(a0:ay):Option ByteArray:=match v with
 | .nil 158=>DR a0
 | .nil 160=>xD a0
 | .nil 163=>I8 a0
 | _=>none
def xC(s:ay)(u:bL)(a:aG)(cap0:Int)(iI:FV):Option ay :=
 au (oF a) λv=>
 aA (!(v==cap0))
  (some s)
  (au (aaf iI s) λv1=>
   au (oM s v1) λv2=>
   some v2)
def wV(k':Int)(text:FV):Option FV :=
 some (FV.fn (FV.int (FV.nil 262) .i64 k') text)
def vQ  : Option (List aL) :=
 au (qQ (FV.nil 134)) λv=>
 au (lH (-1) 0 false) λv1=>
 au (lH 1 0 false) λv2=>
 au (lH 0 1 false) λv3=>
 au (lH 0 (-1) false) λv4=>
 au (lH 0 1 false) λv3=>
 au (lH 1 0 false) λv2=>
 au (lH 1 0 true) λv5=>
 au (lH (-1) 0 true) λv6=>
 au (qQ (FV.nil 137)) λv7=>
 au (iA (FV.nil 117)) λv8=>
 au (iA (FV.nil 140)) λv9=>
 au (mW (FV.nil 142)) λv10=>
 au (mW (FV.nil 143)) λv11=>
 au (iA (FV.nil 144)) λv12=>
 au (iA (FV.nil 145)) λv13=>
 au (iA (FV.nil 146)) λv14=>
 au (iA (FV.nil 147)) λv15=>
 au (iA (FV.nil 148)) λv16=>
 au (iA (FV.nil 149)) λv17=>
 au (iA (FV.nil 150)) λv18=>
 au (mW (FV.nil 152)) λv19=>
 au (vN true) λv20=>
 au (vN false) λv21=>
 au (wV 0 (FV.nil 158)) λv22=>
 some ([(aL.mk (⟨#[]⟩:ByteArray) 65 v1),(aL.mk (⟨#[]⟩:ByteArray) 66 v2),(aL.mk (⟨#[]⟩:ByteArray) 67 v3),(aL.mk (⟨#[]⟩:ByteArray) 68 v4),(aL.mk (⟨#[]⟩:ByteArray) 97 v3),(aL.mk (⟨#[]⟩:ByteArray) 101 v2),(aL.mk (⟨#[]⟩:ByteArray) 69 v5),(aL.mk (⟨#[]⟩:ByteArray) 70 v6),(aL.mk (⟨#[]⟩:ByteArray) 71 v),(aL.mk (⟨#[]⟩:ByteArray) 96 v),(aL.mk (⟨#[]⟩:ByteArray) 100 v7),(aL.mk (⟨#[]⟩:ByteArray) 72 (FV.nil 139)),(aL.mk (⟨#[]⟩:ByteArray) 102 (FV.nil 139)),(aL.mk (⟨#[]⟩:ByteArray) 73 v8),(aL.mk (⟨#[]⟩:ByteArray) 90 v9),(aL.mk (⟨#[]⟩:ByteArray) 74 v10),(aL.mk (⟨#[]⟩:ByteArray) 75 v11),(aL.mk (⟨#[]⟩:ByteArray) 76 v12),(aL.mk (⟨#[]⟩:ByteArray) 77 v13),(aL.mk (⟨#[]⟩:ByteArray) 64 v14),(aL.mk (⟨#[]⟩:ByteArray) 80 v15),(aL.mk (⟨#[]⟩:ByteArray) 88 v16),(aL.mk (⟨#[]⟩:ByteArray) 83 v17),(aL.mk (⟨#[]⟩:ByteArray) 84 v18),(aL.mk (⟨#[]⟩:ByteArray) 98 (FV.nil 151)),(aL.mk (⟨#[]⟩:ByteArray) 103 v19),(aL.mk (⟨#[]⟩:ByteArray) 109 (FV.nil 153)),(aL.mk (⟨#[]⟩:ByteArray) 114 (FV.nil 154)),(aL.mk (⟨#[]⟩:ByteArray) 115 (FV.nil 129)),(aL.mk (⟨#[]⟩:ByteArray) 117 (FV.nil 130)),(aL.mk (⟨#[]⟩:ByteArray) 104 v20),(aL.mk (⟨#[]⟩:ByteArray) 108 v21),(aL.mk (⟨#[]⟩:ByteArray) 110 (FV.nil 156)),(aL.mk (⟨#[]⟩:ByteArray) 99 v22)]:List aL)
def zf(s:ay)(d':bL)(a:aG)(n:Int)(on:Bool):Option ay :=
 aA (n==6)
  (au (eH s) λv=>
   au (yj (av.mk v.fG (aD.mk v.fC.fX v.fC.fY v.fC.dz on v.fC.bB v.fC.aF) v.fR v.fT v.fK v.dH v.bA)) λv1=>
   au (iY s v1) λv2=>
   some v2)
  (aA (n==47)
   (some (ay.mk s.aI s.aM on s.fM s.aC s.iL s.fO s.fZ))
   (aA (n==1047)
    (aA (if s.jA=true then (!on) else false)
     (au (vY s.aM 2) λv3=>
      some (ay.mk s.aI v3 on s.fM s.aC s.iL s.fO s.fZ))
     (some (ay.mk s.aI s.aM on s.fM s.aC s.iL s.fO s.fZ)))
    (aA (n==1048)
     (aA on
      (au (BR s d' a) λv4=>
       some v4)
      (au (rG s d' a) λv5=>
       some v5))
     (aA (n==1049)
      (aA (!on)
       (au (rG (ay.mk s.aI s.aM false s.fM s.aC s.iL s.fO s.fZ) d' a) λv6=>
        some v6)
       (au (BR s d' a) λv4=>
        au (vY v4.aM 2) λv7=>
        some (ay.mk v4.aI v7 true v4.fM v4.aC v4.iL v4.fO v4.fZ)))
      (some s)))))
def sG(s:ay)(d':bL)(a:aG)(cap0:Bool):Option ay :=
 aO (bZ (λ((v1,s2):Int×ay)=>
  aA (decide (v1<(ah a.cO)))
   (au (rP a.cO v1 0) λv2=>
    au (He s2.fM true v2 cap0) λv3=>
    au (zf (ay.mk s2.aI s2.aM s2.jA v3 s2.aC s2.iL s2.fO s2.fZ) d' a v2 cap0) λv4=>
    chk (aU .i64 (v1+1)) <|
    some (.go ((v1+1),v4)))
   (some (.out (.go s2)))) (0,s)) λs1=>
 au (kN s1) λv=>
 some v
def vO(on:Bool):Option FV :=
 some (FV.bool (FV.nil 263) on)
def Dm(m:eG)(dU:Bool)(n:Int):Option Int :=
 au (rT m) λv=>
 au (if (!(!v))=true then yB dU n else some 0) λv1=>
 aA (if (!v)=true then true else (decide (v1<0)))
  (some 0)
  (au (qV m dU n) λv2=>
   aA v2
    (some 1)
    (some 2))
def sH(s:ay)(u:bL)(a:aG)(cap0:Bool)(iI:ByteArray):Option ay :=
 au (oF a) λv=>
 au (Dm s.fM cap0 v) λv1=>
 au (strconv_Itoa v1) λv2=>
 chk (aU .i64 (bn (⟨#[27,91]⟩:ByteArray)+bn iI)) <|
 au (strconv_Itoa v) λv3=>
 chk (aU .i64 (bn (lY (⟨#[27,91]⟩:ByteArray) iI)+bn v3)) <|
 chk (aU .i64 (bn (lY (lY (⟨#[27,91]⟩:ByteArray) iI) v3)+bn (⟨#[59]⟩:ByteArray))) <|
 chk (aU .i64 (bn (lY (lY (lY (⟨#[27,91]⟩:ByteArray) iI) v3) (⟨#[59]⟩:ByteArray))+bn v2)) <|
 chk (aU .i64 (bn (lY (lY (lY (lY (⟨#[27,91]⟩:ByteArray) iI) v3) (⟨#[59]⟩:ByteArray)) v2)+bn (⟨#[36,121]⟩:ByteArray))) <|
 au (oM s (lY (lY (lY (lY (lY (⟨#[27,91]⟩:ByteArray) iI) v3) (⟨#[59]⟩:ByteArray)) v2) (⟨#[36,121]⟩:ByteArray))) λv4=>
 some v4
def vP(dU:Bool)(mark:ByteArray):Option FV :=
 some (FV.str (FV.bool (FV.nil 266) dU) mark)
def Bf(s:ay)(u:bL)(u1:aG):Option ay :=
 au (eH s) λv=>
 au (zY v.fR.fH v.fR.fW) λv1=>
 au (zR) λv2=>
 au (vL (ay.mk s.aI s.aM s.jA v2 s.aC s.iL s.fO s.fZ)) λv3=>
 chk (0<=v3/\v3<(2:Int)) <|
 au (iY (ay.mk s.aI s.aM s.jA v2 (gQ.mk (aD.mk (if (v3==0)=true then v1.1.fX else s.aC.x0.fX) (if (v3==0)=true then v1.1.fY else s.aC.x0.fY) (if (v3==0)=true then v1.1.dz else s.aC.x0.dz) (if (v3==0)=true then v1.1.bO else s.aC.x0.bO) (bU.mk (if (v3==0)=true then v1.1.bB.jy else s.aC.x0.bB.jy) (if (v3==0)=true then v1.1.bB.jq else s.aC.x0.bB.jq) (if (v3==0)=true then v1.1.bB.dI else s.aC.x0.bB.dI)) (bQ.mk (mP.mk (if (v3==0)=true then v1.1.aF.fG.x0 else s.aC.x0.aF.fG.x0) (if (v3==0)=true then v1.1.aF.fG.x1 else s.aC.x0.aF.fG.x1) (if (v3==0)=true then v1.1.aF.fG.x2 else s.aC.x0.aF.fG.x2) (if (v3==0)=true then v1.1.aF.fG.x3 else s.aC.x0.aF.fG.x3)) (if (v3==0)=true then v1.1.aF.jF else s.aC.x0.aF.jF) (if (v3==0)=true then v1.1.aF.jk else s.aC.x0.aF.jk) (if (v3==0)=true then v1.1.aF.eO else s.aC.x0.aF.eO))) (aD.mk (if (!(v3==0))=true then v1.1.fX else s.aC.x1.fX) (if (!(v3==0))=true then v1.1.fY else s.aC.x1.fY) (if (!(v3==0))=true then v1.1.dz else s.aC.x1.dz) (if (!(v3==0))=true then v1.1.bO else s.aC.x1.bO) (bU.mk (if (!(v3==0))=true then v1.1.bB.jy else s.aC.x1.bB.jy) (if (!(v3==0))=true then v1.1.bB.jq else s.aC.x1.bB.jq) (if (!(v3==0))=true then v1.1.bB.dI else s.aC.x1.bB.dI)) (bQ.mk (mP.mk (if (!(v3==0))=true then v1.1.aF.fG.x0 else s.aC.x1.aF.fG.x0) (if (!(v3==0))=true then v1.1.aF.fG.x1 else s.aC.x1.aF.fG.x1) (if (!(v3==0))=true then v1.1.aF.fG.x2 else s.aC.x1.aF.fG.x2) (if (!(v3==0))=true then v1.1.aF.fG.x3 else s.aC.x1.aF.fG.x3)) (if (!(v3==0))=true then v1.1.aF.jF else s.aC.x1.aF.jF) (if (!(v3==0))=true then v1.1.aF.jk else s.aC.x1.aF.jk) (if (!(v3==0))=true then v1.1.aF.eO else s.aC.x1.aF.eO)))) s.iL s.fO s.fZ) (av.mk v.fG (aD.mk v.fC.fX v.fC.fY v.fC.dz false v1.1.bB v1.1.aF) v1.2 v.fT v.fK v.dH v.bA)) λv4=>
 au (kN v4) λv5=>
 some v5
def A9(s:ay)(u:bL)(a:aG):Option ay :=
 au (oF a) λv=>
 aA (v==0)
  (some (ay.mk (av.mk s.aI.fG s.aI.fC s.aI.fR s.aI.fT s.aI.fK 2 s.aI.bA) (av.mk s.aM.fG s.aM.fC s.aM.fR s.aM.fT s.aM.fK 2 s.aM.bA) s.jA s.fM s.aC s.iL s.fO s.fZ))
  (aA (v==1)
   (some (ay.mk (av.mk s.aI.fG s.aI.fC s.aI.fR s.aI.fT s.aI.fK 0 s.aI.bA) (av.mk s.aM.fG s.aM.fC s.aM.fR s.aM.fT s.aM.fK 0 s.aM.bA) s.jA s.fM s.aC s.iL s.fO s.fZ))
   (aA (v==2)
    (some (ay.mk (av.mk s.aI.fG s.aI.fC s.aI.fR s.aI.fT s.aI.fK 1 s.aI.bA) (av.mk s.aM.fG s.aM.fC s.aM.fR s.aM.fT s.aM.fK 1 s.aM.bA) s.jA s.fM s.aC s.iL s.fO s.fZ))
    (some s)))
def Bg  : Option (List aL) :=
 au (vO true) λv=>
 au (vO false) λv1=>
 au (mW (FV.nil 142)) λv2=>
 au (mW (FV.nil 143)) λv3=>
 au (wV 6 (FV.nil 160)) λv4=>
 au (vP true (⟨#[63]⟩:ByteArray)) λv5=>
 au (vP false (⟨#[]⟩:ByteArray)) λv6=>
 au (wV 0 (FV.nil 163)) λv7=>
 some ([(aL.mk (⟨#[63]⟩:ByteArray) 104 v),(aL.mk (⟨#[63]⟩:ByteArray) 108 v1),(aL.mk (⟨#[63]⟩:ByteArray) 74 v2),(aL.mk (⟨#[63]⟩:ByteArray) 75 v3),(aL.mk (⟨#[63]⟩:ByteArray) 110 v4),(aL.mk (⟨#[63,36]⟩:ByteArray) 112 v5),(aL.mk (⟨#[36]⟩:ByteArray) 112 v6),(aL.mk (⟨#[62]⟩:ByteArray) 99 v7),(aL.mk (⟨#[33]⟩:ByteArray) 112 (FV.nil 164)),(aL.mk (⟨#[32]⟩:ByteArray) 107 (FV.nil 165))]:List aL)
def stringslite_HasPrefix(s:ByteArray)(prefix':ByteArray):Option Bool :=
 chk ((decide ((bn prefix')<=(bn s)))=true->(0:Int)<=0/\(0:Int)<=(bn prefix')/\(bn prefix')<=(bn s)) <|
 some (if (decide ((bn prefix')<=(bn s)))=true then (ng (tQ s 0 (bn prefix')) prefix') else false)
def strings_HasPrefix(s:ByteArray)(prefix':ByteArray):Option Bool :=
 au (stringslite_HasPrefix s prefix') λv=>
 some v
def Dn(s:ay)(t':ByteArray):Option ay :=
 au (strings_HasPrefix t' (⟨#[48,59]⟩:ByteArray)) λv=>
 au (if (!v)=true then strings_HasPrefix t' (⟨#[50,59]⟩:ByteArray) else some false) λv1=>
 aA (if (!v)=true then (!v1) else false)
  (some s)
  (chk ((0:Int)<=2/\(2:Int)<=(bn t')/\(bn t')<=(bn t')) <|
   let FT:=(tQ t' 2 (bn t'))
   chk ((0:Int)<=0/\(0:Int)<=(aP (bn FT) 1024)/\(aP (bn FT) 1024)<=(bn FT)) <|
   some (ay.mk s.aI s.aM s.jA s.fM s.aC s.iL (tQ FT 0 (aP (bn FT) 1024)) s.fZ))
def y8(v:FV)(a0:ay)(a1:bL)(a2:aG):Option ay:=match v with
 | .nil 112=>Nn a0 a1 a2
 | .fn (.nil 223) c0=>zq a0 a1 a2 c0
 | .fn (.nil 242) c0=>uR a0 a1 a2 c0
 | .fn (.nil 317) c0=>vH a0 a1 a2 c0
 | .fn (.int (.nil 262) .i64 c0) c1=>xC a0 a1 a2 c0 c1
 | .bool (.nil 258) c0=>sD a0 a1 a2 c0
 | .bool (.nil 263) c0=>sG a0 a1 a2 c0
 | .str (.bool (.nil 266) c0) c1=>sH a0 a1 a2 c0 c1
 | .nil 118=>Fh a0 a1 a2
 | .nil 124=>Fj a0 a1 a2
 | .nil 129=>BR a0 a1 a2
 | .nil 130=>rG a0 a1 a2
 | .nil 131=>vK a0 a1 a2
 | .nil 132=>Fq a0 a1 a2
 | .nil 139=>DC a0 a1 a2
 | .nil 151=>Ba a0 a1 a2
 | .nil 153=>Fp a0 a1 a2
 | .nil 154=>ze a0 a1 a2
 | .nil 156=>Bd a0 a1 a2
 | .nil 164=>Bf a0 a1 a2
 | .nil 165=>A9 a0 a1 a2
 | _=>none
def sM(s:ay)(d':bL)(a:aG):Option ay :=
 aO (au (rR s) λv19=>
  aA (!v19)
   (some (.out s))
   (some (.go ()))) λ(_:Unit)=>
 aO (aA (a.Og==1)
  (au (eH s) λv=>
   au (FB v.fC.aF a.fR) λv1=>
   let r':=v1.2
   au (iY s (av.mk v.fG (aD.mk v.fC.fX v.fC.fY v.fC.dz v.fC.bO v.fC.bB v1.1) v.fR v.fT v.fK v.dH v.bA)) λv2=>
   au (wZ v2 d' r') λv3=>
   some (.out v3))
  (aA (a.Og==2)
   (au (tT) λv4=>
    au (oG v4 (⟨#[]⟩:ByteArray) a.O3) λv5=>
    au (y8 v5 s d' a) λv6=>
    some (.out v6))
   (aA (a.Og==3)
    (aO (aA ((bn a.dS)==1)
      (chk ((0:Int)<=0/\(0:Int)<(bn a.dS)) <|
       au (strings_IndexByte (⟨#[40,41,42,43]⟩:ByteArray) (kY a.dS 0)) λv10=>
       aA (decide (0<=v10))
        (au (vJ s v10 a.O3) λv11=>
         some (.out (.out v11)))
        (some (.go ())))
      (some (.go ()))) λ(_:Unit)=>
     au (vv) λv7=>
     au (oG v7 a.dS a.O3) λv8=>
     au (y8 v8 s d' a) λv9=>
     some (.out v9))
    (aA (a.Og==4)
     (aO (aA (ng a.dS (⟨#[]⟩:ByteArray))
       (au (vQ) λv15=>
        au (oG v15 (⟨#[]⟩:ByteArray) a.O3) λv16=>
        au (y8 v16 s d' a) λv17=>
        some (.out (.out v17)))
       (some (.go ()))) λ(_:Unit)=>
      au (Bg) λv12=>
      au (oG v12 a.dS a.O3) λv13=>
      au (y8 v13 s d' a) λv14=>
      some (.out v14))
     (aA (a.Og==5)
      (au (Dn s a.fText) λv18=>
       some (.out v18))
      (some (.go ()))))))) λ(_:Unit)=>
 some s
def BM(t':bF):Option bF :=
 au (Du t') λv=>
 some (bF.mk t'.fU t'.fP t'.fS (aP t'.iF (ah v.aK)))
def nZ(t':bF)(d':bL)(b:(List Int)):Option bF :=
 au (nY t') λv=>
 aA (!v)
  (some t')
  (au (O7 t'.fU b) λv1=>
   au (Ie t'.fP v1.2) λv2=>
   aO (bZ (λ((v4,t'4):Int×bF)=>
    aA (decide (v4<(ah v2.2)))
     (chk (0<=v4/\v4<(ah v2.2)) <|
      au (sM t'4.fS d' (aB sN v2.2 v4)) λv5=>
      chk (aU .i64 (v4+1)) <|
      some (.go ((v4+1),(bF.mk t'4.fU t'4.fP v5 t'4.iF))))
     (some (.out (.go t'4)))) (0,(bF.mk v1.1 v2.1 t'.fS t'.iF))) λt'2=>
   au (BM t'2) λv3=>
   some v3)
def BS(t':bF)(n:Int):Option bF :=
 au (nY t') λv=>
 aA (!v)
  (some t')
  (let n1:=(aY (-200) (aP n 200))
   chk (aU .i64 (t'.iF+n1)) <|
   au (BM (bF.mk t'.fU t'.fP t'.fS (aY 0 (t'.iF+n1)))) λv1=>
   some v1)
def KD(k':gI)(g':cZ)(back:Int):Option (List aR) :=
 aO (au (vU k') λv1=>
  au (if (!(!v1))=true then zQ g' else some false) λv2=>
  aA (if (!v1)=true then true else (!v2))
   (none)
   (chk (dY 48 (ah k'.aK)) <|
    chk (dY 48 ((ah k'.aK)+(ah g'.aK))) <|
    some (.go ()))) λ(_:Unit)=>
 au (Db back (ah k'.aK)) λv=>
 chk (aU .i64 (((ah k'.aK)+(ah g'.aK))-v)) <|
 let to:=(((ah k'.aK)+(ah g'.aK))-v)
 chk (aU .i64 (to-(ah g'.aK))) <|
 chk (0<=(to-(ah g'.aK))/\(to-(ah g'.aK))<=to/\to<=((ah k'.aK)+(ah g'.aK))) <|
 chk (0<=to/\to<=to/\to<=((ah k'.aK)+(ah g'.aK))) <|
 some (kU (k'.aK++g'.aK) (0+(to-(ah g'.aK))) ((0+(to-(ah g'.aK)))+(to-(to-(ah g'.aK)))))
def YW(t':bF):Option (List aR) :=
 au (nY t') λv=>
 aA (!v)
  (none)
  (au (eH t'.fS) λv1=>
   au (qV t'.fS.fM true 2501) λv2=>
   au (Du t') λv3=>
   au (KD v3 v1.fG t'.iF) λv4=>
   chk (jD 48 (ah v4) (ah v4)) <|
   aO (bZ (λ((v5,aX):Int×List aR)=>
    aA (decide (v5<(ah v4)))
     (chk (0<=v5/\v5<(ah v4)) <|
      aA (!((ah (aB aH v4 (0+v5)).aN)==v1.fR.fW))
       (none)
       (aA v2
        (none)
        (chk (0<=v5/\v5<(ah v4)) <|
         chk (aU .i64 (v5+1)) <|
         some (.go ((v5+1),(iM aX v5 (aB aH v4 (0+v5))))))))
     (some (.out (.go aX)))) (0,(jX (ah v4) aH))) λout=>
   some out)
def Wv(t':bF):Option Bool :=
 au (qV t'.fS.fM true 2500) λv=>
 some v
def YX(l':(List aR)):Option Bool :=
 aO (bZ (λ(v:Int)=>
  aA (decide (v<(ah l')))
   (chk (0<=v/\v<(ah l')) <|
    au (qc (aB aH l' v)) λv1=>
    aA (!v1)
     (none)
     (chk (aU .i64 (v+1)) <|
      some (.go (v+1))))
   (some (.out (.go ())))) 0) λ(_:Unit)=>
 some true
def I9(r':aR):Option ((List Int)×(List Int)) :=
 aO (bZ (λ((v,aX,BU):Int×List Int×List Int)=>
  aA (decide (v<(ah r'.aN)))
   (chk (0<=v/\v<(ah r'.aN)) <|
    aA ((aB bq r'.aN v).fW==0)
     (chk (aU .i64 (v+1)) <|
      some (.go ((v+1),aX,BU)))
     (let x':=(aB bq r'.aN v).fR
      aA (x'==0)
       (chk (dY 8 ((ah aX)+1)) <|
        chk (dY 8 ((ah BU)+1)) <|
        chk (aU .i64 (v+1)) <|
        some (.go ((v+1),(aX++([32]:List Int)),(BU++([(aB bq r'.aN v).fW]:List Int)))))
       (chk (dY 8 ((ah aX)+1)) <|
        chk (dY 8 ((ah BU)+1)) <|
        chk (aU .i64 (v+1)) <|
        some (.go ((v+1),(aX++([x']:List Int)),(BU++([(aB bq r'.aN v).fW]:List Int)))))))
   (some (.out (.go (aX,BU))))) (0,([]:List Int),([]:List Int))) λ(out,widths)=>
 some (out,widths)
def LJ(l':(List aR)):Option (List Int) :=
 aO (bZ (λ((v,aX):Int×List Int)=>
  aA (decide (v<(ah l')))
   (chk (0<=v/\v<(ah l')) <|
    au (I9 (aB aH l' v)) λv1=>
    chk (dY 8 ((ah aX)+(ah v1.1))) <|
    chk (aU .i64 (v+1)) <|
    some (.go ((v+1),(aX++v1.1))))
   (some (.out (.go aX)))) (0,([]:List Int))) λout=>
 some out
def Rf(d':bL)(r':Int):Option Int :=
 au (Eh d'.ais r') λv=>
 aA (decide (0<v))
  (some v)
  (some 1)
def PW(d':bL)(r':(List Int)):Option (List Int) :=
 chk (jD 8 (ah r') (ah r')) <|
 aO (bZ (λ((v,aX):Int×List Int)=>
  aA (decide (v<(ah r')))
   (chk (0<=v/\v<(ah r')) <|
    let x':=(aB 0 r' v)
    au (Rf d' x') λv1=>
    chk (0<=v/\v<(ah r')) <|
    chk (aU .i64 (v+1)) <|
    some (.go ((v+1),(iM aX v v1))))
   (some (.out (.go aX)))) (0,(jX (ah r') 0))) λout=>
 some out
def Ua(l':(List Int)):Option (List Int) :=
 chk (jD 8 (ah l') (ah l')) <|
 aO (bZ (λ((v,aX):Int×List Int)=>
  aA (decide (v<(ah l')))
   (chk (0<=v/\v<(ah l')) <|
    let c':=(aB 0 l' v)
    aA (if (decide (c'<1))=true then true else (decide (23<c')))
     (none)
     (chk (0<=v/\v<(ah l')) <|
      chk (aU .i64 (v+1)) <|
      some (.go ((v+1),(iM aX v c')))))
   (some (.out (.go aX)))) (0,(jX (ah l') 0))) λout=>
 some out
def FU(l':(List Int)):Option (List Int) :=
 chk (jD 8 (ah l') (ah l')) <|
 aO (bZ (λ((v,aX):Int×List Int)=>
  aA (decide (v<(ah l')))
   (aO (chk (0<=v/\v<(ah l')) <|
     let c':=(aB 0 l' v)
     chk (0<=v/\v<(ah l')) <|
     aO (aA (c'==20)
      (some (.go (c'==20)))
      (aA (c'==21)
       (some (.go (c'==21)))
       (some (.go (c'==22))))) λv1=>
     aA v1
      (none)
      (aA (c'==23)
       (none)
       (aA (c'==11)
        (none)
        (some (.go ()))))) λ(_:Unit)=>
    chk (aU .i64 (v+1)) <|
    some (.go ((v+1),(iM aX v (-1)))))
   (some (.out (.go aX)))) (0,(jX (ah l') 0))) λout=>
 some out
def DT(base:Int):Option Int :=
 chk ((2:Int)≠0) <|
 some (Int.tmod (aY base 0) 2)
def afg(s:kS)(x':jY):Option (kS) :=
 chk (dY 24 ((ah s.fl)+1)) <|
 some (kS.mk (s.fl++([x']:List jY)))
def afh(s:kS):Option jY :=
 chk (aU .i64 ((ah s.fl)-1)) <|
 chk (0<=((ah s.fl)-1)/\((ah s.fl)-1)<(ah s.fl)) <|
 some (aB zw s.fl ((ah s.fl)-1))
def aiH(m:oh)(i:Int):Option (oh) :=
 au (afh m.Iz) λv=>
 chk (0<=i/\i<(ah m.pz.lI)) <|
 aA (!(v.agq==14))
  (none)
  (some (oh.mk m.fl m.Uy m.Oh (kV.mk (iM m.pz.lI i v.anH) m.pz.ql m.pz.l5) m.Iz m.MN m.FI m.YD))
def KE(l':(List Int))(base:Int):Option kV :=
 aO (au (Ua l') λv5=>
  au (FU v5) λv6=>
  au (DT base) λv7=>
  chk (jD 8 (ah v5) (ah v5)) <|
  chk (dY 8 (ah v5)) <|
  chk (jD 1 (ah v5) (ah v5)) <|
  some (.go (v5,v5,v6,v7,(jX (ah v5) 0),v5,(jX (ah v5) false),([]:List jY)))) λ(iE,Wl,apz,afi,o,o1,o2,o3)=>
 au (afg (kS.mk o3) (jY.mk afi 14 false)) λv=>
 aO (bZ (λ((v1,aaA,aaB,aaC,aaD,aaE,aaF,o8,o9,Rh,Rj):Int×List Int×List Int×Int×Int×Int×Int×List Int×List Int×List Bool×List jY)=>
  aA (decide (v1<(ah iE)))
   (aO (chk (0<=v1/\v1<(ah iE)) <|
     let c':=(aB 0 iE v1)
     aO (aA (c'==17)
      (some (.go (c'==17)))
      (aA (c'==15)
       (some (.go (c'==15)))
       (aA (c'==18)
        (some (.go (c'==18)))
        (some (.go (c'==16)))))) λv2=>
     aA v2
      (none)
      (aO (aA (c'==21)
        (some (.go (c'==21)))
        (aA (c'==20)
         (some (.go (c'==20)))
         (some (.go (c'==22))))) λv3=>
       aA v3
        (none)
        (aA (c'==23)
         (none)
         (aA (c'==19)
          (none)
          (aA (c'==11)
           (none)
           (aA (c'==10)
            (none)
            (au (aiH (oh.mk aaA aaB aaC (kV.mk o8 o9 Rh) (kS.mk Rj) aaD aaE aaF) v1) λv4=>
             some (.go (v4.fl,v4.Uy,v4.Oh,v4.MN,v4.FI,v4.YD,v4.pz.lI,v4.pz.ql,v4.pz.l5,v4.Iz.fl))))))))) λ(al2,al3,al4,al5,al6,al7,YZ,Y0,Y1,o15)=>
    chk (aU .i64 (v1+1)) <|
    some (.go ((v1+1),al2,al3,al4,al5,al6,al7,YZ,Y0,Y1,o15)))
   (some (.out (.go (aaA,aaB,aaC,aaD,aaE,aaF,o8,o9,Rh,Rj))))) (0,Wl,apz,afi,0,0,0,o,o1,o2,v.fl)) λ(aqM,aqN,aqO,at7,aua,aub,o4,o5,o6,o7)=>
 some (kV.mk o4 o5 o6)
def kH(s:(List Int)):Option (List Int) :=
 oH (ah s)
  (aO (none) λ(_:Unit)=>
   chk (dY 8 (ah s)) <|
   some s)
  (aO (some (.go ())) λ(_:Unit)=>
   chk (dY 8 (ah s)) <|
   some s)
def Oq(l':(List Int))(r':kV):Option Bool :=
 some (if (if ((ah r'.lI)==(ah l'))=true then ((ah r'.ql)==(ah l')) else false)=true then ((ah r'.l5)==(ah l')) else false)
def WA(r':kV):Option (List (List Int)) :=
 aO (bZ (λ((v,aX):Int×List (List Int))=>
  aA (decide (v<(ah r'.l5)))
   (chk (0<=v/\v<(ah r'.l5)) <|
    let gone:=(aB false r'.l5 v)
    aA gone
     (chk (aU .i64 (v+1)) <|
      some (.go ((v+1),aX)))
     (let n:=(ah aX)
      chk ((!(n==0))=true->aU .i64 (n-1)) <|
      chk ((!(n==0))=true->0<=(n-1)/\(n-1)<(ah aX)) <|
      chk ((!(n==0))=true->(0:Int)<=0/\(0:Int)<(ah (aB [] aX ((ah aX)-1)))) <|
      chk ((!(n==0))=true->0<=(aB 0 (aB [] aX ((ah aX)-1)) (0+0))/\(aB 0 (aB [] aX ((ah aX)-1)) (0+0))<(ah r'.lI)) <|
      chk ((!(n==0))=true->0<=v/\v<(ah r'.lI)) <|
      aA (if (n==0)=true then true else (!((aB 0 r'.lI (aB 0 (aB [] aX ((ah aX)-1)) (0+0)))==(aB 0 r'.lI v))))
       (chk (dY 24 ((ah aX)+1)) <|
        chk (aU .i64 (v+1)) <|
        some (.go ((v+1),(aX++([([v]:List Int)]:List (List Int))))))
       (chk (aU .i64 (n-1)) <|
        chk (aU .i64 (n-1)) <|
        chk (0<=(n-1)/\(n-1)<(ah aX)) <|
        chk (dY 8 ((ah (aB [] aX ((ah aX)-1)))+1)) <|
        chk (0<=(n-1)/\(n-1)<(ah aX)) <|
        chk (aU .i64 (v+1)) <|
        some (.go ((v+1),(iM aX (n-1) ((aB [] aX ((ah aX)-1))++([v]:List Int))))))))
   (some (.out (.go aX)))) (0,([]:List (List Int)))) λout=>
 some out
def Gj(c':Int):Option Bool :=
 some (if (if (c'==20)=true then true else (c'==21))=true then true else (c'==22))
def Ja(l':(List Int))(r':kV)(base:Int):Option (List (List Int)) :=
 au (Oq l' r') λv=>
 aA (!v)
  (none)
  (au (FU l') λv1=>
   au (WA r') λv2=>
   chk (aU .i64 ((ah l')+1)) <|
   chk (jD 8 ((ah l')+1) ((ah l')+1)) <|
   aO (bZ (λ((v7,Y2):Int×List Int)=>
    aA (decide (v7<((ah l')+1)))
     (chk (0<=v7/\v7<((ah l')+1)) <|
      chk (aU .i64 (v7+1)) <|
      some (.go ((v7+1),(iM Y2 v7 (-1)))))
     (some (.out (.go Y2)))) (0,(jX ((ah l')+1) 0))) λheads=>
   aO (bZ (λ((v6,Y3):Int×List Int)=>
    aA (decide (v6<(ah v2)))
     (chk (0<=v6/\v6<(ah v2)) <|
      chk ((0:Int)<=0/\(0:Int)<(ah (aB [] v2 (0+v6)))) <|
      chk (0<=(aB 0 (aB [] v2 (0+v6)) 0)/\(aB 0 (aB [] v2 (0+v6)) 0)<((ah l')+1)) <|
      chk (aU .i64 (v6+1)) <|
      some (.go ((v6+1),(iM Y3 (aB 0 (aB [] v2 (0+v6)) 0) v6))))
     (some (.out (.go Y3)))) (0,heads)) λadJ=>
   chk (jD 8 (ah v2) (ah v2)) <|
   chk (jD 1 (ah v2) (ah v2)) <|
   aO (bZ (λ((v4,UH):Int×List Int)=>
    aA (decide (v4<(ah v2)))
     (chk (0<=v4/\v4<(ah v2)) <|
      chk (0<=v4/\v4<(ah v2)) <|
      chk (aU .i64 ((ah (aB [] v2 (0+v4)))-1)) <|
      chk (0<=((ah (aB [] v2 (0+v4)))-1)/\((ah (aB [] v2 (0+v4)))-1)<(ah (aB [] v2 (0+v4)))) <|
      let end':=(aB 0 (aB [] v2 (0+v4)) ((ah (aB [] v2 (0+v4)))-1))
      chk (0<=end'/\end'<(ah l')) <|
      au (Gj (aB 0 l' end')) λv5=>
      aA (!v5)
       (chk (aU .i64 (v4+1)) <|
        some (.go ((v4+1),(iM UH v4 (-1)))))
       (none))
     (some (.out (.go UH)))) (0,(jX (ah v2) 0))) λbehind=>
   aO (bZ (λ((v3,aX):Int×List (List Int))=>
    aA (decide (v3<(ah v2)))
     (aO (chk (0<=v3/\v3<(ah v2)) <|
       aA (aB false (jX (ah v2) false) (0+v3))
        (some (.go aX))
        (aO (bZ (λ((at',seq1):Int×List Int)=>
          aA (decide (0<=at'))
           (chk (0<=at'/\at'<(ah v2)) <|
            chk (dY 8 ((ah seq1)+(ah (aB [] v2 (0+at'))))) <|
            chk (0<=at'/\at'<(ah v2)) <|
            let kg:=(aB 0 behind (0+at'))
            some (.go (kg,(seq1++(aB [] v2 (0+at'))))))
           (some (.out (.go seq1)))) (v3,([]:List Int))) λseq=>
         chk (dY 24 ((ah aX)+1)) <|
         some (.go (aX++([seq]:List (List Int)))))) λl9=>
      chk (aU .i64 (v3+1)) <|
      some (.go ((v3+1),l9)))
     (some (.out (.go aX)))) (0,([]:List (List Int)))) λout=>
   some out)
def Rk(l':(List Int))(seq:(List Int)):Option (List Int) :=
 chk (jD 8 (ah seq) (ah seq)) <|
 aO (bZ (λ((v,aX):Int×List Int)=>
  aA (decide (v<(ah seq)))
   (chk (0<=v/\v<(ah seq)) <|
    let at':=(aB 0 seq v)
    chk (0<=at'/\at'<(ah l')) <|
    chk (0<=v/\v<(ah seq)) <|
    chk (aU .i64 (v+1)) <|
    some (.go ((v+1),(iM aX v (aB 0 l' at')))))
   (some (.out (.go aX)))) (0,(jX (ah seq) 0))) λout=>
 some out
def Ot(level:Int):Option Int :=
 aA ((jm .i64 level 1)==1)
  (none)
  (some 1)
def Ub(l':(List Int))(r':kV)(base:Int)(seq:(List Int)):Option (Int×Int) :=
 au (Oq l' r') λv=>
 aA (if (!v)=true then true else ((ah seq)==0))
  (none)
  (aO (bZ (λ(v5:Int)=>
    aA (decide (v5<(ah seq)))
     (chk (0<=v5/\v5<(ah seq)) <|
      let at':=(aB 0 seq v5)
      aA (if (decide (at'<0))=true then true else (decide ((ah l')<=at')))
       (none)
       (chk (aU .i64 (v5+1)) <|
        some (.go (v5+1))))
     (some (.out (.go ())))) 0) λ(_:Unit)=>
   chk ((0:Int)<=0/\(0:Int)<(ah seq)) <|
   chk (aU .i64 ((ah seq)-1)) <|
   chk (0<=((ah seq)-1)/\((ah seq)-1)<(ah seq)) <|
   let first:=(aB 0 seq 0)
   let last:=(aB 0 seq ((ah seq)-1))
   au (DT base) λv1=>
   au (DT base) λv1=>
   aO (chk (aU .i64 (first-1)) <|
    let i1:=(first-1)
    bZ (λ(_:Unit)=>
     aA (decide (0<=i1))
      (none)
      (some (.out (.go ())))) ()) λ(_:Unit)=>
   aO (chk (0<=last/\last<(ah l')) <|
    au (Gj (aB 0 l' last)) λv3=>
    au (if (!(!v3))=true then FU l' else some []) λv4=>
    chk ((!(!v3))=true->0<=last/\last<(ah v4)) <|
    aA (if (!v3)=true then true else (decide ((aB 0 v4 last)<(ah l'))))
     (chk (aU .i64 (last+1)) <|
      let i:=(last+1)
      bZ (λ(_:Unit)=>
       aA (decide (i<(ah l')))
        (none)
        (some (.out (.go ())))) ())
     (some (.go ()))) λ(_:Unit)=>
   chk (0<=first/\first<(ah r'.lI)) <|
   let level:=(aB 0 r'.lI first)
   au (Ot (aY level v1)) λv2=>
   au (Ot (aY level v1)) λv2=>
   some (v2,v2))
def w1(t':jh):Option (List Int) :=
 let ahead:=t'.EY
 bZ (λ((BA,v):Int×Int)=>
  aA (decide (v<(ah t'.fl)))
   (aO (chk (0<=v/\v<(ah t'.fl)) <|
     let c':=(aB 0 t'.fl (0+v))
     aO (aA (c'==9)
      (none)
      (some (.go ()))) λ(_:Unit)=>
     chk (0<=v/\v<(ah t'.fl)) <|
     let Jb:=(aB 0 t'.fl (0+v))
     aA (Jb==20)
      (aA (Jb==20)
       (none)
       (some (.go ())))
      (aA (Jb==21)
       (aA (Jb==21)
        (none)
        (some (.go ())))
       (aA (Jb==22)
        (aA (Jb==22)
         (none)
         (some (.go ())))
        (aA (Jb==23)
         (none)
         (some (.go ())))))) λ(_:Unit)=>
    chk (aU .i64 (v+1)) <|
    some (.go ((aB 0 t'.fl (0+v)),(v+1))))
   (some (.out t'.fl))) (ahead,0)
def w2(t':jh):Option (List Int) :=
 let last:=t'.EY
 bZ (λ((Rl,v):Int×Int)=>
  aA (decide (v<(ah t'.fl)))
   (aO (chk (0<=v/\v<(ah t'.fl)) <|
     let c':=(aB 0 t'.fl (0+v))
     aO (aA (c'==2)
      (some (.go (c'==2)))
      (aA (c'==1)
       (some (.go (c'==1)))
       (some (.go (c'==3))))) λv1=>
     aA v1
      (some (.go c'))
      (aA (c'==4)
       (none)
       (some (.go Rl)))) λlast2=>
    chk (aU .i64 (v+1)) <|
    some (.go (last2,(v+1))))
   (some (.out t'.fl))) (last,0)
def w3(t':jh):Option (List Int) :=
 bZ (λ(v:Int)=>
  aA (decide (v<(ah t'.fl)))
   (chk (0<=v/\v<(ah t'.fl)) <|
    let c':=(aB 0 t'.fl (0+v))
    aA (c'==3)
     (none)
     (chk (aU .i64 (v+1)) <|
      some (.go (v+1))))
   (some (.out t'.fl))) 0
def Gl(t':jh)(i:Int):Option Int :=
 aA (if (decide (i<0))=true then true else (decide ((ah t'.fl)<=i)))
  (some 0)
  (chk (0<=i/\i<(ah t'.fl)) <|
   some (aB 0 t'.fl i))
def w4(t':jh):Option (List Int) :=
 bZ (λ(v:Int)=>
  aA (decide (v<(ah t'.fl)))
   (chk (0<=v/\v<(ah t'.fl)) <|
    let c':=(aB 0 t'.fl (0+v))
    chk (aU .i64 (v-1)) <|
    au (Gl t' (v-1)) λv1=>
    chk (aU .i64 (v+1)) <|
    au (Gl t' (v+1)) λv2=>
    aA (!(v1==v2))
     (chk (aU .i64 (v+1)) <|
      some (.go (v+1)))
     (aA (if (if (v1==4)=true then (if (c'==5)=true then true else (c'==8)) else false)=true then true else (if (v1==7)=true then (c'==8) else false))
      (none)
      (chk (aU .i64 (v+1)) <|
       some (.go (v+1)))))
   (some (.out t'.fl))) 0
def w5(t':jh):Option (List Int) :=
 bZ (λ(i:Int)=>
  aA (decide (i<(ah t'.fl)))
   (chk (0<=i/\i<(ah t'.fl)) <|
    aA (!((aB 0 t'.fl (0+i))==6))
     (chk (aU .i64 (i+1)) <|
      let i1:=(i+1)
      some (.go i1))
     (none))
   (some (.out t'.fl))) 0
def w6(t':jh):Option (List Int) :=
 bZ (λ(v:Int)=>
  aA (decide (v<(ah t'.fl)))
   (chk (0<=v/\v<(ah t'.fl)) <|
    let c':=(aB 0 t'.fl (0+v))
    aA (c'==5)
     (aA (c'==5)
      (none)
      (chk (aU .i64 (v+1)) <|
       some (.go (v+1))))
     (aA (c'==6)
      (aA (c'==6)
       (none)
       (chk (aU .i64 (v+1)) <|
        some (.go (v+1))))
      (aA (c'==8)
       (none)
       (chk (aU .i64 (v+1)) <|
        some (.go (v+1))))))
   (some (.out t'.fl))) 0
def w7(t':jh):Option (List Int) :=
 let last:=t'.EY
 bZ (λ((Rl,v):Int×Int)=>
  aA (decide (v<(ah t'.fl)))
   (chk (0<=v/\v<(ah t'.fl)) <|
    let c':=(aB 0 t'.fl (0+v))
    aA (c'==2)
     (aA (c'==2)
      (chk (aU .i64 (v+1)) <|
       some (.go (c',(v+1))))
      (aA (c'==4)
       (none)
       (chk (aU .i64 (v+1)) <|
        some (.go (Rl,(v+1))))))
     (aA (c'==1)
      (chk (aU .i64 (v+1)) <|
       some (.go (c',(v+1))))
      (aA (c'==4)
       (none)
       (chk (aU .i64 (v+1)) <|
        some (.go (Rl,(v+1)))))))
   (some (.out t'.fl))) (last,0)
def Y4(l':(List Int))(wN:Int):Option (List Int) :=
 au (kH l') λv=>
 aO (aO (aO (aO (chk ((0:Int)<=0/\(0:Int)<7) <|
     some (.go ())) λ(_:Unit)=>
    au (w1 (jh.mk v wN)) λv7=>
    chk (ah v7=ah v) <|
    some (.go v7)) λY1=>
   chk (aU .i64 (0+1)) <|
   some (.go Y1)) λo1=>
  aO (aO (aO (chk ((0:Int)<=1/\(1:Int)<7) <|
     some (.go ())) λ(_:Unit)=>
    au (w2 (jh.mk o1 wN)) λv6=>
    chk (ah v6=ah o1) <|
    some (.go v6)) λY0=>
   chk (aU .i64 (1+1)) <|
   some (.go Y0)) λo2=>
  aO (aO (aO (chk ((0:Int)<=2/\(2:Int)<7) <|
     some (.go ())) λ(_:Unit)=>
    au (w3 (jh.mk o2 wN)) λv5=>
    chk (ah v5=ah o2) <|
    some (.go v5)) λYZ=>
   chk (aU .i64 (2+1)) <|
   some (.go YZ)) λo3=>
  aO (aO (aO (chk ((0:Int)<=3/\(3:Int)<7) <|
     some (.go ())) λ(_:Unit)=>
    au (w4 (jh.mk o3 wN)) λv4=>
    chk (ah v4=ah o3) <|
    some (.go v4)) λRj=>
   chk (aU .i64 (3+1)) <|
   some (.go Rj)) λo4=>
  aO (aO (aO (chk ((0:Int)<=4/\(4:Int)<7) <|
     some (.go ())) λ(_:Unit)=>
    au (w5 (jh.mk o4 wN)) λv3=>
    chk (ah v3=ah o4) <|
    some (.go v3)) λRh=>
   chk (aU .i64 (4+1)) <|
   some (.go Rh)) λo5=>
  aO (aO (aO (chk ((0:Int)<=5/\(5:Int)<7) <|
     some (.go ())) λ(_:Unit)=>
    au (w6 (jh.mk o5 wN)) λv2=>
    chk (ah v2=ah o5) <|
    some (.go v2)) λo9=>
   chk (aU .i64 (5+1)) <|
   some (.go o9)) λo6=>
  aO (aO (aO (chk ((0:Int)<=6/\(6:Int)<7) <|
     some (.go ())) λ(_:Unit)=>
    au (w7 (jh.mk o6 wN)) λv1=>
    chk (ah v1=ah o6) <|
    some (.go v1)) λo8=>
   chk (aU .i64 (6+1)) <|
   some (.go o8)) λo7=>
  some (.go o7)) λo=>
 some o
def bits_Len64(x':Int):Option Int :=
 aA (decide (4294967296<=x'))
  (none)
  (aA (decide (65536<=x'))
   (none)
   (aA (decide (256<=x'))
    (none)
    (chk (0<=(IntKind.wrap .u8 x')/\(IntKind.wrap .u8 x')<(bn kS7)) <|
     chk (aU .i64 (0+(IntKind.wrap .i64 (kY kS7 (IntKind.wrap .u8 x'))))) <|
     let n:=(0+(IntKind.wrap .i64 (kY kS7 (IntKind.wrap .u8 x'))))
     some n)))
def bits_Len(x':Int):Option Int :=
 au (bits_Len64 x') λv=>
 some v
def nQ(data:(List kR))(a:Int)(b:Int)(cmp:FV):Option Unit :=
 chk (aU .i64 (a+1)) <|
 let i:=(a+1)
 bZ (λ(_:Unit)=>
  aA (decide (i<b))
   (none)
   (some (.out ()))) ()
def ru(data:(List kR))(a:Int)(b:Int)(limit:Int)(cmp:FV):Option Unit :=
 bZ (λ(_:Unit)=>
  chk (aU .i64 (b-a)) <|
  let length:=(b-a)
  aA (decide (length<=12))
   (au (nQ data a b cmp) λv=>
    some (.out ()))
   (none)) ()
def pE(x':(List kR))(cmp:FV):Option Unit :=
 let n:=(ah x')
 au (bits_Len (IntKind.wrap .u64 n)) λv=>
 au (ru x' 0 n v cmp) λv1=>
 some ()
def WB(d':bL)(r':(List Int))(l':(List Int)):Option (List kR) :=
 aA (!((ah r')==(ah l')))
  (none)
  (aO (bZ (λ(v1:Int)=>
    aA (decide (v1<(ah l')))
     (aO (chk (0<=v1/\v1<(ah l')) <|
       let c':=(aB 0 l' v1)
       aA (!(c'==14))
        (some (.go ()))
        (none)) λ(_:Unit)=>
      chk (aU .i64 (v1+1)) <|
      some (.go (v1+1)))
     (some (.out (.go ())))) 0) λ(_:Unit)=>
   au (pE ([]:List kR) (FV.nil 445)) λv=>
   some ([]:List kR))
def n0(x':vo):Option (List Int) :=
 bZ (λ(_:Unit)=>
  aA (decide (0<(ah x'.YE)))
   (none)
   (some (.out x'.fl))) ()
def Jc(c':Int):Option Bool :=
 aO (aO (aA (c'==11)
   (some (.go (c'==11)))
   (aA (c'==12)
    (some (.go (c'==12)))
    (aA (c'==13)
     (some (.go (c'==13)))
     (aA (c'==14)
      (some (.go (c'==14)))
      (aA (c'==20)
       (some (.go (c'==20)))
       (aA (c'==21)
        (some (.go (c'==21)))
        (aA (c'==22)
         (some (.go (c'==22)))
         (some (.go (c'==23)))))))))) λv=>
  aA v
   (some (.out true))
   (some (.go ()))) λ(_:Unit)=>
 some false
def Uc(c':Int):Option Int :=
 aA (c'==1)
  (some 1)
  (none)
def n12(x':vo):Option (List Int) :=
 bZ (λ((i,o):Int×List Int)=>
  aA (decide (i<(ah x'.fl)))
   (chk (0<=i/\i<(ah x'.fl)) <|
    au (Jc (aB 0 o (0+i))) λv=>
    aA (!v)
     (chk (aU .i64 (i+1)) <|
      let i1:=(i+1)
      some (.go (i1,o)))
     (aO (bZ (λ(Dc:Int)=>
       chk ((decide (Dc<(ah x'.fl)))=true->0<=Dc/\Dc<(ah x'.fl)) <|
       au (if (decide (Dc<(ah x'.fl)))=true then Jc (aB 0 o (0+Dc)) else some false) λv2=>
       aA (if (decide (Dc<(ah x'.fl)))=true then v2 else false)
        (chk (aU .i64 (Dc+1)) <|
         let awy:=(Dc+1)
         some (.go awy))
        (some (.out (.go Dc)))) i) λend'=>
      let ahead:=x'.EY;let behind:=x'.alL
      aO (aA (decide (0<i))
       (chk (aU .i64 (i-1)) <|
        chk (0<=(i-1)/\(i-1)<(ah x'.fl)) <|
        au (Uc (aB 0 o (0+(i-1)))) λv1=>
        some (.go v1))
       (some (.go ahead))) λBA=>
      aO (aA (decide (end'<(ah x'.fl)))
       (none)
       (some (.go ()))) λ(_:Unit)=>
      let c':=x'.alM
      aO (aA (if (BA==behind)=true then (!(BA==0)) else false)
       (some (.go BA))
       (some (.go c'))) λEW=>
      bZ (λ((i2,o1):Int×List Int)=>
       aA (decide (i2<end'))
        (chk (0<=i2/\i2<(ah x'.fl)) <|
         chk (aU .i64 (i2+1)) <|
         let i3:=(i2+1)
         some (.go (i3,(iM o1 i2 EW))))
        (some (.out (.go (i2,o1))))) (i,o)))
   (some (.out o))) (0,x'.fl)
def PX(d':bL)(r':(List Int))(was:(List Int))(l':(List Int))(level:Int)(wN:Int)(Y5:Int):Option (List Int) :=
 au (kH l') λv=>
 aA (if (!((ah r')==(ah l')))=true then true else (!((ah was)==(ah l'))))
  (none)
  (au (WB d' r' l') λv1=>
   aO (aA ((jm .i64 level 1)==1)
    (none)
    (some (.go ()))) λ(_:Unit)=>
   aO (aO (aO (aO (chk ((0:Int)<=0/\(0:Int)<2) <|
       some (.go ())) λ(_:Unit)=>
      au (n0 (vo.mk v was wN Y5 1 2 v1)) λv3=>
      chk (ah v3=ah v) <|
      some (.go v3)) λaiI=>
     chk (aU .i64 (0+1)) <|
     some (.go aiI)) λaX=>
    aO (aO (aO (chk ((0:Int)<=1/\(1:Int)<2) <|
       some (.go ())) λ(_:Unit)=>
      au (n12 (vo.mk aX was wN Y5 1 2 v1)) λv2=>
      chk (ah v2=ah aX) <|
      some (.go v2)) λnT=>
     chk (aU .i64 (1+1)) <|
     some (.go nT)) λl9=>
    some (.go l9)) λout=>
   some out)
def Np(c':Int)(level:Int):Option Int :=
 let odd:=((jm .i64 level 1)==1)
 aA (if odd=true then (if (if (c'==1)=true then true else (c'==4))=true then true else (c'==7)) else false)
  (none)
  (aA (if (!odd)=true then (c'==2) else false)
   (none)
   (aA (if (!odd)=true then (if (c'==4)=true then true else (c'==7)) else false)
    (none)
    (some level)))
def Ud(d':bL)(r':(List Int))(l':(List Int))(base:Int):Option (List Int) :=
 au (KE l' base) λv=>
 au (kH v.lI) λv1=>
 aO (au (Ja l' v base) λv3=>
  bZ (λ((v4,aX):Int×List Int)=>
   aA (decide (v4<(ah v3)))
    (aO (chk (0<=v4/\v4<(ah v3)) <|
      au (Rk v.ql (aB [] v3 (0+v4))) λv5=>
      chk ((0:Int)<=0/\(0:Int)<(ah (aB [] v3 (0+v4)))) <|
      chk (0<=(aB 0 (aB [] v3 (0+v4)) 0)/\(aB 0 (aB [] v3 (0+v4)) 0)<(ah v.lI)) <|
      let level:=(aB 0 v.lI (aB 0 (aB [] v3 (0+v4)) 0))
      au (Ub l' v base (aB [] v3 (0+v4))) λv6=>
      let wN:=v6.1;let Y5:=v6.2
      au (Rk r' (aB [] v3 (0+v4))) λv7=>
      au (Y4 v5 wN) λv8=>
      au (PX d' v7 v5 v8 level wN Y5) λv9=>
      bZ (λ((v10,nT):Int×List Int)=>
       aA (decide (v10<(ah (aB [] v3 (0+v4)))))
        (chk (0<=v10/\v10<(ah (aB [] v3 (0+v4)))) <|
         let at':=(aB 0 (aB [] v3 (0+v4)) v10)
         chk (0<=v10/\v10<(ah v9)) <|
         au (Np (aB 0 v9 (0+v10)) level) λv11=>
         chk (0<=at'/\at'<(ah v1)) <|
         chk (aU .i64 (v10+1)) <|
         some (.go ((v10+1),(iM nT at' v11))))
        (some (.out (.go nT)))) (0,aX)) λl9=>
     chk (aU .i64 (v4+1)) <|
     some (.go ((v4+1),l9)))
    (some (.out (.go aX)))) (0,v1)) λout=>
 chk ((2:Int)≠0) <|
 let ahead:=(Int.tmod (aY base 0) 2)
 aO (bZ (λ((BA,v2):Int×Int)=>
  aA (decide (v2<(ah v.l5)))
   (chk (0<=v2/\v2<(ah v.l5)) <|
    let gone:=(aB false v.l5 v2)
    aA gone
     (none)
     (chk (0<=v2/\v2<(ah v1)) <|
      let Jb:=(aB 0 out (0+v2))
      chk (aU .i64 (v2+1)) <|
      some (.go (Jb,(v2+1)))))
   (some (.out (.go ())))) (ahead,0)) λ(_:Unit)=>
 some out
def KF(d':bL)(r':(List Int))(dir:Int):Option ((List Int)×Int) :=
 au (PW d' r') λv=>
 aA (if (!(dir==0))=true then (!(dir==1)) else false)
  (none)
  (au (Ud d' r' v dir) λv1=>
   some (v1,dir))
def WC(d':bL)(r':Int):Option Int :=
 au (Eh d'.alJ r') λv=>
 some v
def xk(at':Int)(side:Int)(cap0:(List (Int×Int)))(iI:bL)(cap2:(List Int)):Option Bool :=
 chk ((decide (0<=at'))=true->0<=at'/\at'<(ah cap2)) <|
 au (if (decide (0<=at'))=true then WC iI (aB 0 cap2 at') else some 0) λv=>
 some (if (decide (0<=at'))=true then (!((jm .i64 (Ou cap0 v) side)==0)) else false)
def Y6(a0:bL)(a1:(List Int))(a2:Int):Option Int:=none
def LK(d':bL)(r':(List Int))(at':Int):Option Int :=
 aA (if (decide (at'<0))=true then true else (decide ((ah r')<=at')))
  (none)
  (aO (chk (aU .i64 (at'+1)) <|
    let i:=(at'+1)
    bZ (λ(_:Unit)=>
     aA (decide (i<(ah r')))
      (chk (0<=i/\i<(ah r')) <|
       au (WC d' (aB 0 r' i)) λv=>
       aA (!(v==4))
        (some (.out (.out i)))
        (none))
      (some (.out (.go ())))) ()) λ(_:Unit)=>
   some (-1))
def Ue(d':bL)(r':(List Int)):Option (List Int) :=
 au (abp) λv=>
 chk (jD 8 (ah r') (ah r')) <|
 aO (bZ (λ((v1,aX):Int×List Int)=>
  aA (decide (v1<(ah r')))
   (au (xk v1 1 v d' r') λv2=>
    au (if v2=true then Y6 d' r' v1 else some 0) λv3=>
    au (if v2=true then xk v3 2 v d' r' else some false) λv4=>
    let first:=(if v2=true then v4 else false)
    au (xk v1 2 v d' r') λv5=>
    au (if v5=true then LK d' r' v1 else some 0) λv6=>
    au (if v5=true then xk v6 1 v d' r' else some false) λv7=>
    let second:=(if v5=true then v7 else false)
    aA (if first=true then second else false)
     (none)
     (aA first
      (none)
      (aA second
       (none)
       (chk (0<=v1/\v1<(ah r')) <|
        chk (aU .i64 (v1+1)) <|
        some (.go ((v1+1),(iM aX v1 0)))))))
   (some (.out (.go aX)))) (0,(jX (ah r') 0))) λout=>
 some out
def Y7(d':bL)(r':Int)(which:Int):Option Int :=
 aA (if (decide (which<0))=true then true else (decide (3<which)))
  (none)
  (aO (bZ (λ(v:Int)=>
    aA (decide (v<(ah d'.Yz)))
     (chk (0<=v/\v<(ah d'.Yz)) <|
      aA (!((aB Iq d'.Yz v).fR==r'))
       (chk (aU .i64 (v+1)) <|
        some (.go (v+1)))
       (none))
     (some (.out (.go ())))) 0) λ(_:Unit)=>
   some r')
def PY(d':bL)(r':Int)(level:Int)(boxes:Bool):Option Int :=
 aA (if ((jm .i64 level 1)==0)=true then true else (if (if (decide (9472<=r'))=true then (decide (r'<=9631)) else false)=true then (!boxes) else false))
  (some r')
  (none)
def PZ(d':bL)(r':(List Int))(levels:(List Int))(boxes:Bool):Option (List Int) :=
 au (kH r') λv=>
 aA (!((ah r')==(ah levels)))
  (none)
  (au (Ue d' r') λv1=>
   aO (bZ (λ((v4,aX):Int×List Int)=>
    aA (decide (v4<(ah r')))
     (aO (aO (chk (0<=v4/\v4<(ah r')) <|
        let x'1:=(aB 0 r' v4)
        chk (0<=v4/\v4<(ah v1)) <|
        au (Y7 d' x'1 (aB 0 v1 (0+v4))) λv6=>
        chk (0<=v4/\v4<(ah v)) <|
        some (.go (iM aX v4 v6))) λnT=>
       chk (0<=v4/\v4<(ah v)) <|
       aA ((aB 0 nT (0+v4))==(aB 0 r' v4))
        (chk (0<=v4/\v4<(ah levels)) <|
         au (PY d' (aB 0 r' v4) (aB 0 levels v4) boxes) λv5=>
         chk (0<=v4/\v4<(ah v)) <|
         some (.go (iM nT v4 v5)))
        (some (.go nT))) λl9=>
      chk (aU .i64 (v4+1)) <|
      some (.go ((v4+1),l9)))
     (some (.out (.go aX)))) (0,v)) λout=>
   aO (bZ (λ(v2:Int)=>
    aA (decide (v2<(ah r')))
     (chk (0<=v2/\v2<(ah r')) <|
      let x':=(aB 0 r' v2)
      au (LK d' r' v2) λv3=>
      aA (if (!(x'==1604))=true then true else (decide (v3<0)))
       (chk (aU .i64 (v2+1)) <|
        some (.go (v2+1)))
       (none))
     (some (.out (.go ())))) 0) λ(_:Unit)=>
   some out)
def Y8(d':bL)(l':(List aR))(from':Int)(to:Int)(boxes:Bool):Option nA :=
 chk (0<=from'/\from'<=to/\to<=(ah l')) <|
 au (LJ (kU l' from' to)) λv=>
 chk (0<=from'/\from'<(ah l')) <|
 au (KF d' v (aB aH l' from').dH) λv1=>
 let base:=v1.2
 au (PZ d' v v1.1 boxes) λv2=>
 some (nA.mk from' to v1.1 v2 base)
def P5(c':Int):Option Bool :=
 aO (aO (aA (c'==13)
   (some (.go (c'==13)))
   (aA (c'==10)
    (some (.go (c'==10)))
    (aA (c'==15)
     (some (.go (c'==15)))
     (aA (c'==16)
      (some (.go (c'==16)))
      (aA (c'==17)
       (some (.go (c'==17)))
       (aA (c'==18)
        (some (.go (c'==18)))
        (aA (c'==19)
         (some (.go (c'==19)))
         (aA (c'==20)
          (some (.go (c'==20)))
          (aA (c'==21)
           (some (.go (c'==21)))
           (aA (c'==22)
            (some (.go (c'==22)))
            (some (.go (c'==23))))))))))))) λv=>
  aA v
   (some (.out true))
   (some (.go ()))) λ(_:Unit)=>
 some false
def Uf(d':bL)(r':(List Int))(levels:(List Int))(base:Int):Option (List Int) :=
 au (kH levels) λv=>
 aA (!((ah r')==(ah levels)))
  (none)
  (aO (chk (aU .i64 ((ah r')-1)) <|
    let i:=((ah r')-1)
    bZ (λ((end',i1,aX):Bool×Int×List Int)=>
     aA (decide (0<=i1))
      (chk (0<=i1/\i1<(ah r')) <|
       au (Rf d' (aB 0 r' i1)) λv1=>
       aA (if (v1==11)=true then true else (v1==12))
        (none)
        (au (P5 v1) λv2=>
         aA (!v2)
          (chk (aU .i64 (i1-1)) <|
           let i2:=(i1-1)
           some (.go (false,i2,aX)))
          (aA end'
           (chk (0<=i1/\i1<(ah v)) <|
            chk (aU .i64 (i1-1)) <|
            let i3:=(i1-1)
            some (.go (end',i3,(iM aX i1 base))))
           (chk (aU .i64 (i1-1)) <|
            let i4:=(i1-1)
            some (.go (end',i4,aX))))))
      (some (.out (.go aX)))) (true,i,v)) λout=>
   some out)
def P6(levels:(List Int)):Option (List Int) :=
 chk (jD 8 (ah levels) (ah levels)) <|
 chk (jD 8 (ah levels) (ah levels)) <|
 aO (bZ (λ((ahw,v,iE,aX):Int×Int×List Int×List Int)=>
  aA (decide (v<(ah levels)))
   (chk (0<=v/\v<(ah levels)) <|
    let x':=(aB 0 levels v)
    let x'1:=(aY 0 (aP x' 127))
    chk (0<=v/\v<(ah levels)) <|
    chk (0<=v/\v<(ah levels)) <|
    let awz:=(aY ahw x'1)
    chk ((2:Int)≠0) <|
    aA ((Int.tmod x'1 2)==1)
     (none)
     (chk (aU .i64 (v+1)) <|
      some (.go (awz,(v+1),(iM iE v x'1),(iM aX v v)))))
   (some (.out (.go (ahw,iE,aX))))) (0,0,(jX (ah levels) 0),(jX (ah levels) 0))) λ(most,l',out)=>
 aO (bZ (λ(_:Unit)=>
  aA (decide (128<=most))
   (none)
   (some (.out (.go ())))) ()) λ(_:Unit)=>
 some out
def Ug(levels:(List Int))(widths:(List Int)):Option ((List Int)×Bool) :=
 aA (!((ah levels)==(ah widths)))
  (none)
  (chk (jD 8 (ah widths) (ah widths)) <|
   aO (bZ (λ((n1,v3,UJ):Int×Int×List Int)=>
    aA (decide (v3<(ah widths)))
     (chk (0<=v3/\v3<(ah widths)) <|
      let w:=(aB 0 widths v3)
      aA (if (!(w==1))=true then (!(w==2)) else false)
       (none)
       (chk (0<=v3/\v3<(ah widths)) <|
        chk (aU .i64 (n1+w)) <|
        let n2:=(n1+w)
        chk (aU .i64 (v3+1)) <|
        some (.go (n2,(v3+1),(iM UJ v3 n1)))))
     (some (.out (.go (n1,UJ))))) (0,0,(jX (ah widths) 0))) λ(n,starts)=>
   chk (jD 8 0 n) <|
   aO (au (P6 levels) λv=>
    bZ (λ((v1,aX):Int×List Int)=>
     aA (decide (v1<(ah v)))
      (aO (chk (0<=v1/\v1<(ah v)) <|
        let i:=(aB 0 v (0+v1))
        chk (0<=i/\i<(ah widths)) <|
        bZ (λ((v2,nT):Int×List Int)=>
         aA (decide (v2<(aB 0 widths i)))
          (chk (0<=i/\i<(ah widths)) <|
           chk (aU .i64 ((aB 0 starts (0+i))+v2)) <|
           chk (dY 8 ((ah nT)+1)) <|
           chk (aU .i64 (v2+1)) <|
           some (.go ((v2+1),(nT++([((aB 0 starts (0+i))+v2)]:List Int)))))
          (some (.out (.go nT)))) (0,aX)) λl9=>
       chk (aU .i64 (v1+1)) <|
       some (.go ((v1+1),l9)))
      (some (.out (.go aX)))) (0,(jX 0 0))) λout=>
   some (out,true))
def P7(l':(List Int)):Option ((List Int)×Bool) :=
 chk (jD 8 (ah l') (ah l')) <|
 aO (bZ (λ((v1,nT):Int×List Int)=>
  aA (decide (v1<(ah l')))
   (chk (0<=v1/\v1<(ah l')) <|
    chk (aU .i64 (v1+1)) <|
    some (.go ((v1+1),(iM nT v1 (-1)))))
   (some (.out (.go nT)))) (0,(jX (ah l') 0))) λout=>
 aO (bZ (λ((v,l9):Int×List Int)=>
  aA (decide (v<(ah l')))
   (chk (0<=v/\v<(ah l')) <|
    let x':=(aB 0 l' v)
    chk ((!(if (decide (x'<0))=true then true else (decide ((ah l')<=x'))))=true->0<=x'/\x'<(ah l')) <|
    aA (if (if (decide (x'<0))=true then true else (decide ((ah l')<=x')))=true then true else (decide (0<=(aB 0 l9 (0+x')))))
     (none)
     (chk (0<=x'/\x'<(ah l')) <|
      chk (aU .i64 (v+1)) <|
      some (.go ((v+1),(iM l9 x' v)))))
   (some (.out (.go l9)))) (0,out)) λaX=>
 some (aX,true)
def acd(cells:(List bY))(levels:(List Int))(widths:(List Int))(base:Int):Option oI :=
 au (Ug levels widths) λv=>
 au (P7 v.1) λv1=>
 chk (jD 56 (ah v.1) (ah v.1)) <|
 aO (bZ (λ((v2,o1):Int×List bY)=>
  aA (decide (v2<(ah v.1)))
   (chk (0<=v2/\v2<(ah v.1)) <|
    let at':=(aB 0 v.1 v2)
    chk (0<=at'/\at'<(ah cells)) <|
    chk (0<=v2/\v2<(ah v.1)) <|
    chk (aU .i64 (v2+1)) <|
    some (.go ((v2+1),(iM o1 v2 (aB bq cells at')))))
   (some (.out (.go o1)))) (0,(jX (ah v.1) bq))) λo=>
 some (oI.mk v.1 v1.1 o base)
def ace(d':bL)(l':(List aR))(y':Int)(p':nA):Option oI :=
 chk (0<=p'.ahn/\p'.ahn<=y'/\y'<=(ah l')) <|
 au (LJ (kU l' p'.ahn y')) λv=>
 let start:=(ah v)
 chk (0<=y'/\y'<(ah l')) <|
 au (I9 (aB aH l' y')) λv1=>
 chk (aU .i64 (start+(ah v1.1))) <|
 chk (0<=start/\start<=(start+(ah v1.1))/\(start+(ah v1.1))<=(ah p'.aat)) <|
 au (Uf d' v1.1 (kU p'.aat start (start+(ah v1.1))) p'.Oh) λv2=>
 chk (0<=y'/\y'<(ah l')) <|
 chk (jD 56 (ah (aB aH l' y').aN) (ah (aB aH l' y').aN)) <|
 aO (chk (0<=y'/\y'<(ah l')) <|
  bZ (λ((n,v4,P8):Int×Int×List bY)=>
   aA (decide (v4<(ah (aB aH l' y').aN)))
    (chk (0<=v4/\v4<(ah (aB aH l' y').aN)) <|
     aA (!((aB bq (aB aH l' y').aN v4).fW==0))
      (aA (!((aB bq (aB aH l' y').aN v4).fR==0))
       (chk (0<=n/\n<(ah p'.aau)) <|
        chk (aU .i64 (n+1)) <|
        let n1:=(n+1)
        chk (0<=v4/\v4<(ah (aB aH l' y').aN)) <|
        chk (aU .i64 (v4+1)) <|
        some (.go (n1,(v4+1),(iM P8 v4 (bY.mk (aB 0 p'.aau n) (aB bq (aB aH l' y').aN v4).fM (aB bq (aB aH l' y').aN v4).fW (aB bq (aB aH l' y').aN v4).bB)))))
       (chk (aU .i64 (n+1)) <|
        let n2:=(n+1)
        chk (0<=v4/\v4<(ah (aB aH l' y').aN)) <|
        chk (aU .i64 (v4+1)) <|
        some (.go (n2,(v4+1),(iM P8 v4 (aB bq (aB aH l' y').aN v4))))))
      (chk (0<=v4/\v4<(ah (aB aH l' y').aN)) <|
       chk (aU .i64 (v4+1)) <|
       some (.go (n,(v4+1),(iM P8 v4 (aB bq (aB aH l' y').aN v4))))))
    (some (.out (.go P8)))) (start,0,(jX (ah (aB aH l' y').aN) bq))) λcells=>
 au (acd cells v2 v1.2 p'.Oh) λv3=>
 some v3
def acf(d':bL)(l':(List aR))(y':Int)(boxes:Bool):Option (oI×Bool) :=
 au (if (!(if (decide (y'<0))=true then true else (decide ((ah l')<=y'))))=true then YX l' else some false) λv=>
 aA (if (if (decide (y'<0))=true then true else (decide ((ah l')<=y')))=true then true else (!v))
  (none)
  (chk (0<=y'/\y'<(ah l')) <|
   aA (aB aH l' y').bA
    (none)
    (au (VR l' y') λv1=>
     let from':=v1.1
     let to:=v1.2
     au (Y8 d' l' from' to boxes) λv2=>
     au (ace d' l' y' v2) λv3=>
     some (v3,true)))
def Y9(t':bF)(d':bL):Option (oI×Int×Bool) :=
 au (eH t'.fS) λv=>
 chk (aU .i64 (v.fC.fY+t'.iF)) <|
 let y':=(v.fC.fY+t'.iF)
 au (YW t') λv1=>
 au (Wv t') λv2=>
 au (acf d' v1 y' v2) λv3=>
 let ok:=v3.2
 some (v3.1,y',ok)
def P9(s:ay):Option (ay×(List Int)) :=
 au (rR s) λv=>
 aA (!v)
  (none)
  (some ((ay.mk s.aI s.aM s.jA s.fM s.aC ([]:List Int) s.fO s.fZ),s.iL))
def afj(t':bF)(d':bL)(a:oO):Option (bF×(List Int)) :=
 au (nY t') λv=>
 aA (!v)
  (none)
  (au (eH t'.fS) λv1=>
   au (YV a) λv2=>
   au (nZ t' d' v2.fb) λv3=>
   au (P9 v3.fS) λv4=>
   chk (dY 1 (ah v4.2)) <|
   chk (dY 1 ((ah v4.2)+0)) <|
   some ((bF.mk v3.fU v3.fP v4.1 v3.iF),(v4.2++([]:List Int))))
def acg(h':Int)(w:Int)(kept:Int)(d':bL)(l':(List oO)):Option (bF×(List Int)) :=
 au (yC h' w kept) λv=>
 aO (bZ (λ((v1,t'3,aX):Int×bF×List Int)=>
  aA (decide (v1<(ah l')))
   (chk (0<=v1/\v1<(ah l')) <|
    au (afj t'3 d' (aB VU l' v1)) λv2=>
    chk (dY 1 ((ah aX)+(ah v2.2))) <|
    chk (aU .i64 (v1+1)) <|
    some (.go ((v1+1),v2.1,(aX++v2.2))))
   (some (.out (.go (t'3,aX))))) (0,v,([]:List Int))) λ(FT,out)=>
 some (FT,out)
def WE(l':(List Int))(at':Int):Option Int :=
 aA ((ah l')==0)
  (none)
  (chk (aU .i64 ((ah l')-1)) <|
   chk (0<=(aY 0 (aP at' ((ah l')-1)))/\(aY 0 (aP at' ((ah l')-1)))<(ah l')) <|
   some (aB 0 l' (aY 0 (aP at' ((ah l')-1)))))
def Uh(x':oI)(at':Int):Option Int :=
 au (WE x'.apg at') λv=>
 some v
def Uj(t':bF)(d':bL):Option (Int×Int×Bool) :=
 au (nY t') λv=>
 au (if (!(!v))=true then qV t'.fS.fM true 25 else some false) λv1=>
 aA (if (!v)=true then true else (!v1))
  (none)
  (au (Y9 t' d') λv2=>
   let y':=v2.2.1;let ok:=v2.2.2
   aA (!ok)
    (none)
    (au (eH t'.fS) λv3=>
     au (Uh v2.1 v3.fC.fX) λv4=>
     some (y',v4,true)))
def nG  : Option Bool :=
 au (Az) λv=>
 au (acg 3 9 5 v ([(oO.mk 0 0 0 0 0 ([97]:List Int) Gf),(oO.mk 0 0 0 0 0 ([27,91,54,110]:List Int) Gf)]:List oO)) λv1=>
 au (Az) λv=>
 au (Uj v1.1 v) λv2=>
 let y':=v2.1;let x':=v2.2.1;let ok:=v2.2.2
 au (if (if (if (if (ng (Aa v1.2) (⟨#[27,91,49,59,50,82]⟩:ByteArray))=true then ok else false)=true then (y'==0) else false)=true then (x'==1) else false)=true then nY v1.1 else some false) λv3=>
 some (if (if (if (if (ng (Aa v1.2) (⟨#[27,91,49,59,50,82]⟩:ByteArray))=true then ok else false)=true then (y'==0) else false)=true then (x'==1) else false)=true then v3 else false)
def tH(c':aD):Option iq :=
 some (iq.mk c'.fX c'.fY c'.dz c'.bO c'.bB (l6.mk c'.aF.fG c'.aF.jF c'.aF.jk c'.aF.eO))
def rA(s:av):Option dZ :=
 au (tH s.fC) λv=>
 some (dZ.mk (mR.mk s.fG.aK) v (lJ.mk s.fR.fH s.fR.fW s.fR.gJ s.fR.dw) (iZ.mk s.fT.fL s.fT.fW) (jJ.mk s.fK.aK s.fK.iw) s.dH s.bA)
def AB(s:ay):Option gV :=
 au (rA s.aI) λv=>
 au (rA s.aM) λv1=>
 au (tH s.aC.x0) λv2=>
 au (tH s.aC.x1) λv3=>
 some (gV.mk v v1 s.jA (l7.mk s.fM.qh) (jM.mk v2 v3) s.iL s.fO s.fZ)
def iK(t':bF):Option fI :=
 au (AB t'.fS) λv=>
 some (fI.mk (l8.mk t'.fU.fB) (jw.mk t'.fP.lu t'.fP.dS t'.fP.oN (mU.mk t'.fP.cO.fL t'.fP.cO.fOpen) t'.fP.fText t'.fP.nX) v t'.iF)
def uN(a:(List (List Int)))(b:(List (List Int))):Option Bool :=
 aA (!((ah a)==(ah b)))
  (some false)
  (aO (bZ (λ(i:Int)=>
    aA (decide (i<(ah a)))
     (aO (chk (0<=i/\i<(ah a)) <|
       chk (0<=i/\i<(ah b)) <|
       aA (!((ah (aB [] a i))==(ah (aB [] b i))))
        (some (.out (.out (.out false))))
        (bZ (λ(k':Int)=>
         chk (0<=i/\i<(ah a)) <|
         aA (decide (k'<(ah (aB [] a i))))
          (chk (0<=i/\i<(ah a)) <|
           chk (0<=k'/\k'<(ah (aB [] a i))) <|
           chk (0<=i/\i<(ah b)) <|
           chk (0<=k'/\k'<(ah (aB [] b i))) <|
           aA (!((aB 0 (aB [] a i) k')==(aB 0 (aB [] b i) k')))
            (some (.out (.out (.out (.out false)))))
            (chk (aU .i64 (k'+1)) <|
             let Hy:=(k'+1)
             some (.go Hy)))
          (some (.out (.go ())))) 0)) λ(_:Unit)=>
      chk (aU .i64 (i+1)) <|
      let i1:=(i+1)
      some (.go i1))
     (some (.out (.go ())))) 0) λ(_:Unit)=>
   some true)
def yS(a:jw)(b:jw):Option Bool :=
 au (if (if (if (if (a.lu==b.lu)=true then (ng a.dS b.dS) else false)=true then (a.oN==b.oN) else false)=true then (a.cO.fOpen==b.cO.fOpen) else false)=true then uN a.cO.fL b.cO.fL else some false) λv=>
 some (if (if (if (if (if (if (a.lu==b.lu)=true then (ng a.dS b.dS) else false)=true then (a.oN==b.oN) else false)=true then (a.cO.fOpen==b.cO.fOpen) else false)=true then v else false)=true then (ng a.fText b.fText) else false)=true then (a.nX==b.nX) else false)
def sO(a:(List bY))(b:(List bY)):Option Bool :=
 aA (!((ah a)==(ah b)))
  (some false)
  (aO (bZ (λ(i:Int)=>
    aA (decide (i<(ah a)))
     (chk (0<=i/\i<(ah a)) <|
      chk (0<=i/\i<(ah b)) <|
      aA (!(((aB bq a i).fR==(aB bq b i).fR)&&(((aB bq a i).fM.x0==(aB bq b i).fM.x0)&&(((aB bq a i).fM.x1==(aB bq b i).fM.x1)&&(((aB bq a i).fW==(aB bq b i).fW)&&(((aB bq a i).bB.jy==(aB bq b i).bB.jy)&&(((aB bq a i).bB.jq==(aB bq b i).bB.jq)&&(((aB bq a i).bB.dI==(aB bq b i).bB.dI)&&true))))))))
       (some (.out (.out false)))
       (chk (aU .i64 (i+1)) <|
        let i1:=(i+1)
        some (.go i1)))
     (some (.out (.go ())))) 0) λ(_:Unit)=>
   some true)
def uL(a:aR)(b:aR):Option Bool :=
 au (sO a.aN b.aN) λv=>
 some (if (if (if v=true then (a.dz==b.dz) else false)=true then (a.dH==b.dH) else false)=true then (a.bA==b.bA) else false)
def qK(a:(List aR))(b:(List aR)):Option Bool :=
 aA (!((ah a)==(ah b)))
  (some false)
  (aO (bZ (λ(i:Int)=>
    aA (decide (i<(ah a)))
     (chk (0<=i/\i<(ah a)) <|
      chk (0<=i/\i<(ah b)) <|
      au (uL (aB aH a i) (aB aH b i)) λv=>
      aA (!v)
       (some (.out (.out false)))
       (chk (aU .i64 (i+1)) <|
        let i1:=(i+1)
        some (.go i1)))
     (some (.out (.go ())))) 0) λ(_:Unit)=>
   some true)
def uM(a:iZ)(b:iZ):Option Bool :=
 aA (if (!((ah a.fL)==(ah b.fL)))=true then true else (!(a.fW==b.fW)))
  (some false)
  (aO (bZ (λ(i:Int)=>
    aA (decide (i<(ah a.fL)))
     (chk (0<=i/\i<(ah a.fL)) <|
      chk (0<=i/\i<(ah b.fL)) <|
      aA (!((aB 0 a.fL i)==(aB 0 b.fL i)))
       (some (.out (.out false)))
       (chk (aU .i64 (i+1)) <|
        let i1:=(i+1)
        some (.go i1)))
     (some (.out (.go ())))) 0) λ(_:Unit)=>
   some true)
def yR(a:jJ)(b:jJ):Option Bool :=
 au (if (a.iw==b.iw)=true then qK a.aK b.aK else some false) λv=>
 some (if (a.iw==b.iw)=true then v else false)
def qL(a:dZ)(b:dZ):Option Bool :=
 au (qK a.fG.aK b.fG.aK) λv=>
 au (if (if (if v=true then ((a.fC.fX==b.fC.fX)&&((a.fC.fY==b.fC.fY)&&((a.fC.dz==b.fC.dz)&&((a.fC.bO==b.fC.bO)&&((a.fC.bB.jy==b.fC.bB.jy)&&((a.fC.bB.jq==b.fC.bB.jq)&&((a.fC.bB.dI==b.fC.bB.dI)&&((a.fC.aF.fG.x0==b.fC.aF.fG.x0)&&((a.fC.aF.fG.x1==b.fC.aF.fG.x1)&&((a.fC.aF.fG.x2==b.fC.aF.fG.x2)&&((a.fC.aF.fG.x3==b.fC.aF.fG.x3)&&((a.fC.aF.jF==b.fC.aF.jF)&&((a.fC.aF.jk==b.fC.aF.jk)&&((a.fC.aF.eO==b.fC.aF.eO)&&true)))))))))))))) else false)=true then ((a.fR.fH==b.fR.fH)&&((a.fR.fW==b.fR.fW)&&((a.fR.gJ==b.fR.gJ)&&((a.fR.dw==b.fR.dw)&&true)))) else false)=true then uM a.fT b.fT else some false) λv1=>
 au (if (if (if (if v=true then ((a.fC.fX==b.fC.fX)&&((a.fC.fY==b.fC.fY)&&((a.fC.dz==b.fC.dz)&&((a.fC.bO==b.fC.bO)&&((a.fC.bB.jy==b.fC.bB.jy)&&((a.fC.bB.jq==b.fC.bB.jq)&&((a.fC.bB.dI==b.fC.bB.dI)&&((a.fC.aF.fG.x0==b.fC.aF.fG.x0)&&((a.fC.aF.fG.x1==b.fC.aF.fG.x1)&&((a.fC.aF.fG.x2==b.fC.aF.fG.x2)&&((a.fC.aF.fG.x3==b.fC.aF.fG.x3)&&((a.fC.aF.jF==b.fC.aF.jF)&&((a.fC.aF.jk==b.fC.aF.jk)&&((a.fC.aF.eO==b.fC.aF.eO)&&true)))))))))))))) else false)=true then ((a.fR.fH==b.fR.fH)&&((a.fR.fW==b.fR.fW)&&((a.fR.gJ==b.fR.gJ)&&((a.fR.dw==b.fR.dw)&&true)))) else false)=true then v1 else false)=true then yR a.fK b.fK else some false) λv2=>
 some (if (if (if (if (if (if v=true then ((a.fC.fX==b.fC.fX)&&((a.fC.fY==b.fC.fY)&&((a.fC.dz==b.fC.dz)&&((a.fC.bO==b.fC.bO)&&((a.fC.bB.jy==b.fC.bB.jy)&&((a.fC.bB.jq==b.fC.bB.jq)&&((a.fC.bB.dI==b.fC.bB.dI)&&((a.fC.aF.fG.x0==b.fC.aF.fG.x0)&&((a.fC.aF.fG.x1==b.fC.aF.fG.x1)&&((a.fC.aF.fG.x2==b.fC.aF.fG.x2)&&((a.fC.aF.fG.x3==b.fC.aF.fG.x3)&&((a.fC.aF.jF==b.fC.aF.jF)&&((a.fC.aF.jk==b.fC.aF.jk)&&((a.fC.aF.eO==b.fC.aF.eO)&&true)))))))))))))) else false)=true then ((a.fR.fH==b.fR.fH)&&((a.fR.fW==b.fR.fW)&&((a.fR.gJ==b.fR.gJ)&&((a.fR.dw==b.fR.dw)&&true)))) else false)=true then v1 else false)=true then v2 else false)=true then (a.dH==b.dH) else false)=true then (a.bA==b.bA) else false)
def yT(a:gV)(b:gV):Option Bool :=
 au (qL a.aI b.aI) λv=>
 au (if v=true then qL a.aM b.aM else some false) λv1=>
 some (if (if (if (if (if (if (if v=true then v1 else false)=true then (a.jA==b.jA) else false)=true then ((a.fM.qh==b.fM.qh)&&true) else false)=true then ((a.aC.x0.fX==b.aC.x0.fX)&&((a.aC.x0.fY==b.aC.x0.fY)&&((a.aC.x0.dz==b.aC.x0.dz)&&((a.aC.x0.bO==b.aC.x0.bO)&&((a.aC.x0.bB.jy==b.aC.x0.bB.jy)&&((a.aC.x0.bB.jq==b.aC.x0.bB.jq)&&((a.aC.x0.bB.dI==b.aC.x0.bB.dI)&&((a.aC.x0.aF.fG.x0==b.aC.x0.aF.fG.x0)&&((a.aC.x0.aF.fG.x1==b.aC.x0.aF.fG.x1)&&((a.aC.x0.aF.fG.x2==b.aC.x0.aF.fG.x2)&&((a.aC.x0.aF.fG.x3==b.aC.x0.aF.fG.x3)&&((a.aC.x0.aF.jF==b.aC.x0.aF.jF)&&((a.aC.x0.aF.jk==b.aC.x0.aF.jk)&&((a.aC.x0.aF.eO==b.aC.x0.aF.eO)&&((a.aC.x1.fX==b.aC.x1.fX)&&((a.aC.x1.fY==b.aC.x1.fY)&&((a.aC.x1.dz==b.aC.x1.dz)&&((a.aC.x1.bO==b.aC.x1.bO)&&((a.aC.x1.bB.jy==b.aC.x1.bB.jy)&&((a.aC.x1.bB.jq==b.aC.x1.bB.jq)&&((a.aC.x1.bB.dI==b.aC.x1.bB.dI)&&((a.aC.x1.aF.fG.x0==b.aC.x1.aF.fG.x0)&&((a.aC.x1.aF.fG.x1==b.aC.x1.aF.fG.x1)&&((a.aC.x1.aF.fG.x2==b.aC.x1.aF.fG.x2)&&((a.aC.x1.aF.fG.x3==b.aC.x1.aF.fG.x3)&&((a.aC.x1.aF.jF==b.aC.x1.aF.jF)&&((a.aC.x1.aF.jk==b.aC.x1.aF.jk)&&((a.aC.x1.aF.eO==b.aC.x1.aF.eO)&&true)))))))))))))))))))))))))))) else false)=true then (ng (Aa a.iL) (Aa b.iL)) else false)=true then (ng a.fO b.fO) else false)=true then (a.fZ==b.fZ) else false)
def lF(a:fI)(b:fI):Option Bool :=
 au (if (ng (Aa a.fU.fB) (Aa b.fU.fB))=true then yS a.fP b.fP else some false) λv=>
 au (if (if (ng (Aa a.fU.fB) (Aa b.fU.fB))=true then v else false)=true then yT a.fS b.fS else some false) λv1=>
 some (if (if (if (ng (Aa a.fU.fB) (Aa b.fU.fB))=true then v else false)=true then v1 else false)=true then (a.iF==b.iF) else false)
def tZ(h':Int)(w:Int)(b:(List Int))(cuts:(List Int)):Option Bool :=
 au (nG) λv=>
 aA (if (decide (400<(ah b)))=true then true else (decide (100<(ah cuts))))
  (some v)
  (au (Az) λv1=>
   chk (aU .i64 (1+(jm .i64 h' 7))) <|
   chk (aU .i64 (1+(jm .i64 w 15))) <|
   au (yC (1+(jm .i64 h' 7)) (1+(jm .i64 w 15)) 20) λv2=>
   au (nZ v2 v1 b) λv3=>
   chk (aU .i64 (1+(jm .i64 h' 7))) <|
   chk (aU .i64 (1+(jm .i64 w 15))) <|
   au (yC (1+(jm .i64 h' 7)) (1+(jm .i64 w 15)) 20) λv2=>
   aO (bZ (λ((kg,i,EW):Int×Int×bF)=>
    aA (decide (i<(ah cuts)))
     (chk (0<=i/\i<(ah cuts)) <|
      chk (aU .i64 ((ah b)-kg)) <|
      let n:=(aP (jm .i64 (aB 0 cuts i) 15) ((ah b)-kg))
      chk (aU .i64 (kg+n)) <|
      chk (0<=kg/\kg<=(kg+n)/\(kg+n)<=(ah b)) <|
      au (nZ EW v1 (kU b kg (kg+n))) λv9=>
      chk (aU .i64 (kg+n)) <|
      let KC:=(kg+n)
      chk (aU .i64 (i+1)) <|
      let i1:=(i+1)
      some (.go (KC,i1,v9)))
     (some (.out (.go (kg,EW))))) (0,0,v2)) λ(at',c')=>
   chk (0<=at'/\at'<=(ah b)/\(ah b)<=(ah b)) <|
   au (nZ c' v1 (kU b at' (ah b))) λv4=>
   au (if v=true then iK v3 else some fJ) λv5=>
   au (if v=true then iK v4 else some fJ) λv6=>
   au (if v=true then lF v5 v6 else some false) λv7=>
   au (if (if v=true then v7 else false)=true then nY v3 else some false) λv8=>
   some (if (if v=true then v7 else false)=true then v8 else false))
def pG(l':(List aR)):Option Bool :=
 aA (decide (20<(ah l')))
  (some false)
  (aO (bZ (λ(i:Int)=>
    aA (decide (i<(ah l')))
     (chk (0<=i/\i<(ah l')) <|
      aA (decide (40<(ah (aB aH l' i).aN)))
       (some (.out (.out false)))
       (chk (aU .i64 (i+1)) <|
        let i1:=(i+1)
        some (.go i1)))
     (some (.out (.go ())))) 0) λ(_:Unit)=>
   some true)
def rD(l':(List aR)):Option Bool :=
 aA (decide (60<(ah l')))
  (some false)
  (aO (bZ (λ(i:Int)=>
    aA (decide (i<(ah l')))
     (chk (0<=i/\i<(ah l')) <|
      aA (decide (100<(ah (aB aH l' i).aN)))
       (some (.out (.out false)))
       (chk (aU .i64 (i+1)) <|
        let i1:=(i+1)
        some (.go i1)))
     (some (.out (.go ())))) 0) λ(_:Unit)=>
   some true)
def rE(s:dZ):Option Bool :=
 au (rD s.fG.aK) λv=>
 au (if v=true then rD s.fK.aK else some false) λv1=>
 some (if (if v=true then v1 else false)=true then (decide ((ah s.fT.fL)<=200)) else false)
def vS(s:gV):Option Bool :=
 au (pG s.aI.fG.aK) λv=>
 au (if v=true then pG s.aM.fG.aK else some false) λv1=>
 au (if (if v=true then v1 else false)=true then rE s.aI else some false) λv2=>
 au (if (if (if v=true then v1 else false)=true then v2 else false)=true then rE s.aM else some false) λv3=>
 some (if (if (if (if (if v=true then v1 else false)=true then v2 else false)=true then v3 else false)=true then (decide ((ah s.iL)<=5000)) else false)=true then (decide ((bn s.fO)<=1100)) else false)
def vR(l':(List (List Int))):Option Bool :=
 aA (decide (30<(ah l')))
  (some false)
  (aO (bZ (λ(i:Int)=>
    aA (decide (i<(ah l')))
     (chk (0<=i/\i<(ah l')) <|
      aA (decide (20<(ah (aB [] l' i))))
       (some (.out (.out false)))
       (chk (aU .i64 (i+1)) <|
        let i1:=(i+1)
        some (.go i1)))
     (some (.out (.go ())))) 0) λ(_:Unit)=>
   some true)
def wB(c':iq):Option aD :=
 some (aD.mk c'.fX c'.fY c'.dz c'.bO c'.bB (bQ.mk c'.aF.fG c'.aF.jF c'.aF.jk c'.aF.eO))
def yV(s:dZ):Option av :=
 au (wB s.fC) λv=>
 some (av.mk (cZ.mk s.fG.aK) v (bG.mk s.fR.fH s.fR.fW s.fR.gJ s.fR.dw) (dJ.mk s.fT.fL s.fT.fW) (gI.mk s.fK.aK s.fK.iw) s.dH s.bA)
def DU(s:gV):Option ay :=
 au (yV s.aI) λv=>
 au (yV s.aM) λv1=>
 au (wB s.aC.x0) λv2=>
 au (wB s.aC.x1) λv3=>
 some (ay.mk v v1 s.jA (eG.mk s.fM.qh) (gQ.mk v2 v3) s.iL s.fO s.fZ)
def qM(t':fI):Option bF :=
 au (DU t'.fS) λv=>
 some (bF.mk (kE.mk t'.fU.fB) (aT.mk t'.fP.lu t'.fP.dS t'.fP.oN (dA.mk t'.fP.cO.fL t'.fP.cO.fOpen) t'.fP.fText t'.fP.nX) v t'.iF)
def rW(t':fI)(b:(List Int)):Option Bool :=
 au (nG) λv=>
 au (vS t'.fS) λv1=>
 au (if (!(if (if (!v1)=true then true else (decide (10<(ah t'.fU.fB))))=true then true else (decide (1100<(bn t'.fP.fText)))))=true then vR t'.fP.cO.fL else some false) λv2=>
 au (if (!(if (if (if (if (!v1)=true then true else (decide (10<(ah t'.fU.fB))))=true then true else (decide (1100<(bn t'.fP.fText))))=true then true else (!v2))=true then true else (decide (400<(ah b)))))=true then qM t' else some yG) λv3=>
 au (if (!(if (if (if (if (!v1)=true then true else (decide (10<(ah t'.fU.fB))))=true then true else (decide (1100<(bn t'.fP.fText))))=true then true else (!v2))=true then true else (decide (400<(ah b)))))=true then nY v3 else some false) λv4=>
 aA (if (if (if (if (if (!v1)=true then true else (decide (10<(ah t'.fU.fB))))=true then true else (decide (1100<(bn t'.fP.fText))))=true then true else (!v2))=true then true else (decide (400<(ah b))))=true then true else (!v4))
  (some v)
  (au (Az) λv5=>
   au (qM t') λv6=>
   au (nZ v6 v5 ([24,27,99]:List Int)) λv7=>
   au (yC t'.fS.aI.fR.fH t'.fS.aI.fR.fW t'.fS.aI.fK.iw) λv8=>
   au (if v=true then iK (bF.mk v7.fU v7.fP (ay.mk v7.fS.aI v7.fS.aM v7.fS.jA v7.fS.fM v7.fS.aC ([]:List Int) v7.fS.fO v7.fS.fZ) v7.iF) else some fJ) λv9=>
   au (if v=true then iK v8 else some fJ) λv10=>
   au (if v=true then lF v9 v10 else some false) λv11=>
   au (if (if v=true then v11 else false)=true then nZ (bF.mk v7.fU v7.fP (ay.mk v7.fS.aI v7.fS.aM v7.fS.jA v7.fS.fM v7.fS.aC ([]:List Int) v7.fS.fO v7.fS.fZ) v7.iF) v5 b else some yG) λv12=>
   au (if (if v=true then v11 else false)=true then iK v12 else some fJ) λv13=>
   au (if (if v=true then v11 else false)=true then nZ v8 v5 b else some yG) λv14=>
   au (if (if v=true then v11 else false)=true then iK v14 else some fJ) λv15=>
   au (if (if v=true then v11 else false)=true then lF v13 v15 else some false) λv16=>
   some (if (if v=true then v11 else false)=true then v16 else false))
def rV(t':fI)(n:Int)(b:(List Int)):Option Bool :=
 au (nG) λv=>
 au (qM t') λv1=>
 au (if (!(if (decide (400<(ah b)))=true then true else (decide (1100<(bn t'.fP.fText)))))=true then nY v1 else some false) λv2=>
 aA (if (if (if (if (if (decide (400<(ah b)))=true then true else (decide (1100<(bn t'.fP.fText))))=true then true else (!v2))=true then true else (decide (20<t'.fS.aI.fR.fH)))=true then true else (decide (40<t'.fS.aI.fR.fW)))=true then true else (decide (60<(ah t'.fS.aI.fK.aK))))
  (some v)
  (au (Az) λv3=>
   au (BS v1 n) λv4=>
   au (nZ v4 v3 b) λv5=>
   au (nZ v1 v3 b) λv6=>
   au (if v=true then iK (bF.mk v4.fU v4.fP v4.fS t'.iF) else some fJ) λv7=>
   au (if v=true then lF v7 t' else some false) λv8=>
   au (if (if v=true then v8 else false)=true then iK (bF.mk v5.fU v5.fP v5.fS 0) else some fJ) λv9=>
   au (if (if v=true then v8 else false)=true then iK (bF.mk v6.fU v6.fP v6.fS 0) else some fJ) λv10=>
   au (if (if v=true then v8 else false)=true then lF v9 v10 else some false) λv11=>
   au (if (if (if v=true then v8 else false)=true then v11 else false)=true then BS v1 0 else some yG) λv12=>
   some (if (if (if v=true then v8 else false)=true then v11 else false)=true then (v12.iF==t'.iF) else false))
end
end Go.Vx
