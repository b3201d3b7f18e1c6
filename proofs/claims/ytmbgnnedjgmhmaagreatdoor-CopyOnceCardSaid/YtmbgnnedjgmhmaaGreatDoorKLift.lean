/- Lifted functions, by program (lift.py). -/
import Derived.Test.YtmbgnnedjgmhmaaGreatDoorVxCut
import Derived.Lib.Bytealg
import Derived.Sort.Defs
import Derived.Shelf.SlSortCmp.Insertion
set_option linter.all false
namespace Go.Vx
structure Xz where
 fstart:Int
 fend:Int
def Xc:Xz:=⟨0,0⟩
instance:Inhabited Xz:=⟨Xc⟩
structure Y7 where
 fLo:Int
 fHi:Int
 fV:Int
def Yd:Y7:=⟨0,0,0⟩
instance:Inhabited Y7:=⟨Yd⟩
structure Z4 where
 fL:(List Y7)
def Z2x:Z4:=⟨[]⟩
instance:Inhabited Z4:=⟨Z2x⟩
structure Yg where
 fA:Int
 fB:Int
def Xs:Yg:=⟨0,0⟩
instance:Inhabited Yg:=⟨Xs⟩
structure X3 where
 fR:Int
 fAt:Int
 fN:Int
def X6:X3:=⟨0,0,0⟩
instance:Inhabited X3:=⟨X6⟩
structure Za where
 fClass:Z4
 fWide:Z4
 fJoin:Z4
 fMirror:(List Yg)
 fBrackets:(List Yg)
 fForms:(List X3)
def d_ucd_Data:Za:=⟨Z2x,Z2x,Z2x,[],[],[]⟩
instance:Inhabited Za:=⟨d_ucd_Data⟩
structure Q1 where
 fFg:Int
 fBg:Int
 fFlags:Int
def Qe:Q1:=⟨0,0,0⟩
instance:Inhabited Q1:=⟨Qe⟩
structure Zw where
 x0:Int
 x1:Int
def Zy:Zw:=⟨0,0⟩
instance:Inhabited Zw:=⟨Zy⟩
structure Zc where
 fR:Int
 fM:Zw
 fW:Int
 fPen:Q1
def Z2:Zc:=⟨0,Zy,0,Qe⟩
instance:Inhabited Zc:=⟨Z2⟩
structure Z5 where
 fCells:(List Zc)
 fWrap:Bool
 fDir:Int
 fExplicit:Bool
def Z3:Z5:=⟨[],false,0,false⟩
instance:Inhabited Z5:=⟨Z3⟩
structure Zi where
 fV2L:(List Int)
 fL2V:(List Int)
 fCells:(List Zc)
 fBase:Int
def Yj:Zi:=⟨[],[],[],0⟩
instance:Inhabited Zi:=⟨Yj⟩
structure Zo where
 fl:(List Int)
def Z9h:Zo:=⟨[]⟩
instance:Inhabited Zo:=⟨Z9h⟩
structure Y6 where
 flevel:Int
 foverride:Int
 fisolate:Bool
def Zr:Y6:=⟨0,0,false⟩
instance:Inhabited Y6:=⟨Zr⟩
structure Z9 where
 fl:(List Y6)
def Z7g:Z9:=⟨[]⟩
instance:Inhabited Z9:=⟨Z7g⟩
structure Zn where
 fLevels:(List Int)
 fClasses:(List Int)
 fRemoved:(List Bool)
def d_embed_Run:Zn:=⟨[],[],[]⟩
instance:Inhabited Zn:=⟨d_embed_Run⟩
structure Z8 where
 fl:(List Int)
 fmatch:(List Int)
 fbase:Int
 frun:Zn
 fopen:Z9
 fisolates:Int
 fembeddings:Int
 fvalid:Int
def d_embed_machine:Z8:=⟨[],[],0,d_embed_Run,Z7g,0,0,0⟩
instance:Inhabited Z8:=⟨d_embed_machine⟩
structure Zs where
 fl:(List Int)
 fsos:Int
def d_weak_text:Zs:=⟨[],0⟩
instance:Inhabited Zs:=⟨d_weak_text⟩
structure Yp where
 fl:(List Int)
 fwas:(List Int)
 fsos:Int
 feos:Int
 fdir:Int
 fagainst:Int
 fpairs:(List Zw)
def d_weak_line:Yp:=⟨[],[],0,0,0,0,[]⟩
instance:Inhabited Yp:=⟨d_weak_line⟩
structure Yh where
 ffrom:Int
 fto:Int
 flevels:(List Int)
 fglyphs:(List Int)
 fbase:Int
def d_view_paragraph:Yh:=⟨0,0,[],[],0⟩
instance:Inhabited Yh:=⟨d_view_paragraph⟩
structure Yi where
 fl:(List Int)
 fmost:Int
def d_copy_sheet:Yi:=⟨[],0⟩
instance:Inhabited Yi:=⟨d_copy_sheet⟩
structure Z5w where
def d_copy_full:Z5w:=⟨⟩
instance:Inhabited Z5w:=⟨d_copy_full⟩
structure Zu where
 fY:Int
 fX:Int
def Z01:Zu:=⟨0,0⟩
instance:Inhabited Zu:=⟨Z01⟩
structure Z02 where
 fY:Int
 fX:Int
def Z7v:Z02:=⟨0,0⟩
instance:Inhabited Z02:=⟨Z7v⟩
structure Yb where
 fRows:(List Z5)
def Z8u:Yb:=⟨[]⟩
instance:Inhabited Yb:=⟨Z8u⟩
def kS0:ByteArray:=(⟨#[76,32,82,32,65,76,32,69,78,32,69,83,32,69,84,32,65,78,32,67,83,32,78,83,77,32,66,78,32,66,32,83,32,87,83,32,79,78,32,76,82,69,32,76,82,79,32,82,76,69,32,82,76,79,32,80,68,70,32,76,82,73,32,82,76,73,32,70,83,73,32,80,68,73]⟩:ByteArray)
def kS1:ByteArray:=(⟨#[48,45,56,32,66,78,44,32,57,32,83,44,32,65,32,66,44,32,66,32,83,44,32,67,32,87,83,44,32,68,32,66,44,32,69,45,49,66,32,66,78,44,32,49,67,45,49,69,32,66,44,32,49,70,32,83,44,32,50,48,32,87,83,44,10,50,49,45,50,50,32,79,78,44,32,50,51,45,50,53,32,69,84,44,32,50,54,45,50,65,32,79,78,44,32,50,66,32,69,83,44,32,50,67,32,67,83,44,32,50,68,32,69,83,44,32,50,69,45,50,70,32,67,83,44,32,51,48,45,51,57,32,69,78,44,32,51,65,32,67,83,44,32,51,66,45,52,48,32,79,78,44,10,53,66,45,54,48,32,79,78,44,32,55,66,45,55,69,32,79,78,44,32,55,70,45,56,52,32,66,78,44,32,56,53,32,66,44,32,56,54,45,57,70,32,66,78,44,32,65,48,32,67,83,44,32,65,49,32,79,78,44,32,65,50,45,65,53,32,69,84,44,32,65,54,45,65,57,32,79,78,44,32,65,66,45,65,67,32,79,78,44,10,65,68,32,66,78,44,32,65,69,45,65,70,32,79,78,44,32,66,48,45,66,49,32,69,84,44,32,66,50,45,66,51,32,69,78,44,32,66,52,32,79,78,44,32,66,54,45,66,56,32,79,78,44,32,66,57,32,69,78,44,32,66,66,45,66,70,32,79,78,44,32,68,55,32,79,78,44,32,70,55,32,79,78,44,10,51,48,48,45,51,54,70,32,78,83,77,44,32,53,57,48,32,82,44,32,53,57,49,45,53,66,68,32,78,83,77,44,32,53,66,69,32,82,44,32,53,66,70,32,78,83,77,44,32,53,67,48,32,82,44,32,53,67,49,45,53,67,50,32,78,83,77,44,32,53,67,51,32,82,44,32,53,67,52,45,53,67,53,32,78,83,77,44,32,53,67,54,32,82,44,10,53,67,55,32,78,83,77,44,32,53,67,56,45,53,70,70,32,82,44,32,54,48,48,45,54,48,53,32,65,78,44,32,54,48,54,45,54,48,55,32,79,78,44,32,54,48,56,32,65,76,44,32,54,48,57,45,54,48,65,32,69,84,44,32,54,48,66,32,65,76,44,32,54,48,67,32,67,83,44,32,54,48,68,32,65,76,44,32,54,48,69,45,54,48,70,32,79,78,44,10,54,49,48,45,54,49,65,32,78,83,77,44,32,54,49,66,45,54,52,65,32,65,76,44,32,54,52,66,45,54,53,70,32,78,83,77,44,32,54,54,48,45,54,54,57,32,65,78,44,32,54,54,65,32,69,84,44,32,54,54,66,45,54,54,67,32,65,78,44,32,54,54,68,45,54,54,70,32,65,76,44,32,54,55,48,32,78,83,77,44,32,54,55,49,45,54,68,53,32,65,76,44,32,54,68,54,45,54,68,67,32,78,83,77,44,10,54,68,68,32,65,78,44,32,54,68,69,32,79,78,44,32,54,68,70,45,54,69,52,32,78,83,77,44,32,54,69,53,45,54,69,54,32,65,76,44,32,54,69,55,45,54,69,56,32,78,83,77,44,32,54,69,57,32,79,78,44,32,54,69,65,45,54,69,68,32,78,83,77,44,32,54,69,69,45,54,69,70,32,65,76,44,32,54,70,48,45,54,70,57,32,69,78,44,32,54,70,65,45,54,70,70,32,65,76,44,10,50,48,48,48,45,50,48,48,65,32,87,83,44,32,50,48,48,66,45,50,48,48,68,32,66,78,44,32,50,48,48,70,32,82,44,32,50,48,49,48,45,50,48,50,55,32,79,78,44,32,50,48,50,56,32,87,83,44,32,50,48,50,57,32,66,44,32,50,48,50,65,32,76,82,69,44,32,50,48,50,66,32,82,76,69,44,32,50,48,50,67,32,80,68,70,44,32,50,48,50,68,32,76,82,79,44,10,50,48,50,69,32,82,76,79,44,32,50,48,50,70,32,67,83,44,32,50,48,51,48,45,50,48,51,52,32,69,84,44,32,50,48,51,53,45,50,48,52,51,32,79,78,44,32,50,48,52,52,32,67,83,44,32,50,48,52,53,45,50,48,53,69,32,79,78,44,32,50,48,53,70,32,87,83,44,32,50,48,54,48,45,50,48,54,53,32,66,78,44,32,50,48,54,54,32,76,82,73,44,32,50,48,54,55,32,82,76,73,44,10,50,48,54,56,32,70,83,73,44,32,50,48,54,57,32,80,68,73,44,32,50,48,54,65,45,50,48,54,70,32,66,78,44,32,50,49,57,48,45,50,50,49,49,32,79,78,44,32,50,50,49,50,32,69,83,44,32,50,50,49,51,32,69,84,44,32,50,50,49,52,45,50,51,51,53,32,79,78,44,32,50,53,48,48,45,50,53,57,70,32,79,78,44,32,51,48,48,48,32,87,83,44,32,51,48,48,49,45,51,48,48,52,32,79,78,44,10,51,48,48,56,45,51,48,50,48,32,79,78,44,32,70,66,49,68,32,82,44,32,70,66,49,69,32,78,83,77,44,32,70,66,49,70,45,70,66,50,56,32,82,44,32,70,66,50,57,32,69,83,44,32,70,66,50,65,45,70,66,52,70,32,82,44,32,70,66,53,48,45,70,68,67,70,32,65,76,44,32,70,69,55,48,45,70,69,70,69,32,65,76,44,32,70,69,70,70,32,66,78,44,32,70,70,70,57,45,70,70,70,68,32,79,78]⟩:ByteArray)
def kS2:ByteArray:=(⟨#[51,48,48,45,51,54,70,32,48,44,32,53,57,49,45,53,66,68,32,48,44,32,53,66,70,32,48,44,32,53,67,49,45,53,67,50,32,48,44,32,53,67,52,45,53,67,53,32,48,44,32,53,67,55,32,48,44,32,54,49,48,45,54,49,65,32,48,44,32,54,52,66,45,54,53,70,32,48,44,32,54,55,48,32,48,44,32,54,68,54,45,54,68,67,32,48,44,10,54,68,70,45,54,69,52,32,48,44,32,54,69,55,45,54,69,56,32,48,44,32,54,69,65,45,54,69,68,32,48,44,32,49,49,48,48,45,49,49,53,70,32,50,44,32,50,48,48,66,45,50,48,48,70,32,48,44,32,50,48,50,65,45,50,48,50,69,32,48,44,32,50,48,54,48,45,50,48,54,70,32,48,44,32,50,69,56,48,45,51,48,51,69,32,50,44,32,51,48,52,49,45,65,52,67,70,32,50,44,32,65,67,48,48,45,68,55,65,51,32,50,44,10,70,57,48,48,45,70,65,70,70,32,50,44,32,70,66,49,69,32,48,44,32,70,69,51,48,45,70,69,54,70,32,50,44,32,70,69,70,70,32,48,44,32,70,70,48,48,45,70,70,54,48,32,50,44,32,70,70,69,48,45,70,70,69,54,32,50,44,32,49,70,51,48,48,45,49,70,54,52,70,32,50,44,32,49,70,57,48,48,45,49,70,57,70,70,32,50,44,32,50,48,48,48,48,45,51,70,70,70,68,32,50]⟩:ByteArray)
def kS3:ByteArray:=(⟨#[51,48,48,45,51,54,70,32,84,44,32,53,57,49,45,53,66,68,32,84,44,32,53,66,70,32,84,44,32,53,67,49,45,53,67,50,32,84,44,32,53,67,52,45,53,67,53,32,84,44,32,53,67,55,32,84,44,32,54,49,48,45,54,49,65,32,84,44,32,54,50,48,32,68,44,32,54,50,50,45,54,50,53,32,82,44,32,54,50,54,32,68,44,10,54,50,55,32,82,44,32,54,50,56,32,68,44,32,54,50,57,32,82,44,32,54,50,65,45,54,50,69,32,68,44,32,54,50,70,45,54,51,50,32,82,44,32,54,51,51,45,54,51,70,32,68,44,32,54,52,48,32,67,44,32,54,52,49,45,54,52,55,32,68,44,32,54,52,56,45,54,52,57,32,82,44,32,54,52,65,32,68,44,10,54,52,66,45,54,53,70,32,84,44,32,54,54,69,45,54,54,70,32,68,44,32,54,55,48,32,84,44,32,54,55,49,45,54,55,51,32,82,44,32,54,55,53,45,54,55,55,32,82,44,32,54,55,56,45,54,56,55,32,68,44,32,54,56,56,45,54,57,57,32,82,44,32,54,57,65,45,54,66,70,32,68,44,32,54,67,48,32,82,44,32,54,67,49,45,54,67,50,32,68,44,10,54,67,51,45,54,67,66,32,82,44,32,54,67,67,32,68,44,32,54,67,68,32,82,44,32,54,67,69,32,68,44,32,54,67,70,32,82,44,32,54,68,48,45,54,68,49,32,68,44,32,54,68,50,45,54,68,51,32,82,44,32,54,68,53,32,82,44,32,54,68,54,45,54,68,67,32,84,44,32,54,68,70,45,54,69,52,32,84,44,10,54,69,55,45,54,69,56,32,84,44,32,54,69,65,45,54,69,68,32,84,44,32,54,69,69,45,54,69,70,32,82,44,32,54,70,65,45,54,70,67,32,68,44,32,54,70,70,32,68,44,32,50,48,48,66,32,84,44,32,50,48,48,68,32,67,44,32,70,66,49,69,32,84]⟩:ByteArray)
def kS4:ByteArray:=(⟨#[50,56,32,50,57,44,32,51,67,32,51,69,44,32,53,66,32,53,68,44,32,55,66,32,55,68,44,32,65,66,32,66,66,44,32,50,48,51,57,32,50,48,51,65,44,32,50,50,48,56,32,50,50,48,66,44,32,50,50,54,52,32,50,50,54,53,44,32,51,48,48,56,32,51,48,48,57,44,32,51,48,48,65,32,51,48,48,66,44,32,51,48,48,67,32,51,48,48,68,44,32,51,48,48,69,32,51,48,48,70,44,10,51,48,49,48,32,51,48,49,49,44,32,50,53,48,67,32,50,53,49,48,44,32,50,53,48,70,32,50,53,49,51,44,32,50,53,49,52,32,50,53,49,56,44,32,50,53,49,55,32,50,53,49,66,44,32,50,53,49,67,32,50,53,50,52,44,32,50,53,50,51,32,50,53,50,66,44,32,50,53,53,52,32,50,53,53,55,44,32,50,53,53,65,32,50,53,53,68,44,32,50,53,54,48,32,50,53,54,51,44,32,50,53,54,68,32,50,53,54,69,44,32,50,53,55,48,32,50,53,54,70,44,10,50,53,55,49,32,50,53,55,50,44,32,50,53,55,52,32,50,53,55,54,44,32,50,53,56,67,32,50,53,57,48]⟩:ByteArray)
def kS5:ByteArray:=(⟨#[50,56,32,50,57,44,32,53,66,32,53,68,44,32,55,66,32,55,68,44,32,51,48,48,56,32,51,48,48,57,44,32,51,48,48,65,32,51,48,48,66,44,32,51,48,48,67,32,51,48,48,68,44,32,51,48,48,69,32,51,48,48,70,44,32,51,48,49,48,32,51,48,49,49]⟩:ByteArray)
def kS6:ByteArray:=(⟨#[54,50,49,32,70,69,56,48,32,49,44,32,54,50,50,32,70,69,56,49,32,50,44,32,54,50,51,32,70,69,56,51,32,50,44,32,54,50,52,32,70,69,56,53,32,50,44,32,54,50,53,32,70,69,56,55,32,50,44,32,54,50,54,32,70,69,56,57,32,52,44,32,54,50,55,32,70,69,56,68,32,50,44,32,54,50,56,32,70,69,56,70,32,52,44,32,54,50,57,32,70,69,57,51,32,50,44,32,54,50,65,32,70,69,57,53,32,52,44,10,54,50,66,32,70,69,57,57,32,52,44,32,54,50,67,32,70,69,57,68,32,52,44,32,54,50,68,32,70,69,65,49,32,52,44,32,54,50,69,32,70,69,65,53,32,52,44,32,54,50,70,32,70,69,65,57,32,50,44,32,54,51,48,32,70,69,65,66,32,50,44,32,54,51,49,32,70,69,65,68,32,50,44,32,54,51,50,32,70,69,65,70,32,50,44,32,54,51,51,32,70,69,66,49,32,52,44,32,54,51,52,32,70,69,66,53,32,52,44,10,54,51,53,32,70,69,66,57,32,52,44,32,54,51,54,32,70,69,66,68,32,52,44,32,54,51,55,32,70,69,67,49,32,52,44,32,54,51,56,32,70,69,67,53,32,52,44,32,54,51,57,32,70,69,67,57,32,52,44,32,54,51,65,32,70,69,67,68,32,52,44,32,54,52,49,32,70,69,68,49,32,52,44,32,54,52,50,32,70,69,68,53,32,52,44,32,54,52,51,32,70,69,68,57,32,52,44,32,54,52,52,32,70,69,68,68,32,52,44,10,54,52,53,32,70,69,69,49,32,52,44,32,54,52,54,32,70,69,69,53,32,52,44,32,54,52,55,32,70,69,69,57,32,52,44,32,54,52,56,32,70,69,69,68,32,50,44,32,54,52,57,32,70,69,69,70,32,50,44,32,54,52,65,32,70,69,70,49,32,52]⟩:ByteArray)
def Z4r (s:ByteArray) (c:Int):Option Int:=some (Lib.countByte s.data.toList c.toNat.toUInt8:Nat)
abbrev Z5b:Type:={p:Zw // 0≤p.x0∧p.x0 < 4611686018427387904}
instance:Inhabited Z5b:=⟨⟨Zy,by decide,by decide⟩⟩
def bCmp (a b:Z5b):Int:=a.1.x0-b.1.x0
open Classical in
noncomputable def Z1x (x:List Zw) (off n:Int):Option (List Zw):=match x with
 | []=>if off=0∧n=0 then some [] else none
 | a :: q=>if h:off=0∧n=Z0 (a :: q)∧Z0 (a :: q) < 4611686018427387904∧∀ p∈a :: q,0≤p.x0∧p.x0 < 4611686018427387904 then
   some ((Go.Sort.pdq (Go.Proofs.ltOf bCmp) ((a :: q).attach.map fun p=>(⟨p.1,h.2.2.2 p.1 p.2⟩:Z5b)).toArray 0 ((a :: q).attach.map fun p=>(⟨p.1,h.2.2.2 p.1 p.2⟩:Z5b)).toArray.size
    (Lib.bitLen ((a :: q).attach.map fun p=>(⟨p.1,h.2.2.2 p.1 p.2⟩:Z5b)).toArray.size) true true).toList.map fun b=>b.1)
  else none
def Q0 (l:List Z5):Nat→Int→Int
 | 0,x=>x
 | n+1,x=>if 0≤x-1∧(Z1 Z3 l (x-1)).fWrap=true then Q0 l n (x-1) else x
def Yw (l:List Z5):Nat→Int→Int
 | 0,x=>x
 | n+1,x=>if x < Z0 l∧(Z1 Z3 l (x-1)).fWrap=true then Yw l n (x+1) else x
def Z3q (l:List Z5) (y:Int):Option (Int × Int):=if 0≤y∧y≤Z0 l∧Z0 l < 4611686018427387904 then some (Q0 l 31 y,Yw l 32 (y+1)) else none
def shape_sides:Option (List (Int × Int)):=some [(1,1),(2,3),(3,3)]
def Z2k (s:ByteArray) (c:Int):Option Int:=some (Lib.indexByte s.data.toList c.toNat.toUInt8)
noncomputable def Z17 (s:ByteArray) (c':Int):Option Int :=
 Z7 (Z2k s c') fun v =>
 some v
noncomputable def Z2y (s:ByteArray) (substr:ByteArray):Option Int :=
 let n:=(Y4 substr)
 Z6 (if (n == 0)=true then true else (seqS substr s))
  (some 0)
  (Z6 (n == 1)
   (chk ((0:Int)≤0∧(0:Int) < (Y4 substr)) <|
    Z7 (Z17 s (Z0t substr 0)) fun v =>
    some v)
   (Z6 (decide ((Y4 s)≤n))
    (some (-1))
    (none)))
noncomputable def Z45 (s:ByteArray) (substr:ByteArray):Option Int :=
 Z7 (Z2y s substr) fun v =>
 some v
noncomputable def Z66 (s:ByteArray) (substr:ByteArray):Option Int :=
 Z6 ((Y4 substr) == 0)
  (none)
  (Z6 ((Y4 substr) == 1)
   (chk ((0:Int)≤0∧(0:Int) < (Y4 substr)) <|
    Z7 (Z4r s (Z0t substr 0)) fun v =>
    some v)
   (loopO (fun ((s1,n):ByteArray × Int) =>
    Z7 (Z45 s1 substr) fun v1 =>
    Z6 (v1 == (-1))
     (some (.out n))
     (chk (inR .i64 (n+1)) <|
      let n1:=(n+1)
      chk (inR .i64 (v1+(Y4 substr))) <|
      chk (0≤(v1+(Y4 substr))∧(v1+(Y4 substr))≤(Y4 s1)∧(Y4 s1)≤(Y4 s1)) <|
      let s2:=(Z4s s1 (v1+(Y4 substr)) (Y4 s1))
      some (.go (s2,n1)))) (s,0)))
noncomputable def Z3r (s:ByteArray) (sep:ByteArray) (sepSave:Int) (n:Int):Option (List ByteArray) :=
 Z6 (n == 0)
  (some ([]:List ByteArray))
  (Z6 (seqS sep (⟨#[]⟩:ByteArray))
   (none)
   (Zp (Z6 (decide (n < 0))
     (Z7 (Z66 s sep) fun v1 =>
      chk (inR .i64 (v1+1)) <|
      let n4:=(v1+1)
      some (.go n4))
     (some (.go n))) fun n1 =>
    chk (inR .i64 ((Y4 s)+1)) <|
    let n2:=(Yu n1 ((Y4 s)+1))
    chk (Xy 16 n2 n2) <|
    chk (inR .i64 (n2-1)) <|
    let n3:=(n2-1)
    Zp (loopO (fun ((s2,i1,a1):ByteArray × Int × List ByteArray) =>
     Z6 (decide (i1 < n3))
      (Z7 (Z45 s2 sep) fun v =>
       Z6 (decide (v < 0))
        (some (.out (.go (s2,i1,a1))))
        (chk (inR .i64 (v+sepSave)) <|
         chk ((0:Int)≤0∧(0:Int)≤(v+sepSave)∧(v+sepSave)≤(Y4 s2)) <|
         chk (0≤i1∧i1 < n2) <|
         chk (inR .i64 (v+(Y4 sep))) <|
         chk (0≤(v+(Y4 sep))∧(v+(Y4 sep))≤(Y4 s2)∧(Y4 s2)≤(Y4 s2)) <|
         let s3:=(Z4s s2 (v+(Y4 sep)) (Y4 s2))
         chk (inR .i64 (i1+1)) <|
         let i2:=(i1+1)
         some (.go (s3,i2,(Ya a1 i1 (Z4s s2 0 (v+sepSave)))))))
      (some (.out (.go (s2,i1,a1))))) (s,0,(Z0n n2 ByteArray.empty))) fun (s1,i,a) =>
    chk (0≤i∧i < n2) <|
    chk (inR .i64 (i+1)) <|
    chk ((0:Int)≤0∧(0:Int)≤(i+1)∧(i+1)≤n2) <|
    some (X7 (Ya a i s1) (0+0) ((0+0)+((i+1)-0)))))
noncomputable def Z0c (s:ByteArray) (sep:ByteArray):Option (List ByteArray) :=
 Z7 (Z3r s sep 0 (-1)) fun v =>
 some v
noncomputable def Z7w (c':Int):Option Bool :=
 some (if (if (c' == 32)=true then true else (c' == 10))=true then true else (c' == 45))
noncomputable def Z18 (s:ByteArray):Option (List ByteArray) :=
 chk (Xy 16 0 32) <|
 Zp (loopO (fun ((start1,spans2,pos):Int × List Xz × Int) =>
  Z6 (decide (pos < (Y4 s)))
   (let rune:=(rdecS s pos)
    Z7 (Z7w rune) fun v1 =>
    Z6 v1
     (Z6 (decide (0≤start1))
      (chk (Yl 16 ((Z0 spans2)+1)) <|
       let start2:=(bxorI .i64 (-1) start1)
       some (.go (start2,(spans2++([(Xz.mk start1 pos)]:List Xz)),(if (decide (pos < (Y4 s)))=true then (pos+(rwidS s pos)) else pos))))
      (some (.go (start1,spans2,(if (decide (pos < (Y4 s)))=true then (pos+(rwidS s pos)) else pos)))))
     (Z6 (decide (start1 < 0))
      (some (.go (pos,spans2,(if (decide (pos < (Y4 s)))=true then (pos+(rwidS s pos)) else pos))))
      (some (.go (start1,spans2,(if (decide (pos < (Y4 s)))=true then (pos+(rwidS s pos)) else pos))))))
   (some (.out (.go (start1,spans2))))) ((-1),(Z0n 0 Xc),0)) fun (start,spans) =>
 Zp (Z6 (decide (0≤start))
  (chk (Yl 16 ((Z0 spans)+1)) <|
   some (.go (spans++([(Xz.mk start (Y4 s))]:List Xz))))
  (some (.go spans))) fun spans1 =>
 chk (Xy 16 (Z0 spans1) (Z0 spans1)) <|
 Zp (loopO (fun ((v,a1):Int × List ByteArray) =>
  Z6 (decide (v < (Z0 spans1)))
   (chk (0≤v∧v < (Z0 spans1)) <|
    chk (0≤(Z1 Xc spans1 (0+v)).fstart∧(Z1 Xc spans1 (0+v)).fstart≤(Z1 Xc spans1 (0+v)).fend∧(Z1 Xc spans1 (0+v)).fend≤(Y4 s)) <|
    chk (0≤v∧v < (Z0 spans1)) <|
    chk (inR .i64 (v+1)) <|
    some (.go ((v+1),(Ya a1 v (Z4s s (Z1 Xc spans1 (0+v)).fstart (Z1 Xc spans1 (0+v)).fend)))))
   (some (.out (.go a1)))) (0,(Z0n (Z0 spans1) ByteArray.empty))) fun a =>
 some a
noncomputable def Z3s (e:ByteArray):Option (List ByteArray) :=
 Z7 (Z18 e) fun v =>
 some v
noncomputable def Qj (c':Int):Option Int :=
 some (borI .u8 c' 32)
def Z3l (a0:ByteArray):Option Bool:=none
noncomputable def Z2f (s:ByteArray) (base:Int) (bitSize:Int):Option (Int × Unit) :=
 Z6 (seqS s (⟨#[]⟩:ByteArray))
  (none)
  (let base0:=(base == 0)
   Zp (Z6 (if (decide (2≤base))=true then (decide (base≤36)) else false)
    (some (.go (s,base)))
    (Z6 (base == 0)
     (chk ((0:Int)≤0∧(0:Int) < (Y4 s)) <|
      Z6 ((Z0t s 0) == 48)
       (chk ((decide (3≤(Y4 s)))=true→(0:Int)≤1∧(1:Int) < (Y4 s)) <|
        Z7 (if (decide (3≤(Y4 s)))=true then Qj (Z0t s 1) else some 0) fun v4 =>
        Z6 (if (decide (3≤(Y4 s)))=true then (v4 == 98) else false)
         (chk ((0:Int)≤2∧(2:Int)≤(Y4 s)∧(Y4 s)≤(Y4 s)) <|
          let s2:=(Z4s s 2 (Y4 s))
          some (.go (s2,2)))
         (chk ((decide (3≤(Y4 s)))=true→(0:Int)≤1∧(1:Int) < (Y4 s)) <|
          Z7 (if (decide (3≤(Y4 s)))=true then Qj (Z0t s 1) else some 0) fun v4 =>
          Z6 (if (decide (3≤(Y4 s)))=true then (v4 == 111) else false)
           (chk ((0:Int)≤2∧(2:Int)≤(Y4 s)∧(Y4 s)≤(Y4 s)) <|
            let s3:=(Z4s s 2 (Y4 s))
            some (.go (s3,8)))
           (chk ((decide (3≤(Y4 s)))=true→(0:Int)≤1∧(1:Int) < (Y4 s)) <|
            Z7 (if (decide (3≤(Y4 s)))=true then Qj (Z0t s 1) else some 0) fun v4 =>
            Z6 (if (decide (3≤(Y4 s)))=true then (v4 == 120) else false)
             (chk ((0:Int)≤2∧(2:Int)≤(Y4 s)∧(Y4 s)≤(Y4 s)) <|
              let s4:=(Z4s s 2 (Y4 s))
              some (.go (s4,16)))
             (chk ((0:Int)≤1∧(1:Int)≤(Y4 s)∧(Y4 s)≤(Y4 s)) <|
              let s5:=(Z4s s 1 (Y4 s))
              some (.go (s5,8))))))
       (some (.go (s,10))))
     (none))) fun (s1,base1) =>
   Zp (Z6 (bitSize == 0)
    (some (.go 64))
    (Z6 (if (decide (bitSize < 0))=true then true else (decide (64 < bitSize)))
     (none)
     (some (.go bitSize)))) fun bitSize1 =>
   Zp (Z6 (base1 == 10)
    (some (.go 1844674407370955162))
    (Z6 (base1 == 16)
     (some (.go 1152921504606846976))
     (chk (((IntKind.wrap .u64 base1):Int)≠0) <|
      chk (inR .u64 (Int.tdiv 18446744073709551615 (IntKind.wrap .u64 base1))) <|
      chk (inR .u64 ((Int.tdiv 18446744073709551615 (IntKind.wrap .u64 base1))+1)) <|
      let cutoff1:=((Int.tdiv 18446744073709551615 (IntKind.wrap .u64 base1))+1)
      some (.go cutoff1)))) fun cutoff =>
   chk ((0:Int)≤(IntKind.wrap .u64 bitSize1)) <|
   chk (inR .u64 ((shlI .u64 1 (IntKind.wrap .u64 bitSize1))-1)) <|
   let maxVal:=((shlI .u64 1 (IntKind.wrap .u64 bitSize1))-1)
   Zp (loopO (fun ((underscores1,n1,v1):Bool × Int × Int) =>
    Z6 (decide (v1 < (Y4 s1)))
     (Zp (chk (0≤v1∧v1 < (Z0 (Z7b s1))) <|
       let c':=(Z1 0 (Z7b s1) v1)
       Zp (Z6 (if (c' == 95)=true then base0 else false)
        (some (.out (.go (true,n1))))
        (Z6 (if (decide (48≤c'))=true then (decide (c'≤57)) else false)
         (chk (inR .u8 (c'-48)) <|
          let d'1:=(c'-48)
          some (.go d'1))
         (Z7 (Qj c') fun v2 =>
          Z7 (if (decide (97≤v2))=true then Qj c' else some 0) fun v3 =>
          Z6 (if (decide (97≤v2))=true then (decide (v3≤122)) else false)
           (Z7 (Qj c') fun v2 =>
            chk (inR .u8 (v2-97)) <|
            chk (inR .u8 ((v2-97)+10)) <|
            let d'2:=((v2-97)+10)
            some (.go d'2))
           (none)))) fun d' =>
       Z6 (decide ((IntKind.wrap .u8 base1)≤d'))
        (none)
        (Z6 (decide (cutoff≤n1))
         (none)
         (chk (inR .u64 (n1*(IntKind.wrap .u64 base1))) <|
          let n3:=(n1*(IntKind.wrap .u64 base1))
          chk (inR .u64 (n3+(IntKind.wrap .u64 d'))) <|
          let n11:=(n3+(IntKind.wrap .u64 d'))
          Z6 (if (decide (n11 < n3))=true then true else (decide (maxVal < n11)))
           (none)
           (some (.go (underscores1,n11)))))) fun (underscores2,n2) =>
      chk (inR .i64 (v1+1)) <|
      some (.go (underscores2,n2,(v1+1))))
     (some (.out (.go (underscores1,n1))))) (false,0,0)) fun (underscores,n) =>
   Z7 (if underscores=true then Z3l s else some false) fun v =>
   Z6 (if underscores=true then (!v) else false)
    (none)
    (some (n,())))
noncomputable def Z2z (s:ByteArray) (base:Int) (bitSize:Int):Option (Int × Unit) :=
 Z6 (seqS s (⟨#[]⟩:ByteArray))
  (none)
  (Zp (chk ((0:Int)≤0∧(0:Int) < (Y4 s)) <|
    Z6 ((Z0t s 0) == 43)
     (chk ((0:Int)≤1∧(1:Int)≤(Y4 s)∧(Y4 s)≤(Y4 s)) <|
      let s2:=(Z4s s 1 (Y4 s))
      some (.go (s2,false)))
     (Z6 ((Z0t s 0) == 45)
      (chk ((0:Int)≤1∧(1:Int)≤(Y4 s)∧(Y4 s)≤(Y4 s)) <|
       let s3:=(Z4s s 1 (Y4 s))
       some (.go (s3,true)))
      (some (.go (s,false))))) fun (s1,neg) =>
   Z7 (Z2f s1 base bitSize) fun v =>
   let un:=v.1
   Z6 (if false=true then false else false)
    (some (0,()))
    (Z6 (bitSize == 0)
     (chk (inR .i64 (64-1)) <|
      chk ((0:Int)≤(IntKind.wrap .u64 (64-1))) <|
      let cutoff:=(shlI .u64 1 (IntKind.wrap .u64 (64-1)))
      Z6 (if (!neg)=true then (decide (cutoff≤un)) else false)
       (none)
       (Z6 (if neg=true then (decide (cutoff < un)) else false)
        (none)
        (let n:=(IntKind.wrap .i64 un)
         Z6 neg
          (chk (inR .i64 (0-n)) <|
           let n1:=(0-n)
           some (n1,()))
          (some (n,())))))
     (chk (inR .i64 (bitSize-1)) <|
      chk ((0:Int)≤(IntKind.wrap .u64 (bitSize-1))) <|
      let cutoff1:=(shlI .u64 1 (IntKind.wrap .u64 (bitSize-1)))
      Z6 (if (!neg)=true then (decide (cutoff1≤un)) else false)
       (none)
       (Z6 (if neg=true then (decide (cutoff1 < un)) else false)
        (none)
        (let n2:=(IntKind.wrap .i64 un)
         Z6 neg
          (chk (inR .i64 (0-n2)) <|
           let n3:=(0-n2)
           some (n3,()))
          (some (n2,())))))))
noncomputable def Z3t (s:ByteArray) (base:Int) (bitSize:Int):Option (Int × Unit) :=
 Z7 (Z2z s base bitSize) fun v =>
 let x':=v.1
 some (x',())
noncomputable def Z1f (s:ByteArray):Option Int :=
 Z7 (Z3t s 16 32) fun v =>
 let n:=v.1
 some n
noncomputable def Z5c (s:ByteArray):Option (List ByteArray) :=
 Zp (loopO (fun ((n1,wasSpace,setBits1,i9):Int × Int × Int × Int) =>
  Z6 (decide (i9 < (Y4 s)))
   (chk (0≤i9∧i9 < (Y4 s)) <|
    let r':=(Z0t s i9)
    let setBits2:=(borI .u8 setBits1 r')
    chk (0≤r'∧r' < (256:Int)) <|
    let isSpace:=(IntKind.wrap .i64 (gtabS 0 r'))
    chk (inR .i64 (n1+(Z0a .i64 wasSpace (bxorI .i64 (-1) isSpace)))) <|
    let n2:=(n1+(Z0a .i64 wasSpace (bxorI .i64 (-1) isSpace)))
    chk (inR .i64 (i9+1)) <|
    let i10:=(i9+1)
    some (.go (n2,isSpace,setBits2,i10)))
   (some (.out (.go (n1,setBits1))))) (0,1,0,0)) fun (n,setBits) =>
 Z6 (decide (128≤setBits))
  (none)
  (chk (Xy 16 n n) <|
   Zp (loopO (fun (i7:Int) =>
    chk ((decide (i7 < (Y4 s)))=true→0≤i7∧i7 < (Y4 s)) <|
    chk ((decide (i7 < (Y4 s)))=true→0≤(Z0t s i7)∧(Z0t s i7) < (256:Int)) <|
    Z6 (if (decide (i7 < (Y4 s)))=true then (!((gtabS 0 (Z0t s i7)) == 0)) else false)
     (chk (inR .i64 (i7+1)) <|
      let i8:=(i7+1)
      some (.go i8))
     (some (.out (.go i7)))) 0) fun i =>
   Zp (loopO (fun ((na1,fieldStart1,i1,a1):Int × Int × Int × List ByteArray) =>
    Z6 (decide (i1 < (Y4 s)))
     (chk (0≤i1∧i1 < (Y4 s)) <|
      chk (0≤(Z0t s i1)∧(Z0t s i1) < (256:Int)) <|
      Z6 ((gtabS 0 (Z0t s i1)) == 0)
       (chk (inR .i64 (i1+1)) <|
        let i2:=(i1+1)
        some (.go (na1,fieldStart1,i2,a1)))
       (chk (0≤fieldStart1∧fieldStart1≤i1∧i1≤(Y4 s)) <|
        chk (0≤na1∧na1 < n) <|
        chk (inR .i64 (na1+1)) <|
        let na2:=(na1+1)
        chk (inR .i64 (i1+1)) <|
        let i3:=(i1+1)
        Zp (loopO (fun (i5:Int) =>
         chk ((decide (i5 < (Y4 s)))=true→0≤i5∧i5 < (Y4 s)) <|
         chk ((decide (i5 < (Y4 s)))=true→0≤(Z0t s i5)∧(Z0t s i5) < (256:Int)) <|
         Z6 (if (decide (i5 < (Y4 s)))=true then (!((gtabS 0 (Z0t s i5)) == 0)) else false)
          (chk (inR .i64 (i5+1)) <|
           let i6:=(i5+1)
           some (.go i6))
          (some (.out (.go i5)))) i3) fun i4 =>
        some (.go (na2,i4,i4,(Ya a1 na1 (Z4s s fieldStart1 i1))))))
     (some (.out (.go (na1,fieldStart1,a1))))) (0,i,i,(Z0n n ByteArray.empty))) fun (na,fieldStart,a) =>
   Z6 (decide (fieldStart < (Y4 s)))
    (chk (0≤fieldStart∧fieldStart≤(Y4 s)∧(Y4 s)≤(Y4 s)) <|
     chk (0≤na∧na < n) <|
     some (Ya a na (Z4s s fieldStart (Y4 s))))
    (some a))
noncomputable def Z67 (s:ByteArray):Option Int :=
 Zp (Z7 (Z5c kS0) fun v =>
  loopO (fun (v1:Int) =>
   Z6 (decide (v1 < (Z0 v)))
    (chk (0≤v1∧v1 < (Z0 v)) <|
     let n:=(Z1 ByteArray.empty v (0+v1))
     Z6 (seqS n s)
      (chk (inR .i64 (v1+1)) <|
       some (.out (.out (v1+1))))
      (chk (inR .i64 (v1+1)) <|
       some (.go (v1+1))))
    (some (.out (.go ())))) 0) fun (_:Unit) =>
 some 0
noncomputable def Z76 (s:ByteArray):Option Int :=
 Z7 (Z1f s) fun v =>
 chk (inR .i64 (v+1)) <|
 some (v+1)
noncomputable def Z77 (s:ByteArray):Option Int :=
 Z6 (seqS s (⟨#[82]⟩:ByteArray))
  (some 1)
  (Z6 (seqS s (⟨#[68]⟩:ByteArray))
   (some 2)
   (Z6 (seqS s (⟨#[67]⟩:ByteArray))
    (some 3)
    (Z6 (seqS s (⟨#[84]⟩:ByteArray))
     (some 4)
     (some 0))))
noncomputable def Z2a (text:ByteArray):Option Z4 :=
 Zp (Z7 (Z0c text (⟨#[44]⟩:ByteArray)) fun v =>
  loopO (fun ((v1,o1):Int × List Y7) =>
   Z6 (decide (v1 < (Z0 v)))
    (Zp (chk (0≤v1∧v1 < (Z0 v)) <|
      let e:=(Z1 ByteArray.empty v (0+v1))
      Z7 (Z3s e) fun v2 =>
      Zp (Zp (Z6 ((Z0 v2) == 3)
        (chk ((0:Int)≤1∧(1:Int) < (Z0 v2)) <|
         Z7 (Z1f (Z1 ByteArray.empty v2 (0+1))) fun v5 =>
         some (.go v5))
        (Z6 ((Z0 v2) == 2)
         (some (.go 0))
         (some (.out (.go (0,0,0)))))) fun b9_11 =>
       chk ((0:Int)≤0∧(0:Int) < (Z0 v2)) <|
       Z7 (Z1f (Z1 ByteArray.empty v2 (0+0))) fun v3 =>
       chk (inR .i64 ((Z0 v2)-1)) <|
       chk (0≤((Z0 v2)-1)∧((Z0 v2)-1) < (Z0 v2)) <|
       Z7 (Z67 (Z1 ByteArray.empty v2 (0+((Z0 v2)-1)))) fun v4 =>
       some (.go (v3,b9_11,v4))) fun (b9_0,b9_1,b9_2) =>
      chk (Yl 24 ((Z0 o1)+1)) <|
      some (.go (o1++([(Y7.mk b9_0 (Yv b9_0 b9_1) b9_2)]:List Y7)))) fun o2 =>
     chk (inR .i64 (v1+1)) <|
     some (.go ((v1+1),o2)))
    (some (.out (.go o1)))) (0,([]:List Y7))) fun o =>
 some (Z4.mk o)
noncomputable def Z30 (text:ByteArray):Option Z4 :=
 Zp (Z7 (Z0c text (⟨#[44]⟩:ByteArray)) fun v =>
  loopO (fun ((v1,o1):Int × List Y7) =>
   Z6 (decide (v1 < (Z0 v)))
    (Zp (chk (0≤v1∧v1 < (Z0 v)) <|
      let e:=(Z1 ByteArray.empty v (0+v1))
      Z7 (Z3s e) fun v2 =>
      Zp (Zp (Z6 ((Z0 v2) == 3)
        (chk ((0:Int)≤1∧(1:Int) < (Z0 v2)) <|
         Z7 (Z1f (Z1 ByteArray.empty v2 (0+1))) fun v5 =>
         some (.go v5))
        (Z6 ((Z0 v2) == 2)
         (some (.go 0))
         (some (.out (.go (0,0,0)))))) fun b9_11 =>
       chk ((0:Int)≤0∧(0:Int) < (Z0 v2)) <|
       Z7 (Z1f (Z1 ByteArray.empty v2 (0+0))) fun v3 =>
       chk (inR .i64 ((Z0 v2)-1)) <|
       chk (0≤((Z0 v2)-1)∧((Z0 v2)-1) < (Z0 v2)) <|
       Z7 (Z76 (Z1 ByteArray.empty v2 (0+((Z0 v2)-1)))) fun v4 =>
       some (.go (v3,b9_11,v4))) fun (b9_0,b9_1,b9_2) =>
      chk (Yl 24 ((Z0 o1)+1)) <|
      some (.go (o1++([(Y7.mk b9_0 (Yv b9_0 b9_1) b9_2)]:List Y7)))) fun o2 =>
     chk (inR .i64 (v1+1)) <|
     some (.go ((v1+1),o2)))
    (some (.out (.go o1)))) (0,([]:List Y7))) fun o =>
 some (Z4.mk o)
noncomputable def Z31 (text:ByteArray):Option Z4 :=
 Zp (Z7 (Z0c text (⟨#[44]⟩:ByteArray)) fun v =>
  loopO (fun ((v1,o1):Int × List Y7) =>
   Z6 (decide (v1 < (Z0 v)))
    (Zp (chk (0≤v1∧v1 < (Z0 v)) <|
      let e:=(Z1 ByteArray.empty v (0+v1))
      Z7 (Z3s e) fun v2 =>
      Zp (Zp (Z6 ((Z0 v2) == 3)
        (chk ((0:Int)≤1∧(1:Int) < (Z0 v2)) <|
         Z7 (Z1f (Z1 ByteArray.empty v2 (0+1))) fun v5 =>
         some (.go v5))
        (Z6 ((Z0 v2) == 2)
         (some (.go 0))
         (some (.out (.go (0,0,0)))))) fun b9_11 =>
       chk ((0:Int)≤0∧(0:Int) < (Z0 v2)) <|
       Z7 (Z1f (Z1 ByteArray.empty v2 (0+0))) fun v3 =>
       chk (inR .i64 ((Z0 v2)-1)) <|
       chk (0≤((Z0 v2)-1)∧((Z0 v2)-1) < (Z0 v2)) <|
       Z7 (Z77 (Z1 ByteArray.empty v2 (0+((Z0 v2)-1)))) fun v4 =>
       some (.go (v3,b9_11,v4))) fun (b9_0,b9_1,b9_2) =>
      chk (Yl 24 ((Z0 o1)+1)) <|
      some (.go (o1++([(Y7.mk b9_0 (Yv b9_0 b9_1) b9_2)]:List Y7)))) fun o2 =>
     chk (inR .i64 (v1+1)) <|
     some (.go ((v1+1),o2)))
    (some (.out (.go o1)))) (0,([]:List Y7))) fun o =>
 some (Z4.mk o)
noncomputable def Z51 (text:ByteArray):Option (List Yg) :=
 Zp (Z7 (Z0c text (⟨#[44]⟩:ByteArray)) fun v =>
  loopO (fun ((v1,l'1):Int × List Yg) =>
   Z6 (decide (v1 < (Z0 v)))
    (chk (0≤v1∧v1 < (Z0 v)) <|
     let e:=(Z1 ByteArray.empty v (0+v1))
     Z7 (Z3s e) fun v2 =>
     Z6 ((Z0 v2) == 2)
      (chk ((0:Int)≤0∧(0:Int) < (Z0 v2)) <|
       Z7 (Z1f (Z1 ByteArray.empty v2 (0+0))) fun v3 =>
       chk ((0:Int)≤1∧(1:Int) < (Z0 v2)) <|
       Z7 (Z1f (Z1 ByteArray.empty v2 (0+1))) fun v4 =>
       chk (Yl 16 ((Z0 l'1)+1)) <|
       chk (inR .i64 (v1+1)) <|
       some (.go ((v1+1),(l'1++([(Yg.mk v3 v4)]:List Yg)))))
      (chk (inR .i64 (v1+1)) <|
       some (.go ((v1+1),l'1))))
    (some (.out (.go l'1)))) (0,([]:List Yg))) fun l' =>
 some l'
noncomputable def Z8o (text:ByteArray):Option (List X3) :=
 Zp (Z7 (Z0c text (⟨#[44]⟩:ByteArray)) fun v =>
  loopO (fun ((v1,l'1):Int × List X3) =>
   Z6 (decide (v1 < (Z0 v)))
    (chk (0≤v1∧v1 < (Z0 v)) <|
     let e:=(Z1 ByteArray.empty v (0+v1))
     Z7 (Z3s e) fun v2 =>
     Z6 ((Z0 v2) == 3)
      (chk ((0:Int)≤0∧(0:Int) < (Z0 v2)) <|
       Z7 (Z1f (Z1 ByteArray.empty v2 (0+0))) fun v3 =>
       chk ((0:Int)≤1∧(1:Int) < (Z0 v2)) <|
       Z7 (Z1f (Z1 ByteArray.empty v2 (0+1))) fun v4 =>
       chk ((0:Int)≤2∧(2:Int) < (Z0 v2)) <|
       Z7 (Z1f (Z1 ByteArray.empty v2 (0+2))) fun v5 =>
       chk (Yl 24 ((Z0 l'1)+1)) <|
       chk (inR .i64 (v1+1)) <|
       some (.go ((v1+1),(l'1++([(X3.mk v3 v4 v5)]:List X3)))))
      (chk (inR .i64 (v1+1)) <|
       some (.go ((v1+1),l'1))))
    (some (.out (.go l'1)))) (0,([]:List X3))) fun l' =>
 some l'
noncomputable def Z4d  : Option Za :=
 Z7 (Z2a kS1) fun v =>
 Z7 (Z30 kS2) fun v1 =>
 Z7 (Z31 kS3) fun v2 =>
 Z7 (Z51 kS4) fun v3 =>
 Z7 (Z51 kS5) fun v4 =>
 Z7 (Z8o kS6) fun v5 =>
 some (Za.mk v v1 v2 v3 v4 v5)
noncomputable def Z0w (c':Int):Option Bool :=
 some (if (if (decide (0≤c'))=true then (decide (c'≤256)) else false)=true then true else (if (decide (16777216≤c'))=true then (decide (c' < 33554432)) else false))
noncomputable def Z4e (p':Q1):Option Bool :=
 Z7 (Z0w p'.fFg) fun v =>
 Z7 (if v=true then Z0w p'.fBg else some false) fun v1 =>
 some (if (if (if v=true then v1 else false)=true then (decide (0≤p'.fFlags)) else false)=true then (decide (p'.fFlags≤511)) else false)
noncomputable def Z26 (c':Zc):Option Bool :=
 Zp (Zp (let m1:=c'.fM.x0
   Z6 (if (if (decide (m1 < 0))=true then true else (decide (1114111 < m1)))=true then true else (if (!(m1 == 0))=true then (c'.fR == 0) else false))
    (some (.out (.out false)))
    (chk (inR .i64 (0+1)) <|
     some (.go ()))) fun (_:Unit) =>
  Zp (let m:=c'.fM.x1
   Z6 (if (if (decide (m < 0))=true then true else (decide (1114111 < m)))=true then true else (if (!(m == 0))=true then (c'.fR == 0) else false))
    (some (.out (.out false)))
    (chk (inR .i64 (1+1)) <|
     some (.go ()))) fun (_:Unit) =>
  some (.go ())) fun (_:Unit) =>
 Z7 (if (!(if (if (decide (c'.fR < 0))=true then true else (decide (1114111 < c'.fR)))=true then true else (if (c'.fM.x0 == 0)=true then (!(c'.fM.x1 == 0)) else false)))=true then Z4e c'.fPen else some false) fun v =>
 Z6 (if (if (if (decide (c'.fR < 0))=true then true else (decide (1114111 < c'.fR)))=true then true else (if (c'.fM.x0 == 0)=true then (!(c'.fM.x1 == 0)) else false))=true then true else (!v))
  (some false)
  (Z6 (c'.fW == 0)
   (some (c'.fR == 0))
   (Z6 (c'.fW == 1)
    (some true)
    (Z6 (c'.fW == 2)
     (some (!(c'.fR == 0)))
     (some false))))
noncomputable def Z5d (l':(List Zc)) (i:Int):Option Bool :=
 chk (0≤i∧i < (Z0 l')) <|
 Z6 ((Z1 Z2 l' i).fW == 0)
  (chk ((!(i == 0))=true→inR .i64 (i-1)) <|
   chk ((!(i == 0))=true→0≤(i-1)∧(i-1) < (Z0 l')) <|
   some (if (i == 0)=true then true else (!((Z1 Z2 l' (i-1)).fW == 2))))
  (Z6 ((Z1 Z2 l' i).fW == 2)
   (chk (inR .i64 (i+1)) <|
    chk ((!((i+1) == (Z0 l')))=true→inR .i64 (i+1)) <|
    chk ((!((i+1) == (Z0 l')))=true→0≤(i+1)∧(i+1) < (Z0 l')) <|
    some (if ((i+1) == (Z0 l'))=true then true else (!((Z1 Z2 l' (i+1)).fW == 0))))
   (some false))
noncomputable def Yx (r':Z5):Option Bool :=
 Z6 (if (if (if (decide ((Z0 r'.fCells) < 1))=true then true else (decide (4096 < (Z0 r'.fCells))))=true then true else (decide (r'.fDir < 0)))=true then true else (decide (2 < r'.fDir)))
  (some false)
  (Zp (loopO (fun (v:Int) =>
    Z6 (decide (v < (Z0 r'.fCells)))
     (chk (0≤v∧v < (Z0 r'.fCells)) <|
      Z7 (Z26 (Z1 Z2 r'.fCells v)) fun v1 =>
      Z7 (if (!(!v1))=true then Z5d r'.fCells v else some false) fun v2 =>
      Z6 (if (!v1)=true then true else v2)
       (some (.out (.out false)))
       (chk (inR .i64 (v+1)) <|
        some (.go (v+1))))
     (some (.out (.go ())))) 0) fun (_:Unit) =>
   some true)
noncomputable def Xg (l':(List Z5)):Option Bool :=
 Zp (loopO (fun (v:Int) =>
  Z6 (decide (v < (Z0 l')))
   (chk (0≤v∧v < (Z0 l')) <|
    Z7 (Yx (Z1 Z3 l' v)) fun v1 =>
    Z6 (!v1)
     (some (.out (.out false)))
     (chk (inR .i64 (v+1)) <|
      some (.go (v+1))))
   (some (.out (.go ())))) 0) fun (_:Unit) =>
 some true
noncomputable def Z0x (r':Z5):Option ((List Int) × (List Int)) :=
 Zp (loopO (fun ((v,Zf,widths1):Int × List Int × List Int) =>
  Z6 (decide (v < (Z0 r'.fCells)))
   (chk (0≤v∧v < (Z0 r'.fCells)) <|
    Z6 ((Z1 Z2 r'.fCells v).fW == 0)
     (chk (inR .i64 (v+1)) <|
      some (.go ((v+1),Zf,widths1)))
     (let x':=(Z1 Z2 r'.fCells v).fR
      Z6 (x' == 0)
       (chk (Yl 8 ((Z0 Zf)+1)) <|
        chk (Yl 8 ((Z0 widths1)+1)) <|
        chk (inR .i64 (v+1)) <|
        some (.go ((v+1),(Zf++([32]:List Int)),(widths1++([(Z1 Z2 r'.fCells v).fW]:List Int)))))
       (chk (Yl 8 ((Z0 Zf)+1)) <|
        chk (Yl 8 ((Z0 widths1)+1)) <|
        chk (inR .i64 (v+1)) <|
        some (.go ((v+1),(Zf++([x']:List Int)),(widths1++([(Z1 Z2 r'.fCells v).fW]:List Int)))))))
   (some (.out (.go (Zf,widths1))))) (0,([]:List Int),([]:List Int))) fun (out,widths) =>
 some (out,widths)
noncomputable def Xi (s:List Int) (s_off:Int) (s_n:Int):Option (List Int) :=
 chk (0≤s_off∧0≤s_n∧s_off+s_n≤Z0 s) <|
 chk (inR .i64 (s_n-1)) <|
 let j:=(s_n-1)
 loopO (fun ((i,j1,s1):Int × Int × List Int) =>
  Z6 (decide (i < j1))
   (chk (0≤j1∧j1 < s_n) <|
    chk (0≤i∧i < s_n) <|
    chk (0≤i∧i < s_n) <|
    chk (0≤j1∧j1 < s_n) <|
    chk (inR .i64 (i+1)) <|
    chk (inR .i64 (j1-1)) <|
    let i1:=(i+1)
    let j2:=(j1-1)
    some (.go (i1,j2,(Ya (Ya s1 (s_off+i) (Z1 0 s1 (s_off+j1))) (s_off+j1) (Z1 0 s1 (s_off+i))))))
   (some (.out s1))) (0,j,s)
noncomputable def Q8 (levels:(List Int)):Option (List Int) :=
 chk (Xy 8 (Z0 levels) (Z0 levels)) <|
 chk (Xy 8 (Z0 levels) (Z0 levels)) <|
 Zp (loopO (fun ((most1,least1,v1,l'1,out5):Int × Int × Int × List Int × List Int) =>
  Z6 (decide (v1 < (Z0 levels)))
   (chk (0≤v1∧v1 < (Z0 levels)) <|
    let x':=(Z1 0 levels v1)
    let x'1:=(Yv 0 (Yu x' 127))
    chk (0≤v1∧v1 < (Z0 levels)) <|
    chk (0≤v1∧v1 < (Z0 levels)) <|
    let most2:=(Yv most1 x'1)
    chk ((2:Int)≠0) <|
    Z6 ((Int.tmod x'1 2) == 1)
     (let least2:=(Yu least1 x'1)
      chk (inR .i64 (v1+1)) <|
      some (.go (most2,least2,(v1+1),(Ya l'1 v1 x'1),(Ya out5 v1 v1))))
     (chk (inR .i64 (v1+1)) <|
      some (.go (most2,least1,(v1+1),(Ya l'1 v1 x'1),(Ya out5 v1 v1)))))
   (some (.out (.go (most1,least1,l'1,out5))))) (0,128,0,(Z0n (Z0 levels) 0),(Z0n (Z0 levels) 0))) fun (most,Xf,l',out) =>
 Zp (loopO (fun ((level,out2):Int × List Int) =>
  Z6 (decide (Xf≤level))
   (Zp (loopO (fun ((from',out4):Int × List Int) =>
     Z6 (decide (from' < (Z0 levels)))
      (Zp (loopO (fun (to1:Int) =>
        chk ((decide (to1 < (Z0 levels)))=true→0≤to1∧to1 < (Z0 levels)) <|
        Z6 (if (decide (to1 < (Z0 levels)))=true then (decide (level≤(Z1 0 l' (0+to1)))) else false)
         (chk (inR .i64 (to1+1)) <|
          let to2:=(to1+1)
          some (.go to2))
         (some (.out (.go to1)))) from') fun to =>
       chk (0≤from'∧from'≤to∧to≤(Z0 levels)) <|
       Z7 (Xi out4 (0+from') (to-from')) fun v =>
       chk (Z0 v=Z0 out4) <|
       chk (inR .i64 (to+1)) <|
       let from'1:=(to+1)
       some (.go (from'1,v)))
      (some (.out (.go out4)))) (0,out2)) fun out3 =>
    chk (inR .i64 (level-1)) <|
    let level1:=(level-1)
    some (.go (level1,out3)))
   (some (.out (.go out2)))) (most,out)) fun Zf =>
 some Zf
noncomputable def Z4f (levels:(List Int)) (widths:(List Int)):Option ((List Int) × Bool) :=
 Z6 (!((Z0 levels) == (Z0 widths)))
  (some (([]:List Int),false))
  (chk (Xy 8 (Z0 widths) (Z0 widths)) <|
   Zp (loopO (fun ((n1,v3,starts1):Int × Int × List Int) =>
    Z6 (decide (v3 < (Z0 widths)))
     (chk (0≤v3∧v3 < (Z0 widths)) <|
      let w:=(Z1 0 widths v3)
      Z6 (if (!(w == 1))=true then (!(w == 2)) else false)
       (some (.out (.out (([]:List Int),false))))
       (chk (0≤v3∧v3 < (Z0 widths)) <|
        chk (inR .i64 (n1+w)) <|
        let n2:=(n1+w)
        chk (inR .i64 (v3+1)) <|
        some (.go (n2,(v3+1),(Ya starts1 v3 n1)))))
     (some (.out (.go (n1,starts1))))) (0,0,(Z0n (Z0 widths) 0))) fun (n,starts) =>
   chk (Xy 8 0 n) <|
   Zp (Z7 (Q8 levels) fun v =>
    loopO (fun ((v1,Zf):Int × List Int) =>
     Z6 (decide (v1 < (Z0 v)))
      (Zp (chk (0≤v1∧v1 < (Z0 v)) <|
        let i:=(Z1 0 v (0+v1))
        chk (0≤i∧i < (Z0 widths)) <|
        loopO (fun ((v2,out3):Int × List Int) =>
         Z6 (decide (v2 < (Z1 0 widths i)))
          (chk (0≤i∧i < (Z0 widths)) <|
           chk (inR .i64 ((Z1 0 starts (0+i))+v2)) <|
           chk (Yl 8 ((Z0 out3)+1)) <|
           chk (inR .i64 (v2+1)) <|
           some (.go ((v2+1),(out3++([((Z1 0 starts (0+i))+v2)]:List Int)))))
          (some (.out (.go out3)))) (0,Zf)) fun out2 =>
       chk (inR .i64 (v1+1)) <|
       some (.go ((v1+1),out2)))
      (some (.out (.go Zf)))) (0,(Z0n 0 0))) fun out =>
   some (out,true))
noncomputable def Z03 (l':(List Int)):Option ((List Int) × Bool) :=
 chk (Xy 8 (Z0 l') (Z0 l')) <|
 Zp (loopO (fun ((v1,out3):Int × List Int) =>
  Z6 (decide (v1 < (Z0 l')))
   (chk (0≤v1∧v1 < (Z0 l')) <|
    chk (inR .i64 (v1+1)) <|
    some (.go ((v1+1),(Ya out3 v1 (-1)))))
   (some (.out (.go out3)))) (0,(Z0n (Z0 l') 0))) fun out =>
 Zp (loopO (fun ((v,out2):Int × List Int) =>
  Z6 (decide (v < (Z0 l')))
   (chk (0≤v∧v < (Z0 l')) <|
    let x':=(Z1 0 l' v)
    chk ((!(if (decide (x' < 0))=true then true else (decide ((Z0 l')≤x'))))=true→0≤x'∧x' < (Z0 l')) <|
    Z6 (if (if (decide (x' < 0))=true then true else (decide ((Z0 l')≤x')))=true then true else (decide (0≤(Z1 0 out2 (0+x')))))
     (some (.out (.out (([]:List Int),false))))
     (chk (0≤x'∧x' < (Z0 l')) <|
      chk (inR .i64 (v+1)) <|
      some (.go ((v+1),(Ya out2 x' v)))))
   (some (.out (.go out2)))) (0,out)) fun Zf =>
 some (Zf,true)
noncomputable def Z32 (cells:(List Zc)) (levels:(List Int)) (widths:(List Int)) (base:Int):Option Zi :=
 Z7 (Z4f levels widths) fun v =>
 Z7 (Z03 v.1) fun v1 =>
 chk (Xy 56 (Z0 v.1) (Z0 v.1)) <|
 Zp (loopO (fun ((v2,o1):Int × List Zc) =>
  Z6 (decide (v2 < (Z0 v.1)))
   (chk (0≤v2∧v2 < (Z0 v.1)) <|
    let at':=(Z1 0 v.1 v2)
    chk (0≤at'∧at' < (Z0 cells)) <|
    chk (0≤v2∧v2 < (Z0 v.1)) <|
    chk (inR .i64 (v2+1)) <|
    some (.go ((v2+1),(Ya o1 v2 (Z1 Z2 cells at')))))
   (some (.out (.go o1)))) (0,(Z0n (Z0 v.1) Z2))) fun o =>
 some (Zi.mk v.1 v1.1 o base)
noncomputable def Z2g (r':Z5):Option Zi :=
 Z7 (Z0x r') fun v =>
 chk (Xy 8 (Z0 v.1) (Z0 v.1)) <|
 Z6 (!(r'.fDir == 1))
  (Z7 (Z32 r'.fCells (Z0n (Z0 v.1) 0) v.2 0) fun v1 =>
   some v1)
  (Zp (loopO (fun ((v3,levels1):Int × List Int) =>
    Z6 (decide (v3 < (Z0 v.1)))
     (chk (0≤v3∧v3 < (Z0 v.1)) <|
      chk (inR .i64 (v3+1)) <|
      some (.go ((v3+1),(Ya levels1 v3 1))))
     (some (.out (.go levels1)))) (0,(Z0n (Z0 v.1) 0))) fun levels =>
   Z7 (Z32 r'.fCells levels v.2 1) fun v2 =>
   some v2)
noncomputable def Z1o (l':(List Z5)):Option (List Int) :=
 Zp (loopO (fun ((v,Zf):Int × List Int) =>
  Z6 (decide (v < (Z0 l')))
   (chk (0≤v∧v < (Z0 l')) <|
    Z7 (Z0x (Z1 Z3 l' v)) fun v1 =>
    chk (Yl 8 ((Z0 Zf)+(Z0 v1.1))) <|
    chk (inR .i64 (v+1)) <|
    some (.go ((v+1),(Zf++v1.1))))
   (some (.out (.go Zf)))) (0,([]:List Int))) fun out =>
 some out
noncomputable def Z3u (t':Z4) (r':Int):Option Int :=
 Zp (loopO (fun (v:Int) =>
  Z6 (decide (v < (Z0 t'.fL)))
   (chk (0≤v∧v < (Z0 t'.fL)) <|
    Z6 (if (decide ((Z1 Yd t'.fL v).fLo≤r'))=true then (decide (r'≤(Z1 Yd t'.fL v).fHi)) else false)
     (some (.out (.out (Z1 Yd t'.fL v).fV)))
     (chk (inR .i64 (v+1)) <|
      some (.go (v+1))))
   (some (.out (.go ())))) 0) fun (_:Unit) =>
 some 0
noncomputable def Z3v (d':Za) (r':Int):Option Int :=
 Z7 (Z3u d'.fClass r') fun v =>
 Z6 (decide (0 < v))
  (some v)
  (some 1)
noncomputable def Z33 (d':Za) (r':(List Int)):Option (List Int) :=
 chk (Xy 8 (Z0 r') (Z0 r')) <|
 Zp (loopO (fun ((v,Zf):Int × List Int) =>
  Z6 (decide (v < (Z0 r')))
   (chk (0≤v∧v < (Z0 r')) <|
    let x':=(Z1 0 r' v)
    Z7 (Z3v d' x') fun v1 =>
    chk (0≤v∧v < (Z0 r')) <|
    chk (inR .i64 (v+1)) <|
    some (.go ((v+1),(Ya Zf v v1))))
   (some (.out (.go Zf)))) (0,(Z0n (Z0 r') 0))) fun out =>
 some out
noncomputable def si_push (s:Zo) (x':Int):Option (Zo) :=
 chk (Yl 8 ((Z0 s.fl)+1)) <|
 some (Zo.mk (s.fl++([x']:List Int)))
noncomputable def si_size (s:Zo):Option Int :=
 some (Z0 s.fl)
noncomputable def si_last (s:Zo):Option Int :=
 chk (inR .i64 ((Z0 s.fl)-1)) <|
 chk (0≤((Z0 s.fl)-1)∧((Z0 s.fl)-1) < (Z0 s.fl)) <|
 some (Z1 0 s.fl ((Z0 s.fl)-1))
noncomputable def si_pop (s:Zo):Option (Zo) :=
 chk (inR .i64 ((Z0 s.fl)-1)) <|
 chk ((0:Int)≤0∧(0:Int)≤((Z0 s.fl)-1)∧((Z0 s.fl)-1)≤(Z0 s.fl)) <|
 some (Zo.mk (X7 s.fl (0+0) ((0+0)+(((Z0 s.fl)-1)-0))))
noncomputable def Qk (l':(List Int)):Option (List Int) :=
 chk (Xy 8 (Z0 l') (Z0 l')) <|
 Zp (loopO (fun ((v,Zf,o):Int × List Int × List Int) =>
  Z6 (decide (v < (Z0 l')))
   (Zp (chk (0≤v∧v < (Z0 l')) <|
     let c':=(Z1 0 l' v)
     chk (0≤v∧v < (Z0 l')) <|
     Zp (Z6 (c' == 20)
      (some (.go (c' == 20)))
      (Z6 (c' == 21)
       (some (.go (c' == 21)))
       (some (.go (c' == 22))))) fun v1 =>
     Z6 v1
      (chk (0≤v∧v < (Z0 l')) <|
       Z7 (si_push (Zo.mk o) v) fun v2 =>
       some (.go ((Ya (Ya Zf v (-1)) v (Z0 l')),v2.fl)))
      (Z6 (c' == 23)
       (Z7 (si_size (Zo.mk o)) fun v3 =>
        Z6 (decide (0 < v3))
         (Z7 (si_last (Zo.mk o)) fun v4 =>
          chk (0≤v∧v < (Z0 l')) <|
          Z7 (si_last (Zo.mk o)) fun v4 =>
          chk (0≤v4∧v4 < (Z0 l')) <|
          Z7 (si_pop (Zo.mk o)) fun v5 =>
          some (.go ((Ya (Ya (Ya Zf v (-1)) v v4) v4 v),v5.fl)))
         (some (.go ((Ya Zf v (-1)),o))))
       (Z6 (c' == 11)
        (some (.go ((Ya Zf v (-1)),([]:List Int))))
        (some (.go ((Ya Zf v (-1)),o)))))) fun (out2,o1) =>
    chk (inR .i64 (v+1)) <|
    some (.go ((v+1),out2,o1)))
   (some (.out (.go Zf)))) (0,(Z0n (Z0 l') 0),([]:List Int))) fun out =>
 some out
noncomputable def Z2l (l':(List Int)) (match':(List Int)) (from':Int) (to:Int):Option Int :=
 Zp (loopO (fun (i:Int) =>
  Z6 (decide (i < to))
   (Zp (chk (0≤i∧i < (Z0 l')) <|
     Zp (Z6 ((Z1 0 l' i) == 1)
      (some (.go ((Z1 0 l' i) == 1)))
      (some (.go ((Z1 0 l' i) == 11)))) fun v =>
     Z6 v
      (some (.out (.out (.out 0))))
      (Zp (Z6 ((Z1 0 l' i) == 2)
        (some (.go ((Z1 0 l' i) == 2)))
        (some (.go ((Z1 0 l' i) == 3)))) fun v1 =>
       Z6 v1
        (some (.out (.out (.out 1))))
        (Z6 ((Z1 0 l' i) == 20)
         (Z6 ((Z1 0 l' i) == 20)
          (chk (0≤i∧i < (Z0 match')) <|
           let i3:=(Z1 0 match' i)
           some (.go i3))
          (some (.go i)))
         (Z6 ((Z1 0 l' i) == 21)
          (Z6 ((Z1 0 l' i) == 21)
           (chk (0≤i∧i < (Z0 match')) <|
            let i4:=(Z1 0 match' i)
            some (.go i4))
           (some (.go i)))
          (Z6 ((Z1 0 l' i) == 22)
           (chk (0≤i∧i < (Z0 match')) <|
            let i5:=(Z1 0 match' i)
            some (.go i5))
           (some (.go i))))))) fun i1 =>
    chk (inR .i64 (i1+1)) <|
    let i2:=(i1+1)
    some (.go i2))
   (some (.out (.go ())))) from') fun (_:Unit) =>
 some 0
noncomputable def Z5e (l':(List Int)):Option Int :=
 Z7 (Qk l') fun v =>
 Z7 (Z2l l' v 0 (Z0 l')) fun v1 =>
 some v1
noncomputable def Z0p (l':(List Int)):Option (List Int) :=
 chk (Xy 8 (Z0 l') (Z0 l')) <|
 Zp (loopO (fun ((v,Zf):Int × List Int) =>
  Z6 (decide (v < (Z0 l')))
   (chk (0≤v∧v < (Z0 l')) <|
    let c':=(Z1 0 l' v)
    Z6 (if (decide (c' < 1))=true then true else (decide (23 < c')))
     (chk (0≤v∧v < (Z0 l')) <|
      chk (inR .i64 (v+1)) <|
      some (.go ((v+1),(Ya Zf v 14))))
     (chk (0≤v∧v < (Z0 l')) <|
      chk (inR .i64 (v+1)) <|
      some (.go ((v+1),(Ya Zf v c')))))
   (some (.out (.go Zf)))) (0,(Z0n (Z0 l') 0))) fun out =>
 some out
noncomputable def Xq (base:Int):Option Int :=
 chk ((2:Int)≠0) <|
 some (Int.tmod (Yv base 0) 2)
noncomputable def Z4y (s:Z9) (x':Y6):Option (Z9) :=
 chk (Yl 24 ((Z0 s.fl)+1)) <|
 some (Z9.mk (s.fl++([x']:List Y6)))
noncomputable def Z2b (s:Z9):Option Y6 :=
 chk (inR .i64 ((Z0 s.fl)-1)) <|
 chk (0≤((Z0 s.fl)-1)∧((Z0 s.fl)-1) < (Z0 s.fl)) <|
 some (Z1 Zr s.fl ((Z0 s.fl)-1))
noncomputable def Z34 (m:Z8) (i:Int):Option (Z8) :=
 Z7 (Z2b m.fopen) fun v =>
 chk (0≤i∧i < (Z0 m.frun.fLevels)) <|
 chk (0≤i∧i < (Z0 m.frun.fRemoved)) <|
 some (Z8.mk m.fl m.fmatch m.fbase (Zn.mk (Ya m.frun.fLevels i v.flevel) m.frun.fClasses (Ya m.frun.fRemoved i true)) m.fopen m.fisolates m.fembeddings m.fvalid)
noncomputable def m_next (m:Z8) (odd:Bool):Option (Int × Bool) :=
 Z7 (Z2b m.fopen) fun v =>
 chk (inR .i64 (v.flevel+1)) <|
 let level:=(v.flevel+1)
 chk ((2:Int)≠0) <|
 Z6 (!(((Int.tmod level 2) == 1) == odd))
  (chk (inR .i64 (level+1)) <|
   let level1:=(level+1)
   some (level1,(if (if (decide (level1≤125))=true then (m.fisolates == 0) else false)=true then (m.fembeddings == 0) else false)))
  (some (level,(if (if (decide (level≤125))=true then (m.fisolates == 0) else false)=true then (m.fembeddings == 0) else false)))
noncomputable def m_embed (m:Z8) (i:Int) (c':Int):Option (Z8) :=
 Z7 (Z34 m i) fun v =>
 Z7 (m_next v (if (c' == 17)=true then true else (c' == 18))) fun v1 =>
 let level:=v1.1
 let may:=v1.2
 Z6 (!may)
  (Z6 (v.fisolates == 0)
   (chk (inR .i64 (v.fembeddings+1)) <|
    some (Z8.mk v.fl v.fmatch v.fbase v.frun v.fopen v.fisolates (v.fembeddings+1) v.fvalid))
   (some v))
  (Zp (Z6 (c' == 18)
    (some (.go 2))
    (Z6 (c' == 16)
     (some (.go 1))
     (some (.go 14)))) fun override =>
   Z7 (Z4y v.fopen (Y6.mk level override false)) fun v2 =>
   some (Z8.mk v.fl v.fmatch v.fbase v.frun v2 v.fisolates v.fembeddings v.fvalid))
noncomputable def Z78 (m:Z8) (i:Int):Option (Z8) :=
 Z7 (Z2b m.fopen) fun v =>
 chk (0≤i∧i < (Z0 m.frun.fLevels)) <|
 Z6 (!(v.foverride == 14))
  (chk (0≤i∧i < (Z0 m.frun.fClasses)) <|
   some (Z8.mk m.fl m.fmatch m.fbase (Zn.mk (Ya m.frun.fLevels i v.flevel) (Ya m.frun.fClasses i v.foverride) m.frun.fRemoved) m.fopen m.fisolates m.fembeddings m.fvalid))
  (some (Z8.mk m.fl m.fmatch m.fbase (Zn.mk (Ya m.frun.fLevels i v.flevel) m.frun.fClasses m.frun.fRemoved) m.fopen m.fisolates m.fembeddings m.fvalid))
noncomputable def Z52 (m:Z8) (i:Int) (c':Int):Option (Z8) :=
 let odd:=(c' == 21)
 Zp (Z6 (c' == 22)
  (chk (inR .i64 (i+1)) <|
   chk (0≤i∧i < (Z0 m.fmatch)) <|
   Z7 (Z2l m.fl m.fmatch (i+1) (Z1 0 m.fmatch i)) fun v3 =>
   let odd2:=(v3 == 1)
   some (.go odd2))
  (some (.go odd))) fun odd1 =>
 Z7 (Z78 m i) fun v =>
 Z7 (m_next v odd1) fun v1 =>
 let level:=v1.1
 let may:=v1.2
 Z6 (!may)
  (chk (inR .i64 (v.fisolates+1)) <|
   some (Z8.mk v.fl v.fmatch v.fbase v.frun v.fopen (v.fisolates+1) v.fembeddings v.fvalid))
  (chk (inR .i64 (v.fvalid+1)) <|
   Z7 (Z4y v.fopen (Y6.mk level 14 true)) fun v2 =>
   some (Z8.mk v.fl v.fmatch v.fbase v.frun v2 v.fisolates v.fembeddings (v.fvalid+1)))
noncomputable def ss_pop (s:Z9):Option (Z9) :=
 chk (inR .i64 ((Z0 s.fl)-1)) <|
 chk ((0:Int)≤0∧(0:Int)≤((Z0 s.fl)-1)∧((Z0 s.fl)-1)≤(Z0 s.fl)) <|
 some (Z9.mk (X7 s.fl (0+0) ((0+0)+(((Z0 s.fl)-1)-0))))
noncomputable def Z35 (m:Z8):Option (Z8) :=
 Z6 (decide (0 < m.fisolates))
  (chk (inR .i64 (m.fisolates-1)) <|
   some (Z8.mk m.fl m.fmatch m.fbase m.frun m.fopen (m.fisolates-1) m.fembeddings m.fvalid))
  (Z6 (m.fvalid == 0)
   (some m)
   (Zp (loopO (fun (o1:List Y6) =>
     Z7 (Z2b (Z9.mk o1)) fun v1 =>
     Z6 (!v1.fisolate)
      (Z7 (ss_pop (Z9.mk o1)) fun v2 =>
       some (.go v2.fl))
      (some (.out (.go o1)))) m.fopen.fl) fun o =>
    Z7 (ss_pop (Z9.mk o)) fun v =>
    chk (inR .i64 (m.fvalid-1)) <|
    some (Z8.mk m.fl m.fmatch m.fbase m.frun v m.fisolates 0 (m.fvalid-1))))
noncomputable def ss_size (s:Z9):Option Int :=
 some (Z0 s.fl)
noncomputable def Z1p (m:Z8):Option (Z8) :=
 Z6 (decide (0 < m.fisolates))
  (some m)
  (Z6 (decide (0 < m.fembeddings))
   (chk (inR .i64 (m.fembeddings-1)) <|
    some (Z8.mk m.fl m.fmatch m.fbase m.frun m.fopen m.fisolates (m.fembeddings-1) m.fvalid))
   (Z7 (Z2b m.fopen) fun v =>
    Z7 (if (!v.fisolate)=true then ss_size m.fopen else some 0) fun v1 =>
    Z6 (if (!v.fisolate)=true then (decide (2≤v1)) else false)
     (Z7 (ss_pop m.fopen) fun v2 =>
      some (Z8.mk m.fl m.fmatch m.fbase m.frun v2 m.fisolates m.fembeddings m.fvalid))
     (some m)))
noncomputable def Xd (l':(List Int)) (base:Int):Option Zn :=
 Zp (Z7 (Z0p l') fun v11 =>
  Z7 (Qk v11) fun v12 =>
  Z7 (Xq base) fun v13 =>
  chk (Xy 8 (Z0 v11) (Z0 v11)) <|
  chk (Yl 8 (Z0 v11)) <|
  chk (Xy 1 (Z0 v11) (Z0 v11)) <|
  some (.go (v11,v11,v12,v13,(Z0n (Z0 v11) 0),v11,(Z0n (Z0 v11) false),([]:List Y6)))) fun (l'1,b5_0,b5_1,b5_2,o,o1,o2,o3) =>
 Z7 (Z4y (Z9.mk o3) (Y6.mk b5_2 14 false)) fun v =>
 Zp (loopO (fun ((v1,b5_02,b5_12,b5_22,b5_71,b5_81,b5_91,o8,o9,o10,o11):Int × List Int × List Int × Int × Int × Int × Int × List Int × List Int × List Bool × List Y6) =>
  Z6 (decide (v1 < (Z0 l'1)))
   (Zp (chk (0≤v1∧v1 < (Z0 l'1)) <|
     let c':=(Z1 0 l'1 v1)
     Zp (Z6 (c' == 17)
      (some (.go (c' == 17)))
      (Z6 (c' == 15)
       (some (.go (c' == 15)))
       (Z6 (c' == 18)
        (some (.go (c' == 18)))
        (some (.go (c' == 16)))))) fun v2 =>
     Z6 v2
      (Z7 (m_embed (Z8.mk b5_02 b5_12 b5_22 (Zn.mk o8 o9 o10) (Z9.mk o11) b5_71 b5_81 b5_91) v1 c') fun v3 =>
       some (.go (v3.fl,v3.fmatch,v3.fbase,v3.fisolates,v3.fembeddings,v3.fvalid,v3.frun.fLevels,v3.frun.fClasses,v3.frun.fRemoved,v3.fopen.fl)))
      (Zp (Z6 (c' == 21)
        (some (.go (c' == 21)))
        (Z6 (c' == 20)
         (some (.go (c' == 20)))
         (some (.go (c' == 22))))) fun v4 =>
       Z6 v4
        (Z7 (Z52 (Z8.mk b5_02 b5_12 b5_22 (Zn.mk o8 o9 o10) (Z9.mk o11) b5_71 b5_81 b5_91) v1 c') fun v5 =>
         some (.go (v5.fl,v5.fmatch,v5.fbase,v5.fisolates,v5.fembeddings,v5.fvalid,v5.frun.fLevels,v5.frun.fClasses,v5.frun.fRemoved,v5.fopen.fl)))
        (Z6 (c' == 23)
         (Z7 (Z35 (Z8.mk b5_02 b5_12 b5_22 (Zn.mk o8 o9 o10) (Z9.mk o11) b5_71 b5_81 b5_91)) fun v6 =>
          Z7 (Z78 v6 v1) fun v7 =>
          some (.go (v7.fl,v7.fmatch,v7.fbase,v7.fisolates,v7.fembeddings,v7.fvalid,v7.frun.fLevels,v7.frun.fClasses,v7.frun.fRemoved,v7.fopen.fl)))
         (Z6 (c' == 19)
          (Z7 (Z34 (Z8.mk b5_02 b5_12 b5_22 (Zn.mk o8 o9 o10) (Z9.mk o11) b5_71 b5_81 b5_91) v1) fun v8 =>
           Z7 (Z1p v8) fun v9 =>
           some (.go (v9.fl,v9.fmatch,v9.fbase,v9.fisolates,v9.fembeddings,v9.fvalid,v9.frun.fLevels,v9.frun.fClasses,v9.frun.fRemoved,v9.fopen.fl)))
          (Z6 (c' == 11)
           (chk (0≤v1∧v1 < (Z0 o8)) <|
            some (.go (b5_02,b5_12,b5_22,b5_71,b5_81,b5_91,(Ya o8 v1 b5_22),o9,o10,o11)))
           (Z6 (c' == 10)
            (Z7 (Z34 (Z8.mk b5_02 b5_12 b5_22 (Zn.mk o8 o9 o10) (Z9.mk o11) b5_71 b5_81 b5_91) v1) fun v8 =>
             some (.go (v8.fl,v8.fmatch,v8.fbase,v8.fisolates,v8.fembeddings,v8.fvalid,v8.frun.fLevels,v8.frun.fClasses,v8.frun.fRemoved,v8.fopen.fl)))
            (Z7 (Z78 (Z8.mk b5_02 b5_12 b5_22 (Zn.mk o8 o9 o10) (Z9.mk o11) b5_71 b5_81 b5_91) v1) fun v10 =>
             some (.go (v10.fl,v10.fmatch,v10.fbase,v10.fisolates,v10.fembeddings,v10.fvalid,v10.frun.fLevels,v10.frun.fClasses,v10.frun.fRemoved,v10.fopen.fl))))))))) fun (b5_03,b5_13,b5_23,b5_72,b5_82,b5_92,o12,o13,o14,o15) =>
    chk (inR .i64 (v1+1)) <|
    some (.go ((v1+1),b5_03,b5_13,b5_23,b5_72,b5_82,b5_92,o12,o13,o14,o15)))
   (some (.out (.go (b5_02,b5_12,b5_22,b5_71,b5_81,b5_91,o8,o9,o10,o11))))) (0,b5_0,b5_1,b5_2,0,0,0,o,o1,o2,v.fl)) fun (b5_01,b5_11,b5_21,b5_7,b5_8,b5_9,o4,o5,o6,o7) =>
 some (Zn.mk o4 o5 o6)
noncomputable def Y9 (s:(List Int)):Option (List Int) :=
 nilO (Z0 s)
  (Zp (some (.out ([]:List Int))) fun (_:Unit) =>
   chk (Yl 8 (Z0 s)) <|
   some s)
  (Zp (some (.go ())) fun (_:Unit) =>
   chk (Yl 8 (Z0 s)) <|
   some s)
noncomputable def Z3w (l':(List Int)) (r':Zn):Option Bool :=
 some (if (if ((Z0 r'.fLevels) == (Z0 l'))=true then ((Z0 r'.fClasses) == (Z0 l')) else false)=true then ((Z0 r'.fRemoved) == (Z0 l')) else false)
noncomputable def Z5f (r':Zn):Option (List (List Int)) :=
 Zp (loopO (fun ((v,Zf):Int × List (List Int)) =>
  Z6 (decide (v < (Z0 r'.fRemoved)))
   (chk (0≤v∧v < (Z0 r'.fRemoved)) <|
    let gone:=(Z1 false r'.fRemoved v)
    Z6 gone
     (chk (inR .i64 (v+1)) <|
      some (.go ((v+1),Zf)))
     (let n:=(Z0 Zf)
      chk ((!(n == 0))=true→inR .i64 (n-1)) <|
      chk ((!(n == 0))=true→0≤(n-1)∧(n-1) < (Z0 Zf)) <|
      chk ((!(n == 0))=true→(0:Int)≤0∧(0:Int) < (Z0 (Z1 [] Zf ((Z0 Zf)-1)))) <|
      chk ((!(n == 0))=true→0≤(Z1 0 (Z1 [] Zf ((Z0 Zf)-1)) (0+0))∧(Z1 0 (Z1 [] Zf ((Z0 Zf)-1)) (0+0)) < (Z0 r'.fLevels)) <|
      chk ((!(n == 0))=true→0≤v∧v < (Z0 r'.fLevels)) <|
      Z6 (if (n == 0)=true then true else (!((Z1 0 r'.fLevels (Z1 0 (Z1 [] Zf ((Z0 Zf)-1)) (0+0))) == (Z1 0 r'.fLevels v))))
       (chk (Yl 24 ((Z0 Zf)+1)) <|
        chk (inR .i64 (v+1)) <|
        some (.go ((v+1),(Zf++([([v]:List Int)]:List (List Int))))))
       (chk (inR .i64 (n-1)) <|
        chk (inR .i64 (n-1)) <|
        chk (0≤(n-1)∧(n-1) < (Z0 Zf)) <|
        chk (Yl 8 ((Z0 (Z1 [] Zf ((Z0 Zf)-1)))+1)) <|
        chk (0≤(n-1)∧(n-1) < (Z0 Zf)) <|
        chk (inR .i64 (v+1)) <|
        some (.go ((v+1),(Ya Zf (n-1) ((Z1 [] Zf ((Z0 Zf)-1))++([v]:List Int))))))))
   (some (.out (.go Zf)))) (0,([]:List (List Int)))) fun out =>
 some out
noncomputable def Ql (c':Int):Option Bool :=
 some (if (if (c' == 20)=true then true else (c' == 21))=true then true else (c' == 22))
noncomputable def Qz (l':(List Int)) (r':Zn) (base:Int):Option (List (List Int)) :=
 Z7 (Z3w l' r') fun v =>
 Z6 (!v)
  (some ([]:List (List Int)))
  (Z7 (Qk l') fun v1 =>
   Z7 (Z5f r') fun v2 =>
   chk (inR .i64 ((Z0 l')+1)) <|
   chk (Xy 8 ((Z0 l')+1) ((Z0 l')+1)) <|
   Zp (loopO (fun ((v7,heads3):Int × List Int) =>
    Z6 (decide (v7 < ((Z0 l')+1)))
     (chk (0≤v7∧v7 < ((Z0 l')+1)) <|
      chk (inR .i64 (v7+1)) <|
      some (.go ((v7+1),(Ya heads3 v7 (-1)))))
     (some (.out (.go heads3)))) (0,(Z0n ((Z0 l')+1) 0))) fun heads =>
   Zp (loopO (fun ((v6,heads2):Int × List Int) =>
    Z6 (decide (v6 < (Z0 v2)))
     (chk (0≤v6∧v6 < (Z0 v2)) <|
      chk ((0:Int)≤0∧(0:Int) < (Z0 (Z1 [] v2 (0+v6)))) <|
      chk (0≤(Z1 0 (Z1 [] v2 (0+v6)) 0)∧(Z1 0 (Z1 [] v2 (0+v6)) 0) < ((Z0 l')+1)) <|
      chk (inR .i64 (v6+1)) <|
      some (.go ((v6+1),(Ya heads2 (Z1 0 (Z1 [] v2 (0+v6)) 0) v6))))
     (some (.out (.go heads2)))) (0,heads)) fun heads1 =>
   chk (Xy 8 (Z0 v2) (Z0 v2)) <|
   chk (Xy 1 (Z0 v2) (Z0 v2)) <|
   Zp (loopO (fun ((v4,behind1,joined1):Int × List Int × List Bool) =>
    Z6 (decide (v4 < (Z0 v2)))
     (chk (0≤v4∧v4 < (Z0 v2)) <|
      chk (0≤v4∧v4 < (Z0 v2)) <|
      chk (inR .i64 ((Z0 (Z1 [] v2 (0+v4)))-1)) <|
      chk (0≤((Z0 (Z1 [] v2 (0+v4)))-1)∧((Z0 (Z1 [] v2 (0+v4)))-1) < (Z0 (Z1 [] v2 (0+v4)))) <|
      let end':=(Z1 0 (Z1 [] v2 (0+v4)) ((Z0 (Z1 [] v2 (0+v4)))-1))
      chk (0≤end'∧end' < (Z0 l')) <|
      Z7 (Ql (Z1 0 l' end')) fun v5 =>
      Z6 (!v5)
       (chk (inR .i64 (v4+1)) <|
        some (.go ((v4+1),(Ya behind1 v4 (-1)),joined1)))
       (chk (0≤end'∧end' < (Z0 v1)) <|
        chk (0≤(Z1 0 v1 (0+end'))∧(Z1 0 v1 (0+end')) < ((Z0 l')+1)) <|
        let to:=(Z1 0 heads1 (0+(Z1 0 v1 (0+end'))))
        Z6 (decide (0≤to))
         (chk (0≤v4∧v4 < (Z0 v2)) <|
          chk (0≤to∧to < (Z0 v2)) <|
          chk (inR .i64 (v4+1)) <|
          some (.go ((v4+1),(Ya (Ya behind1 v4 (-1)) v4 to),(Ya joined1 to true))))
         (chk (inR .i64 (v4+1)) <|
          some (.go ((v4+1),(Ya behind1 v4 (-1)),joined1)))))
     (some (.out (.go (behind1,joined1))))) (0,(Z0n (Z0 v2) 0),(Z0n (Z0 v2) false))) fun (behind,joined) =>
   Zp (loopO (fun ((v3,Zf):Int × List (List Int)) =>
    Z6 (decide (v3 < (Z0 v2)))
     (Zp (chk (0≤v3∧v3 < (Z0 v2)) <|
       Z6 (Z1 false joined (0+v3))
        (some (.go Zf))
        (Zp (loopO (fun ((at',seq1):Int × List Int) =>
          Z6 (decide (0≤at'))
           (chk (0≤at'∧at' < (Z0 v2)) <|
            chk (Yl 8 ((Z0 seq1)+(Z0 (Z1 [] v2 (0+at'))))) <|
            chk (0≤at'∧at' < (Z0 v2)) <|
            let at'1:=(Z1 0 behind (0+at'))
            some (.go (at'1,(seq1++(Z1 [] v2 (0+at'))))))
           (some (.out (.go seq1)))) (v3,([]:List Int))) fun seq =>
         chk (Yl 24 ((Z0 Zf)+1)) <|
         some (.go (Zf++([seq]:List (List Int)))))) fun out2 =>
      chk (inR .i64 (v3+1)) <|
      some (.go ((v3+1),out2)))
     (some (.out (.go Zf)))) (0,([]:List (List Int)))) fun out =>
   some out)
noncomputable def Z2m (l':(List Int)) (seq:(List Int)):Option (List Int) :=
 chk (Xy 8 (Z0 seq) (Z0 seq)) <|
 Zp (loopO (fun ((v,Zf):Int × List Int) =>
  Z6 (decide (v < (Z0 seq)))
   (chk (0≤v∧v < (Z0 seq)) <|
    let at':=(Z1 0 seq v)
    chk (0≤at'∧at' < (Z0 l')) <|
    chk (0≤v∧v < (Z0 seq)) <|
    chk (inR .i64 (v+1)) <|
    some (.go ((v+1),(Ya Zf v (Z1 0 l' at')))))
   (some (.out (.go Zf)))) (0,(Z0n (Z0 seq) 0))) fun out =>
 some out
noncomputable def Z3x (level:Int):Option Int :=
 Z6 ((Z0a .i64 level 1) == 1)
  (some 2)
  (some 1)
noncomputable def Z2n (l':(List Int)) (r':Zn) (base:Int) (seq:(List Int)):Option (Int × Int) :=
 Z7 (Z3w l' r') fun v =>
 Z6 (if (!v)=true then true else ((Z0 seq) == 0))
  (some (0,0))
  (Zp (loopO (fun (v6:Int) =>
    Z6 (decide (v6 < (Z0 seq)))
     (chk (0≤v6∧v6 < (Z0 seq)) <|
      let at':=(Z1 0 seq v6)
      Z6 (if (decide (at' < 0))=true then true else (decide ((Z0 l')≤at')))
       (some (.out (.out (0,0))))
       (chk (inR .i64 (v6+1)) <|
        some (.go (v6+1))))
     (some (.out (.go ())))) 0) fun (_:Unit) =>
   chk ((0:Int)≤0∧(0:Int) < (Z0 seq)) <|
   chk (inR .i64 ((Z0 seq)-1)) <|
   chk (0≤((Z0 seq)-1)∧((Z0 seq)-1) < (Z0 seq)) <|
   let first:=(Z1 0 seq 0)
   let last:=(Z1 0 seq ((Z0 seq)-1))
   Z7 (Xq base) fun v1 =>
   Z7 (Xq base) fun v1 =>
   Zp (chk (inR .i64 (first-1)) <|
    let i3:=(first-1)
    loopO (fun (i4:Int) =>
     Z6 (decide (0≤i4))
      (chk (0≤i4∧i4 < (Z0 r'.fRemoved)) <|
       Z6 (!(Z1 false r'.fRemoved i4))
        (chk (0≤i4∧i4 < (Z0 r'.fLevels)) <|
         let ahead1:=(Z1 0 r'.fLevels i4)
         some (.out (.go ahead1)))
        (chk (inR .i64 (i4-1)) <|
         let i5:=(i4-1)
         some (.go i5)))
      (some (.out (.go v1)))) i3) fun ahead =>
   Zp (chk (0≤last∧last < (Z0 l')) <|
    Z7 (Ql (Z1 0 l' last)) fun v4 =>
    Z7 (if (!(!v4))=true then Qk l' else some []) fun v5 =>
    chk ((!(!v4))=true→0≤last∧last < (Z0 v5)) <|
    Z6 (if (!v4)=true then true else (decide ((Z1 0 v5 last) < (Z0 l'))))
     (chk (inR .i64 (last+1)) <|
      let i:=(last+1)
      loopO (fun (i1:Int) =>
       Z6 (decide (i1 < (Z0 l')))
        (chk (0≤i1∧i1 < (Z0 r'.fRemoved)) <|
         Z6 (!(Z1 false r'.fRemoved i1))
          (chk (0≤i1∧i1 < (Z0 r'.fLevels)) <|
           let behind1:=(Z1 0 r'.fLevels i1)
           some (.out (.go behind1)))
          (chk (inR .i64 (i1+1)) <|
           let i2:=(i1+1)
           some (.go i2)))
        (some (.out (.go v1)))) i)
     (some (.go v1))) fun behind =>
   chk (0≤first∧first < (Z0 r'.fLevels)) <|
   let level:=(Z1 0 r'.fLevels first)
   Z7 (Z3x (Yv level ahead)) fun v2 =>
   Z7 (Z3x (Yv level behind)) fun v3 =>
   some (v2,v3))
noncomputable def w1 (t':Zs):Option (List Int) :=
 let ahead:=t'.fsos
 loopO (fun ((ahead1,v,o):Int × Int × List Int) =>
  Z6 (decide (v < (Z0 t'.fl)))
   (Zp (chk (0≤v∧v < (Z0 t'.fl)) <|
     let c':=(Z1 0 o (0+v))
     Zp (Z6 (c' == 9)
      (chk (0≤v∧v < (Z0 t'.fl)) <|
       some (.go (Ya o v ahead1)))
      (some (.go o))) fun o2 =>
     chk (0≤v∧v < (Z0 t'.fl)) <|
     let ahead3:=(Z1 0 o2 (0+v))
     Z6 (ahead3 == 20)
      (Z6 (ahead3 == 20)
       (some (.go (14,o2)))
       (some (.go (ahead3,o2))))
      (Z6 (ahead3 == 21)
       (Z6 (ahead3 == 21)
        (some (.go (14,o2)))
        (some (.go (ahead3,o2))))
       (Z6 (ahead3 == 22)
        (Z6 (ahead3 == 22)
         (some (.go (14,o2)))
         (some (.go (ahead3,o2))))
        (Z6 (ahead3 == 23)
         (some (.go (14,o2)))
         (some (.go (ahead3,o2))))))) fun (ahead2,o1) =>
    chk (inR .i64 (v+1)) <|
    some (.go (ahead2,(v+1),o1)))
   (some (.out o))) (ahead,0,t'.fl)
noncomputable def w2 (t':Zs):Option (List Int) :=
 let last:=t'.fsos
 loopO (fun ((last1,v,o):Int × Int × List Int) =>
  Z6 (decide (v < (Z0 t'.fl)))
   (Zp (chk (0≤v∧v < (Z0 t'.fl)) <|
     let c':=(Z1 0 o (0+v))
     Zp (Z6 (c' == 2)
      (some (.go (c' == 2)))
      (Z6 (c' == 1)
       (some (.go (c' == 1)))
       (some (.go (c' == 3))))) fun v1 =>
     Z6 v1
      (some (.go (c',o)))
      (Z6 (c' == 4)
       (Z6 (last1 == 3)
        (chk (0≤v∧v < (Z0 t'.fl)) <|
         some (.go (last1,(Ya o v 7))))
        (some (.go (last1,o))))
       (some (.go (last1,o))))) fun (last2,o1) =>
    chk (inR .i64 (v+1)) <|
    some (.go (last2,(v+1),o1)))
   (some (.out o))) (last,0,t'.fl)
noncomputable def w3 (t':Zs):Option (List Int) :=
 loopO (fun ((v,o):Int × List Int) =>
  Z6 (decide (v < (Z0 t'.fl)))
   (chk (0≤v∧v < (Z0 t'.fl)) <|
    let c':=(Z1 0 o (0+v))
    Z6 (c' == 3)
     (chk (0≤v∧v < (Z0 t'.fl)) <|
      chk (inR .i64 (v+1)) <|
      some (.go ((v+1),(Ya o v 2))))
     (chk (inR .i64 (v+1)) <|
      some (.go ((v+1),o))))
   (some (.out o))) (0,t'.fl)
noncomputable def Q9 (t':Zs) (i:Int):Option Int :=
 Z6 (if (decide (i < 0))=true then true else (decide ((Z0 t'.fl)≤i)))
  (some 0)
  (chk (0≤i∧i < (Z0 t'.fl)) <|
   some (Z1 0 t'.fl i))
noncomputable def w4 (t':Zs):Option (List Int) :=
 loopO (fun ((v,o):Int × List Int) =>
  Z6 (decide (v < (Z0 t'.fl)))
   (chk (0≤v∧v < (Z0 t'.fl)) <|
    let c':=(Z1 0 o (0+v))
    chk (inR .i64 (v-1)) <|
    Z7 (Q9 (Zs.mk o t'.fsos) (v-1)) fun v1 =>
    chk (inR .i64 (v+1)) <|
    Z7 (Q9 (Zs.mk o t'.fsos) (v+1)) fun v2 =>
    Z6 (!(v1 == v2))
     (chk (inR .i64 (v+1)) <|
      some (.go ((v+1),o)))
     (Z6 (if (if (v1 == 4)=true then (if (c' == 5)=true then true else (c' == 8)) else false)=true then true else (if (v1 == 7)=true then (c' == 8) else false))
      (chk (0≤v∧v < (Z0 t'.fl)) <|
       chk (inR .i64 (v+1)) <|
       some (.go ((v+1),(Ya o v v1))))
      (chk (inR .i64 (v+1)) <|
       some (.go ((v+1),o)))))
   (some (.out o))) (0,t'.fl)
noncomputable def w5 (t':Zs):Option (List Int) :=
 loopO (fun ((i,o):Int × List Int) =>
  Z6 (decide (i < (Z0 t'.fl)))
   (chk (0≤i∧i < (Z0 t'.fl)) <|
    Z6 (!((Z1 0 o (0+i)) == 6))
     (chk (inR .i64 (i+1)) <|
      let i1:=(i+1)
      some (.go (i1,o)))
     (Zp (loopO (fun (end'1:Int) =>
       Z7 (Q9 (Zs.mk o t'.fsos) end'1) fun v2 =>
       Z6 (v2 == 6)
        (chk (inR .i64 (end'1+1)) <|
         let end'2:=(end'1+1)
         some (.go end'2))
        (some (.out (.go end'1)))) i) fun end' =>
      Zp (chk (inR .i64 (i-1)) <|
       Z7 (Q9 (Zs.mk o t'.fsos) (i-1)) fun v =>
       Z7 (if (!(v == 4))=true then Q9 (Zs.mk o t'.fsos) end' else some 0) fun v1 =>
       Z6 (if (v == 4)=true then true else (v1 == 4))
        (loopO (fun ((j,o2):Int × List Int) =>
         Z6 (decide (j < end'))
          (chk (0≤j∧j < (Z0 t'.fl)) <|
           chk (inR .i64 (j+1)) <|
           let j1:=(j+1)
           some (.go (j1,(Ya o2 j 4))))
          (some (.out (.go o2)))) (i,o))
        (some (.go o))) fun o1 =>
      some (.go (end',o1))))
   (some (.out o))) (0,t'.fl)
noncomputable def w6 (t':Zs):Option (List Int) :=
 loopO (fun ((v,o):Int × List Int) =>
  Z6 (decide (v < (Z0 t'.fl)))
   (chk (0≤v∧v < (Z0 t'.fl)) <|
    let c':=(Z1 0 o (0+v))
    Z6 (c' == 5)
     (Z6 (c' == 5)
      (chk (0≤v∧v < (Z0 t'.fl)) <|
       chk (inR .i64 (v+1)) <|
       some (.go ((v+1),(Ya o v 14))))
      (chk (inR .i64 (v+1)) <|
       some (.go ((v+1),o))))
     (Z6 (c' == 6)
      (Z6 (c' == 6)
       (chk (0≤v∧v < (Z0 t'.fl)) <|
        chk (inR .i64 (v+1)) <|
        some (.go ((v+1),(Ya o v 14))))
       (chk (inR .i64 (v+1)) <|
        some (.go ((v+1),o))))
      (Z6 (c' == 8)
       (chk (0≤v∧v < (Z0 t'.fl)) <|
        chk (inR .i64 (v+1)) <|
        some (.go ((v+1),(Ya o v 14))))
       (chk (inR .i64 (v+1)) <|
        some (.go ((v+1),o))))))
   (some (.out o))) (0,t'.fl)
noncomputable def w7 (t':Zs):Option (List Int) :=
 let last:=t'.fsos
 loopO (fun ((last1,v,o):Int × Int × List Int) =>
  Z6 (decide (v < (Z0 t'.fl)))
   (chk (0≤v∧v < (Z0 t'.fl)) <|
    let c':=(Z1 0 o (0+v))
    Z6 (c' == 2)
     (Z6 (c' == 2)
      (chk (inR .i64 (v+1)) <|
       some (.go (c',(v+1),o)))
      (Z6 (c' == 4)
       (Z6 (last1 == 1)
        (chk (0≤v∧v < (Z0 t'.fl)) <|
         chk (inR .i64 (v+1)) <|
         some (.go (last1,(v+1),(Ya o v 1))))
        (chk (inR .i64 (v+1)) <|
         some (.go (last1,(v+1),o))))
       (chk (inR .i64 (v+1)) <|
        some (.go (last1,(v+1),o)))))
     (Z6 (c' == 1)
      (chk (inR .i64 (v+1)) <|
       some (.go (c',(v+1),o)))
      (Z6 (c' == 4)
       (Z6 (last1 == 1)
        (chk (0≤v∧v < (Z0 t'.fl)) <|
         chk (inR .i64 (v+1)) <|
         some (.go (last1,(v+1),(Ya o v 1))))
        (chk (inR .i64 (v+1)) <|
         some (.go (last1,(v+1),o))))
       (chk (inR .i64 (v+1)) <|
        some (.go (last1,(v+1),o))))))
   (some (.out o))) (last,0,t'.fl)
noncomputable def Z1y (l':(List Int)) (sos:Int):Option (List Int) :=
 Z7 (Y9 l') fun v =>
 Zp (Zp (Zp (Zp (chk ((0:Int)≤0∧(0:Int) < 7) <|
     some (.go ())) fun (_:Unit) =>
    Z7 (w1 (Zs.mk v sos)) fun v7 =>
    chk (Z0 v7=Z0 v) <|
    some (.go v7)) fun o14 =>
   chk (inR .i64 (0+1)) <|
   some (.go o14)) fun o1 =>
  Zp (Zp (Zp (chk ((0:Int)≤1∧(1:Int) < 7) <|
     some (.go ())) fun (_:Unit) =>
    Z7 (w2 (Zs.mk o1 sos)) fun v6 =>
    chk (Z0 v6=Z0 o1) <|
    some (.go v6)) fun o13 =>
   chk (inR .i64 (1+1)) <|
   some (.go o13)) fun o2 =>
  Zp (Zp (Zp (chk ((0:Int)≤2∧(2:Int) < 7) <|
     some (.go ())) fun (_:Unit) =>
    Z7 (w3 (Zs.mk o2 sos)) fun v5 =>
    chk (Z0 v5=Z0 o2) <|
    some (.go v5)) fun o12 =>
   chk (inR .i64 (2+1)) <|
   some (.go o12)) fun o3 =>
  Zp (Zp (Zp (chk ((0:Int)≤3∧(3:Int) < 7) <|
     some (.go ())) fun (_:Unit) =>
    Z7 (w4 (Zs.mk o3 sos)) fun v4 =>
    chk (Z0 v4=Z0 o3) <|
    some (.go v4)) fun o11 =>
   chk (inR .i64 (3+1)) <|
   some (.go o11)) fun o4 =>
  Zp (Zp (Zp (chk ((0:Int)≤4∧(4:Int) < 7) <|
     some (.go ())) fun (_:Unit) =>
    Z7 (w5 (Zs.mk o4 sos)) fun v3 =>
    chk (Z0 v3=Z0 o4) <|
    some (.go v3)) fun o10 =>
   chk (inR .i64 (4+1)) <|
   some (.go o10)) fun o5 =>
  Zp (Zp (Zp (chk ((0:Int)≤5∧(5:Int) < 7) <|
     some (.go ())) fun (_:Unit) =>
    Z7 (w6 (Zs.mk o5 sos)) fun v2 =>
    chk (Z0 v2=Z0 o5) <|
    some (.go v2)) fun o9 =>
   chk (inR .i64 (5+1)) <|
   some (.go o9)) fun o6 =>
  Zp (Zp (Zp (chk ((0:Int)≤6∧(6:Int) < 7) <|
     some (.go ())) fun (_:Unit) =>
    Z7 (w7 (Zs.mk o6 sos)) fun v1 =>
    chk (Z0 v1=Z0 o6) <|
    some (.go v1)) fun o8 =>
   chk (inR .i64 (6+1)) <|
   some (.go o8)) fun o7 =>
  some (.go o7)) fun o =>
 some o
noncomputable def Z2o (d':Za) (r':Int):Option (Int × Int) :=
 Zp (loopO (fun (v:Int) =>
  Z6 (decide (v < (Z0 d'.fBrackets)))
   (chk (0≤v∧v < (Z0 d'.fBrackets)) <|
    Z6 (r' == (Z1 Xs d'.fBrackets v).fA)
     (some (.out (.out ((Z1 Xs d'.fBrackets v).fB,1))))
     (Z6 (r' == (Z1 Xs d'.fBrackets v).fB)
      (some (.out (.out ((Z1 Xs d'.fBrackets v).fA,2))))
      (chk (inR .i64 (v+1)) <|
       some (.go (v+1)))))
   (some (.out (.go ())))) 0) fun (_:Unit) =>
 some (0,0)
noncomputable def Z5g (d':Za) (r':(List Int)) (l':(List Int)):Option (List Zw) :=
 Z6 (!((Z0 r') == (Z0 l')))
  (some ([]:List Zw))
  (Zp (loopO (fun ((open_off,open_n,v1,open',Zf):Int × Int × Int × List Int × List Zw) =>
    Z6 (decide (v1 < (Z0 l')))
     (Zp (chk (0≤v1∧v1 < (Z0 l')) <|
       let c':=(Z1 0 l' v1)
       Z6 (!(c' == 14))
        (some (.go (open_off,open_n,open',Zf)))
        (chk (0≤v1∧v1 < (Z0 r')) <|
         Z7 (Z2o d' (Z1 0 r' v1)) fun v2 =>
         let other:=v2.1
         let kind:=v2.2
         Z6 (kind == 1)
          (Z6 (open_n == 63)
           (some (.out (.out (.out ([]:List Zw)))))
           (chk (0≤open_off∧0≤open_n∧open_off+open_n≤Z0 open') <|
            chk (Yl 8 (open_n+1)) <|
            some (.go (0,(open_n+1),((X7 open' open_off (open_off+open_n))++([v1]:List Int)),Zf))))
          (Z6 (kind == 2)
           (chk (inR .i64 (open_n-1)) <|
            let n:=(open_n-1)
            loopO (fun (n1:Int) =>
             Z6 (decide (0≤n1))
              (chk (0≤n1∧n1 < open_n) <|
               chk (0≤(Z1 0 open' (open_off+n1))∧(Z1 0 open' (open_off+n1)) < (Z0 r')) <|
               Z6 ((Z1 0 r' (Z1 0 open' (open_off+n1))) == other)
                (chk (0≤n1∧n1 < open_n) <|
                 chk (Yl 16 ((Z0 Zf)+1)) <|
                 chk ((0:Int)≤0∧(0:Int)≤n1∧n1≤open_n) <|
                 some (.out (.go ((open_off+0),(n1-0),open',(Zf++([(Zw.mk (Z1 0 open' (open_off+n1)) v1)]:List Zw))))))
                (chk (inR .i64 (n1-1)) <|
                 let n2:=(n1-1)
                 some (.go n2)))
              (some (.out (.go (open_off,open_n,open',Zf))))) n)
           (some (.go (open_off,open_n,open',Zf)))))) fun (open_off1,open_n1,open'1,out2) =>
      chk (inR .i64 (v1+1)) <|
      some (.go (open_off1,open_n1,(v1+1),open'1,out2)))
     (some (.out (.go Zf)))) (0,0,0,([]:List Int),([]:List Zw))) fun out =>
   Z7 (Z1x out 0 (Z0 out)) fun v =>
   chk (Z0 v=Z0 out) <|
   some v)
noncomputable def Z0q (c':Int):Option Int :=
 Z6 (c' == 1)
  (some 1)
  (Z6 (c' == 2)
   (Z6 (c' == 2)
    (some 2)
    (some 0))
   (Z6 (c' == 4)
    (Z6 (c' == 4)
     (some 2)
     (some 0))
    (Z6 (c' == 7)
     (some 2)
     (some 0))))
noncomputable def Qc (x':Yp) (p':Zw):Option Int :=
 Zp (chk (inR .i64 (p'.x0+1)) <|
  chk (0≤(p'.x0+1)∧(p'.x0+1)≤p'.x1∧p'.x1≤(Z0 x'.fl)) <|
  loopO (fun ((found1,v1):Bool × Int) =>
   Z6 (decide (v1 < (p'.x1-(p'.x0+1))))
    (chk (0≤v1∧v1 < (Z0 (X7 x'.fl (p'.x0+1) p'.x1))) <|
     let c':=(Z1 0 (X7 x'.fl (p'.x0+1) p'.x1) v1)
     Z7 (Z0q c') fun v2 =>
     Z6 (v2 == x'.fdir)
      (some (.out (.out x'.fdir)))
      (Z6 (v2 == x'.fagainst)
       (chk (inR .i64 (v1+1)) <|
        some (.go (true,(v1+1))))
       (chk (inR .i64 (v1+1)) <|
        some (.go (found1,(v1+1))))))
    (some (.out (.go found1)))) (false,0)) fun found =>
 Z6 (!found)
  (some 0)
  (let last:=x'.fsos
   Zp (chk (inR .i64 (p'.x0-1)) <|
    let i:=(p'.x0-1)
    loopO (fun (i1:Int) =>
     Z6 (decide (0≤i1))
      (chk (0≤i1∧i1 < (Z0 x'.fl)) <|
       Z7 (Z0q (Z1 0 x'.fl i1)) fun v =>
       Z6 (!(v == 0))
        (some (.out (.go v)))
        (chk (inR .i64 (i1-1)) <|
         let i2:=(i1-1)
         some (.go i2)))
      (some (.out (.go last)))) i) fun last1 =>
   Z6 (last1 == x'.fagainst)
    (some x'.fagainst)
    (some x'.fdir))
noncomputable def n0 (x':Yp):Option (List Int) :=
 loopO (fun ((v,o):Int × List Int) =>
  Z6 (decide (v < (Z0 x'.fpairs)))
   (Zp (chk (0≤v∧v < (Z0 x'.fpairs)) <|
     Z7 (Qc (Yp.mk o x'.fwas x'.fsos x'.feos x'.fdir x'.fagainst x'.fpairs) (Z1 Zy x'.fpairs v)) fun v1 =>
     Z6 (v1 == 0)
      (some (.go o))
      (Zp (Zp (let at'1:=(Z1 Zy x'.fpairs v).x0
         chk (0≤at'1∧at'1 < (Z0 x'.fl)) <|
         chk (inR .i64 (at'1+1)) <|
         let j3:=(at'1+1)
         loopO (fun ((j4,o7):Int × List Int) =>
          chk ((decide (j4 < (Z0 x'.fl)))=true→0≤j4∧j4 < (Z0 x'.fwas)) <|
          Z6 (if (decide (j4 < (Z0 x'.fl)))=true then ((Z1 0 x'.fwas j4) == 9) else false)
           (chk (0≤j4∧j4 < (Z0 x'.fl)) <|
            chk (inR .i64 (j4+1)) <|
            let j5:=(j4+1)
            some (.go (j5,(Ya o7 j4 v1))))
           (some (.out (.go o7)))) (j3,(Ya o at'1 v1))) fun o6 =>
        chk (inR .i64 (0+1)) <|
        some (.go o6)) fun o2 =>
       Zp (Zp (let at':=(Z1 Zy x'.fpairs v).x1
         chk (0≤at'∧at' < (Z0 x'.fl)) <|
         chk (inR .i64 (at'+1)) <|
         let j:=(at'+1)
         loopO (fun ((j1,o5):Int × List Int) =>
          chk ((decide (j1 < (Z0 x'.fl)))=true→0≤j1∧j1 < (Z0 x'.fwas)) <|
          Z6 (if (decide (j1 < (Z0 x'.fl)))=true then ((Z1 0 x'.fwas j1) == 9) else false)
           (chk (0≤j1∧j1 < (Z0 x'.fl)) <|
            chk (inR .i64 (j1+1)) <|
            let j2:=(j1+1)
            some (.go (j2,(Ya o5 j1 v1))))
           (some (.out (.go o5)))) (j,(Ya o2 at' v1))) fun o4 =>
        chk (inR .i64 (1+1)) <|
        some (.go o4)) fun o3 =>
       some (.go o3))) fun o1 =>
    chk (inR .i64 (v+1)) <|
    some (.go ((v+1),o1)))
   (some (.out o))) (0,x'.fl)
noncomputable def Z1z (c':Int):Option Bool :=
 Zp (Zp (Z6 (c' == 11)
   (some (.go (c' == 11)))
   (Z6 (c' == 12)
    (some (.go (c' == 12)))
    (Z6 (c' == 13)
     (some (.go (c' == 13)))
     (Z6 (c' == 14)
      (some (.go (c' == 14)))
      (Z6 (c' == 20)
       (some (.go (c' == 20)))
       (Z6 (c' == 21)
        (some (.go (c' == 21)))
        (Z6 (c' == 22)
         (some (.go (c' == 22)))
         (some (.go (c' == 23)))))))))) fun v =>
  Z6 v
   (some (.out true))
   (some (.go ()))) fun (_:Unit) =>
 some false
noncomputable def n12 (x':Yp):Option (List Int) :=
 loopO (fun ((i,o):Int × List Int) =>
  Z6 (decide (i < (Z0 x'.fl)))
   (chk (0≤i∧i < (Z0 x'.fl)) <|
    Z7 (Z1z (Z1 0 o (0+i))) fun v =>
    Z6 (!v)
     (chk (inR .i64 (i+1)) <|
      let i1:=(i+1)
      some (.go (i1,o)))
     (Zp (loopO (fun (end'1:Int) =>
       chk ((decide (end'1 < (Z0 x'.fl)))=true→0≤end'1∧end'1 < (Z0 x'.fl)) <|
       Z7 (if (decide (end'1 < (Z0 x'.fl)))=true then Z1z (Z1 0 o (0+end'1)) else some false) fun v3 =>
       Z6 (if (decide (end'1 < (Z0 x'.fl)))=true then v3 else false)
        (chk (inR .i64 (end'1+1)) <|
         let end'2:=(end'1+1)
         some (.go end'2))
        (some (.out (.go end'1)))) i) fun end' =>
      let ahead:=x'.fsos
      let behind:=x'.feos
      Zp (Z6 (decide (0 < i))
       (chk (inR .i64 (i-1)) <|
        chk (0≤(i-1)∧(i-1) < (Z0 x'.fl)) <|
        Z7 (Z0q (Z1 0 o (0+(i-1)))) fun v2 =>
        some (.go v2))
       (some (.go ahead))) fun ahead1 =>
      Zp (Z6 (decide (end' < (Z0 x'.fl)))
       (chk (0≤end'∧end' < (Z0 x'.fl)) <|
        Z7 (Z0q (Z1 0 o (0+end'))) fun v1 =>
        some (.go v1))
       (some (.go behind))) fun behind1 =>
      let c':=x'.fdir
      Zp (Z6 (if (ahead1 == behind1)=true then (!(ahead1 == 0)) else false)
       (some (.go ahead1))
       (some (.go c'))) fun c'1 =>
      loopO (fun ((i2,o1):Int × List Int) =>
       Z6 (decide (i2 < end'))
        (chk (0≤i2∧i2 < (Z0 x'.fl)) <|
         chk (inR .i64 (i2+1)) <|
         let i3:=(i2+1)
         some (.go (i3,(Ya o1 i2 c'1))))
        (some (.out (.go (i2,o1))))) (i,o)))
   (some (.out o))) (0,x'.fl)
noncomputable def Z20 (d':Za) (r':(List Int)) (was:(List Int)) (l':(List Int)) (level:Int) (sos:Int) (eos:Int):Option (List Int) :=
 Z7 (Y9 l') fun v =>
 Z6 (if (!((Z0 r') == (Z0 l')))=true then true else (!((Z0 was) == (Z0 l'))))
  (some v)
  (Z7 (Z5g d' r' l') fun v1 =>
   Zp (Z6 ((Z0a .i64 level 1) == 1)
    (some (.go (2,1)))
    (some (.go (1,2)))) fun (b16_4,b16_5) =>
   Zp (Zp (Zp (Zp (chk ((0:Int)≤0∧(0:Int) < 2) <|
       some (.go ())) fun (_:Unit) =>
      Z7 (n0 (Yp.mk v was sos eos b16_4 b16_5 v1)) fun v3 =>
      chk (Z0 v3=Z0 v) <|
      some (.go v3)) fun out4 =>
     chk (inR .i64 (0+1)) <|
     some (.go out4)) fun Zf =>
    Zp (Zp (Zp (chk ((0:Int)≤1∧(1:Int) < 2) <|
       some (.go ())) fun (_:Unit) =>
      Z7 (n12 (Yp.mk Zf was sos eos b16_4 b16_5 v1)) fun v2 =>
      chk (Z0 v2=Z0 Zf) <|
      some (.go v2)) fun out3 =>
     chk (inR .i64 (1+1)) <|
     some (.go out3)) fun out2 =>
    some (.go out2)) fun out =>
   some out)
noncomputable def Z15 (c':Int) (level:Int):Option Int :=
 let odd:=((Z0a .i64 level 1) == 1)
 Z6 (if odd=true then (if (if (c' == 1)=true then true else (c' == 4))=true then true else (c' == 7)) else false)
  (chk (inR .i64 (level+1)) <|
   some (level+1))
  (Z6 (if (!odd)=true then (c' == 2) else false)
   (chk (inR .i64 (level+1)) <|
    some (level+1))
   (Z6 (if (!odd)=true then (if (c' == 4)=true then true else (c' == 7)) else false)
    (chk (inR .i64 (level+2)) <|
     some (level+2))
    (some level)))
noncomputable def Z2p (d':Za) (r':(List Int)) (l':(List Int)) (base:Int):Option (List Int) :=
 Z7 (Xd l' base) fun v =>
 Z7 (Y9 v.fLevels) fun v1 =>
 Zp (Z7 (Qz l' v base) fun v3 =>
  loopO (fun ((v4,out5):Int × List Int) =>
   Z6 (decide (v4 < (Z0 v3)))
    (Zp (chk (0≤v4∧v4 < (Z0 v3)) <|
      Z7 (Z2m v.fClasses (Z1 [] v3 (0+v4))) fun v5 =>
      chk ((0:Int)≤0∧(0:Int) < (Z0 (Z1 [] v3 (0+v4)))) <|
      chk (0≤(Z1 0 (Z1 [] v3 (0+v4)) 0)∧(Z1 0 (Z1 [] v3 (0+v4)) 0) < (Z0 v.fLevels)) <|
      let level:=(Z1 0 v.fLevels (Z1 0 (Z1 [] v3 (0+v4)) 0))
      Z7 (Z2n l' v base (Z1 [] v3 (0+v4))) fun v6 =>
      let sos:=v6.1
      let eos:=v6.2
      Z7 (Z2m r' (Z1 [] v3 (0+v4))) fun v7 =>
      Z7 (Z1y v5 sos) fun v8 =>
      Z7 (Z20 d' v7 v5 v8 level sos eos) fun v9 =>
      loopO (fun ((v10,out7):Int × List Int) =>
       Z6 (decide (v10 < (Z0 (Z1 [] v3 (0+v4)))))
        (chk (0≤v10∧v10 < (Z0 (Z1 [] v3 (0+v4)))) <|
         let at':=(Z1 0 (Z1 [] v3 (0+v4)) v10)
         chk (0≤v10∧v10 < (Z0 v9)) <|
         Z7 (Z15 (Z1 0 v9 (0+v10)) level) fun v11 =>
         chk (0≤at'∧at' < (Z0 v1)) <|
         chk (inR .i64 (v10+1)) <|
         some (.go ((v10+1),(Ya out7 at' v11))))
        (some (.out (.go out7)))) (0,out5)) fun out6 =>
     chk (inR .i64 (v4+1)) <|
     some (.go ((v4+1),out6)))
    (some (.out (.go out5)))) (0,v1)) fun out =>
 chk ((2:Int)≠0) <|
 let ahead:=(Int.tmod (Yv base 0) 2)
 Zp (loopO (fun ((ahead1,v2,out2):Int × Int × List Int) =>
  Z6 (decide (v2 < (Z0 v.fRemoved)))
   (Zp (chk (0≤v2∧v2 < (Z0 v.fRemoved)) <|
     let gone:=(Z1 false v.fRemoved v2)
     Zp (Z6 gone
      (chk (0≤v2∧v2 < (Z0 v1)) <|
       some (.go (Ya out2 v2 ahead1)))
      (some (.go out2))) fun out4 =>
     chk (0≤v2∧v2 < (Z0 v1)) <|
     let ahead3:=(Z1 0 out4 (0+v2))
     some (.go (ahead3,out4))) fun (ahead2,out3) =>
    chk (inR .i64 (v2+1)) <|
    some (.go (ahead2,(v2+1),out3)))
   (some (.out (.go out2)))) (ahead,0,out)) fun Zf =>
 some Zf
noncomputable def Qq (d':Za) (r':(List Int)) (dir:Int):Option ((List Int) × Int) :=
 Z7 (Z33 d' r') fun v =>
 Zp (Z6 (if (!(dir == 0))=true then (!(dir == 1)) else false)
  (Z7 (Z5e v) fun v2 =>
   some (.go v2))
  (some (.go dir))) fun base =>
 Z7 (Z2p d' r' v base) fun v1 =>
 some (v1,base)
noncomputable def Z5h (d':Za) (r':Int):Option Int :=
 Z7 (Z3u d'.fJoin r') fun v =>
 some v
noncomputable def Qm (at':Int) (side:Int) (cap0:(List (Int × Int))) (cap1:Za) (cap2:(List Int)):Option Bool :=
 chk ((decide (0≤at'))=true→0≤at'∧at' < (Z0 cap2)) <|
 Z7 (if (decide (0≤at'))=true then Z5h cap1 (Z1 0 cap2 at') else some 0) fun v =>
 some (if (decide (0≤at'))=true then (!((Z0a .i64 (mgetI cap0 v) side) == 0)) else false)
noncomputable def Z36 (d':Za) (r':(List Int)) (at':Int):Option Int :=
 Z6 (if (decide (at' < 0))=true then true else (decide ((Z0 r')≤at')))
  (some (-1))
  (Zp (chk (inR .i64 (at'-1)) <|
    let i:=(at'-1)
    loopO (fun (i1:Int) =>
     Z6 (decide (0≤i1))
      (chk (0≤i1∧i1 < (Z0 r')) <|
       Z7 (Z5h d' (Z1 0 r' i1)) fun v =>
       Z6 (!(v == 4))
        (some (.out (.out i1)))
        (chk (inR .i64 (i1-1)) <|
         let i2:=(i1-1)
         some (.go i2)))
      (some (.out (.go ())))) i) fun (_:Unit) =>
   some (-1))
noncomputable def Z2q (d':Za) (r':(List Int)) (at':Int):Option Int :=
 Z6 (if (decide (at' < 0))=true then true else (decide ((Z0 r')≤at')))
  (some (-1))
  (Zp (chk (inR .i64 (at'+1)) <|
    let i:=(at'+1)
    loopO (fun (i1:Int) =>
     Z6 (decide (i1 < (Z0 r')))
      (chk (0≤i1∧i1 < (Z0 r')) <|
       Z7 (Z5h d' (Z1 0 r' i1)) fun v =>
       Z6 (!(v == 4))
        (some (.out (.out i1)))
        (chk (inR .i64 (i1+1)) <|
         let i2:=(i1+1)
         some (.go i2)))
      (some (.out (.go ())))) i) fun (_:Unit) =>
   some (-1))
noncomputable def Z4g (d':Za) (r':(List Int)):Option (List Int) :=
 Z7 (shape_sides) fun v =>
 chk (Xy 8 (Z0 r') (Z0 r')) <|
 Zp (loopO (fun ((v1,Zf):Int × List Int) =>
  Z6 (decide (v1 < (Z0 r')))
   (Z7 (Qm v1 1 v d' r') fun v2 =>
    Z7 (if v2=true then Z36 d' r' v1 else some 0) fun v3 =>
    Z7 (if v2=true then Qm v3 2 v d' r' else some false) fun v4 =>
    let first:=(if v2=true then v4 else false)
    Z7 (Qm v1 2 v d' r') fun v5 =>
    Z7 (if v5=true then Z2q d' r' v1 else some 0) fun v6 =>
    Z7 (if v5=true then Qm v6 1 v d' r' else some false) fun v7 =>
    let second:=(if v5=true then v7 else false)
    Z6 (if first=true then second else false)
     (chk (0≤v1∧v1 < (Z0 r')) <|
      chk (inR .i64 (v1+1)) <|
      some (.go ((v1+1),(Ya Zf v1 3))))
     (Z6 first
      (chk (0≤v1∧v1 < (Z0 r')) <|
       chk (inR .i64 (v1+1)) <|
       some (.go ((v1+1),(Ya Zf v1 1))))
      (Z6 second
       (chk (0≤v1∧v1 < (Z0 r')) <|
        chk (inR .i64 (v1+1)) <|
        some (.go ((v1+1),(Ya Zf v1 2))))
       (chk (0≤v1∧v1 < (Z0 r')) <|
        chk (inR .i64 (v1+1)) <|
        some (.go ((v1+1),(Ya Zf v1 0)))))))
   (some (.out (.go Zf)))) (0,(Z0n (Z0 r') 0))) fun out =>
 some out
noncomputable def Z6i (d':Za) (r':Int) (which:Int):Option Int :=
 Z6 (if (decide (which < 0))=true then true else (decide (3 < which)))
  (some r')
  (Zp (loopO (fun (v:Int) =>
    Z6 (decide (v < (Z0 d'.fForms)))
     (chk (0≤v∧v < (Z0 d'.fForms)) <|
      Z6 (!((Z1 X6 d'.fForms v).fR == r'))
       (chk (inR .i64 (v+1)) <|
        some (.go (v+1)))
       (Z6 ((Z1 X6 d'.fForms v).fN == 4)
        (chk (inR .i64 ((Z1 X6 d'.fForms v).fAt+which)) <|
         some (.out (.out ((Z1 X6 d'.fForms v).fAt+which))))
        (Z6 (if ((Z1 X6 d'.fForms v).fN == 2)=true then (if (which == 1)=true then true else (which == 3)) else false)
         (chk (inR .i64 ((Z1 X6 d'.fForms v).fAt+1)) <|
          some (.out (.out ((Z1 X6 d'.fForms v).fAt+1))))
         (some (.out (.out (Z1 X6 d'.fForms v).fAt))))))
     (some (.out (.go ())))) 0) fun (_:Unit) =>
   some r')
noncomputable def Z5i (d':Za) (r':Int):Option Int :=
 Zp (loopO (fun (v:Int) =>
  Z6 (decide (v < (Z0 d'.fMirror)))
   (chk (0≤v∧v < (Z0 d'.fMirror)) <|
    Z6 (r' == (Z1 Xs d'.fMirror v).fA)
     (some (.out (.out (Z1 Xs d'.fMirror v).fB)))
     (Z6 (r' == (Z1 Xs d'.fMirror v).fB)
      (some (.out (.out (Z1 Xs d'.fMirror v).fA)))
      (chk (inR .i64 (v+1)) <|
       some (.go (v+1)))))
   (some (.out (.go ())))) 0) fun (_:Unit) =>
 some r'
noncomputable def Z37 (d':Za) (r':Int) (level:Int) (boxes:Bool):Option Int :=
 Z6 (if ((Z0a .i64 level 1) == 0)=true then true else (if (if (decide (9472≤r'))=true then (decide (r'≤9631)) else false)=true then (!boxes) else false))
  (some r')
  (Z7 (Z5i d' r') fun v =>
   some v)
noncomputable def Z38 (lam:Int) (alef:Int) (final:Bool):Option (Int × Bool) :=
 Z6 (!(lam == 1604))
  (some (0,false))
  (Z6 (alef == 1570)
   (Z6 final
    (chk (inR .i64 (65269+1)) <|
     let r':=(65269+1)
     some (r',true))
    (some (65269,true)))
   (Z6 (alef == 1571)
    (Z6 final
     (chk (inR .i64 (65271+1)) <|
      let r'1:=(65271+1)
      some (r'1,true))
     (some (65271,true)))
    (Z6 (alef == 1573)
     (Z6 final
      (chk (inR .i64 (65273+1)) <|
       let r'2:=(65273+1)
       some (r'2,true))
      (some (65273,true)))
     (Z6 (alef == 1575)
      (Z6 final
       (chk (inR .i64 (65275+1)) <|
        let r'3:=(65275+1)
        some (r'3,true))
       (some (65275,true)))
      (some (0,false))))))
noncomputable def Z39 (d':Za) (r':(List Int)) (levels:(List Int)) (boxes:Bool):Option (List Int) :=
 Z7 (Y9 r') fun v =>
 Z6 (!((Z0 r') == (Z0 levels)))
  (some v)
  (Z7 (Z4g d' r') fun v1 =>
   Zp (loopO (fun ((v5,out3):Int × List Int) =>
    Z6 (decide (v5 < (Z0 r')))
     (Zp (Zp (chk (0≤v5∧v5 < (Z0 r')) <|
        let x'1:=(Z1 0 r' v5)
        chk (0≤v5∧v5 < (Z0 v1)) <|
        Z7 (Z6i d' x'1 (Z1 0 v1 (0+v5))) fun v7 =>
        chk (0≤v5∧v5 < (Z0 v)) <|
        some (.go (Ya out3 v5 v7))) fun out5 =>
       chk (0≤v5∧v5 < (Z0 v)) <|
       Z6 ((Z1 0 out5 (0+v5)) == (Z1 0 r' v5))
        (chk (0≤v5∧v5 < (Z0 levels)) <|
         Z7 (Z37 d' (Z1 0 r' v5) (Z1 0 levels v5) boxes) fun v6 =>
         chk (0≤v5∧v5 < (Z0 v)) <|
         some (.go (Ya out5 v5 v6)))
        (some (.go out5))) fun out4 =>
      chk (inR .i64 (v5+1)) <|
      some (.go ((v5+1),out4)))
     (some (.out (.go out3)))) (0,v)) fun out =>
   Zp (loopO (fun ((v2,out2):Int × List Int) =>
    Z6 (decide (v2 < (Z0 r')))
     (chk (0≤v2∧v2 < (Z0 r')) <|
      let x':=(Z1 0 r' v2)
      Z7 (Z2q d' r' v2) fun v3 =>
      Z6 (if (!(x' == 1604))=true then true else (decide (v3 < 0)))
       (chk (inR .i64 (v2+1)) <|
        some (.go ((v2+1),out2)))
       (chk (0≤v2∧v2 < (Z0 v1)) <|
        chk ((!((Z1 0 v1 (0+v2)) == 1))=true→0≤v2∧v2 < (Z0 v1)) <|
        let final:=(if ((Z1 0 v1 (0+v2)) == 1)=true then true else ((Z1 0 v1 (0+v2)) == 3))
        chk (0≤v3∧v3 < (Z0 r')) <|
        Z7 (Z38 x' (Z1 0 r' v3) final) fun v4 =>
        let g':=v4.1
        let ok:=v4.2
        Z6 ok
         (chk (0≤v2∧v2 < (Z0 v)) <|
          chk (0≤v3∧v3 < (Z0 v)) <|
          chk (inR .i64 (v2+1)) <|
          some (.go ((v2+1),(Ya (Ya out2 v2 g') v3 0))))
         (chk (inR .i64 (v2+1)) <|
          some (.go ((v2+1),out2)))))
     (some (.out (.go out2)))) (0,out)) fun Zf =>
   some Zf)
noncomputable def Z21 (d':Za) (l':(List Z5)) (from':Int) (to:Int) (boxes:Bool):Option Yh :=
 chk (0≤from'∧from'≤to∧to≤(Z0 l')) <|
 Z7 (Z1o (X7 l' from' to)) fun v =>
 chk (0≤from'∧from' < (Z0 l')) <|
 Z7 (Qq d' v (Z1 Z3 l' from').fDir) fun v1 =>
 let base:=v1.2
 Z7 (Z39 d' v v1.1 boxes) fun v2 =>
 some (Yh.mk from' to v1.1 v2 base)
noncomputable def Z3a (c':Int):Option Bool :=
 Zp (Zp (Z6 (c' == 13)
   (some (.go (c' == 13)))
   (Z6 (c' == 10)
    (some (.go (c' == 10)))
    (Z6 (c' == 15)
     (some (.go (c' == 15)))
     (Z6 (c' == 16)
      (some (.go (c' == 16)))
      (Z6 (c' == 17)
       (some (.go (c' == 17)))
       (Z6 (c' == 18)
        (some (.go (c' == 18)))
        (Z6 (c' == 19)
         (some (.go (c' == 19)))
         (Z6 (c' == 20)
          (some (.go (c' == 20)))
          (Z6 (c' == 21)
           (some (.go (c' == 21)))
           (Z6 (c' == 22)
            (some (.go (c' == 22)))
            (some (.go (c' == 23))))))))))))) fun v =>
  Z6 v
   (some (.out true))
   (some (.go ()))) fun (_:Unit) =>
 some false
noncomputable def Z4h (d':Za) (r':(List Int)) (levels:(List Int)) (base:Int):Option (List Int) :=
 Z7 (Y9 levels) fun v =>
 Z6 (!((Z0 r') == (Z0 levels)))
  (some v)
  (Zp (chk (inR .i64 ((Z0 r')-1)) <|
    let i:=((Z0 r')-1)
    loopO (fun ((end',i1,Zf):Bool × Int × List Int) =>
     Z6 (decide (0≤i1))
      (chk (0≤i1∧i1 < (Z0 r')) <|
       Z7 (Z3v d' (Z1 0 r' i1)) fun v1 =>
       Z6 (if (v1 == 11)=true then true else (v1 == 12))
        (chk (0≤i1∧i1 < (Z0 v)) <|
         chk (inR .i64 (i1-1)) <|
         let i2:=(i1-1)
         some (.go (true,i2,(Ya Zf i1 base))))
        (Z7 (Z3a v1) fun v2 =>
         Z6 (!v2)
          (chk (inR .i64 (i1-1)) <|
           let i3:=(i1-1)
           some (.go (false,i3,Zf)))
          (Z6 end'
           (chk (0≤i1∧i1 < (Z0 v)) <|
            chk (inR .i64 (i1-1)) <|
            let i4:=(i1-1)
            some (.go (end',i4,(Ya Zf i1 base))))
           (chk (inR .i64 (i1-1)) <|
            let i5:=(i1-1)
            some (.go (end',i5,Zf))))))
      (some (.out (.go Zf)))) (true,i,v)) fun out =>
   some out)
noncomputable def Z5j (d':Za) (l':(List Z5)) (y':Int) (p':Yh):Option Zi :=
 chk (0≤p'.ffrom∧p'.ffrom≤y'∧y'≤(Z0 l')) <|
 Z7 (Z1o (X7 l' p'.ffrom y')) fun v =>
 let start:=(Z0 v)
 chk (0≤y'∧y' < (Z0 l')) <|
 Z7 (Z0x (Z1 Z3 l' y')) fun v1 =>
 chk (inR .i64 (start+(Z0 v1.1))) <|
 chk (0≤start∧start≤(start+(Z0 v1.1))∧(start+(Z0 v1.1))≤(Z0 p'.flevels)) <|
 Z7 (Z4h d' v1.1 (X7 p'.flevels start (start+(Z0 v1.1))) p'.fbase) fun v2 =>
 chk (0≤y'∧y' < (Z0 l')) <|
 chk (Xy 56 (Z0 (Z1 Z3 l' y').fCells) (Z0 (Z1 Z3 l' y').fCells)) <|
 Zp (chk (0≤y'∧y' < (Z0 l')) <|
  loopO (fun ((n,v4,cells1):Int × Int × List Zc) =>
   Z6 (decide (v4 < (Z0 (Z1 Z3 l' y').fCells)))
    (chk (0≤v4∧v4 < (Z0 (Z1 Z3 l' y').fCells)) <|
     Z6 (!((Z1 Z2 (Z1 Z3 l' y').fCells v4).fW == 0))
      (Z6 (!((Z1 Z2 (Z1 Z3 l' y').fCells v4).fR == 0))
       (chk (0≤n∧n < (Z0 p'.fglyphs)) <|
        chk (inR .i64 (n+1)) <|
        let n1:=(n+1)
        chk (0≤v4∧v4 < (Z0 (Z1 Z3 l' y').fCells)) <|
        chk (inR .i64 (v4+1)) <|
        some (.go (n1,(v4+1),(Ya cells1 v4 (Zc.mk (Z1 0 p'.fglyphs n) (Z1 Z2 (Z1 Z3 l' y').fCells v4).fM (Z1 Z2 (Z1 Z3 l' y').fCells v4).fW (Z1 Z2 (Z1 Z3 l' y').fCells v4).fPen)))))
       (chk (inR .i64 (n+1)) <|
        let n2:=(n+1)
        chk (0≤v4∧v4 < (Z0 (Z1 Z3 l' y').fCells)) <|
        chk (inR .i64 (v4+1)) <|
        some (.go (n2,(v4+1),(Ya cells1 v4 (Z1 Z2 (Z1 Z3 l' y').fCells v4))))))
      (chk (0≤v4∧v4 < (Z0 (Z1 Z3 l' y').fCells)) <|
       chk (inR .i64 (v4+1)) <|
       some (.go (n,(v4+1),(Ya cells1 v4 (Z1 Z2 (Z1 Z3 l' y').fCells v4))))))
    (some (.out (.go cells1)))) (start,0,(Z0n (Z0 (Z1 Z3 l' y').fCells) Z2))) fun cells =>
 Z7 (Z32 cells v2 v1.2 p'.fbase) fun v3 =>
 some v3
noncomputable def Z5k (d':Za) (l':(List Z5)) (boxes:Bool):Option (List Zi) :=
 Z7 (Xg l') fun v =>
 Z6 (!v)
  (some ([]:List Zi))
  (chk (Xy 80 (Z0 l') (Z0 l')) <|
   Zp (loopO (fun ((v1,Zf,b8_0,b8_1,b8_2,b8_3,b8_4):Int × List Zi × Int × Int × List Int × List Int × Int) =>
    Z6 (decide (v1 < (Z0 l')))
     (Zp (chk (0≤v1∧v1 < (Z0 l')) <|
       Z6 (Z1 Z3 l' v1).fExplicit
        (Z7 (Z2g (Z1 Z3 l' v1)) fun v2 =>
         chk (0≤v1∧v1 < (Z0 l')) <|
         some (.go ((Ya Zf v1 v2),b8_0,b8_1,b8_2,b8_3,b8_4)))
        (Zp (Z7 (Z3q l' v1) fun v4 =>
          let from':=v4.1
          let to:=v4.2
          Z6 (if (!(from' == b8_0))=true then true else (!(to == b8_1)))
           (Z7 (Z21 d' l' from' to boxes) fun v5 =>
            some (.go (v5.ffrom,v5.fto,v5.flevels,v5.fglyphs,v5.fbase)))
           (some (.go (b8_0,b8_1,b8_2,b8_3,b8_4)))) fun (b8_02,b8_12,b8_22,b8_32,b8_42) =>
         Z7 (Z5j d' l' v1 (Yh.mk b8_02 b8_12 b8_22 b8_32 b8_42)) fun v3 =>
         chk (0≤v1∧v1 < (Z0 l')) <|
         some (.go ((Ya Zf v1 v3),b8_02,b8_12,b8_22,b8_32,b8_42)))) fun (out2,b8_01,b8_11,b8_21,b8_31,b8_41) =>
      chk (inR .i64 (v1+1)) <|
      some (.go ((v1+1),out2,b8_01,b8_11,b8_21,b8_31,b8_41)))
     (some (.out (.go Zf)))) (0,(Z0n (Z0 l') Yj),0,0,([]:List Int),([]:List Int),0)) fun out =>
   some out)
noncomputable def Z4i (x':Int):Option Int :=
 chk (inR .i64 ((Yu x' 4096)+1)) <|
 some ((Yu x' 4096)+1)
noncomputable def Z6j (x':Zi) (r':Z5):Option ((List Int) × Bool) :=
 Z7 (if (!(!((Z0 x'.fV2L) == (Z0 r'.fCells))))=true then Yx r' else some false) fun v =>
 Z6 (if (!((Z0 x'.fV2L) == (Z0 r'.fCells)))=true then true else (!v))
  (some (([]:List Int),false))
  (Z7 (Z03 x'.fV2L) fun v1 =>
   some (v1.1,v1.2))
noncomputable def Z1q (x':Zi) (r':Z5) (from':Int) (to:Int):Option (List Int) :=
 Z7 (Z6j x' r') fun v =>
 let ok:=v.2
 Z6 (!ok)
  (some ([]:List Int))
  (Zp (loopO (fun ((v1,Zf):Int × List Int) =>
    Z6 (decide (v1 < (Z0 r'.fCells)))
     (Zp (chk (0≤v1∧v1 < (Z0 r'.fCells)) <|
       loopO (fun (j:Int) =>
        chk (inR .i64 (v1+(Z1 Z2 r'.fCells v1).fW)) <|
        Z6 (decide (j < (v1+(Z1 Z2 r'.fCells v1).fW)))
         (chk (0≤j∧j < (Z0 v.1)) <|
          chk ((decide (from'≤(Z1 0 v.1 j)))=true→0≤j∧j < (Z0 v.1)) <|
          Z6 (if (decide (from'≤(Z1 0 v.1 j)))=true then (decide ((Z1 0 v.1 j) < to)) else false)
           (chk (Yl 8 ((Z0 Zf)+1)) <|
            some (.out (.go (Zf++([v1]:List Int)))))
           (chk (inR .i64 (j+1)) <|
            let j1:=(j+1)
            some (.go j1)))
         (some (.out (.go Zf)))) v1) fun out2 =>
      chk (inR .i64 (v1+1)) <|
      some (.go ((v1+1),out2)))
     (some (.out (.go Zf)))) (0,([]:List Int))) fun out =>
   some out)
noncomputable def Z2r (r':Z5) (l':(List Int)):Option (List Int) :=
 Z7 (Yx r') fun v =>
 Z6 (!v)
  (some ([]:List Int))
  (Zp (loopO (fun ((v1,Zf):Int × List Int) =>
    Z6 (decide (v1 < (Z0 l')))
     (Zp (chk (0≤v1∧v1 < (Z0 l')) <|
       let at':=(Z1 0 l' v1)
       chk ((!(if (decide (at' < 0))=true then true else (decide ((Z0 r'.fCells)≤at'))))=true→0≤at'∧at' < (Z0 r'.fCells)) <|
       Z6 (if (if (decide (at' < 0))=true then true else (decide ((Z0 r'.fCells)≤at')))=true then true else ((Z1 Z2 r'.fCells at').fW == 0))
        (some (.go Zf))
        (chk (0≤at'∧at' < (Z0 r'.fCells)) <|
         Zp (Z6 ((Z1 Z2 r'.fCells at').fR == 0)
          (some (.go 32))
          (some (.go (Z1 Z2 r'.fCells at').fR))) fun b8_0 =>
         chk (Yl 8 ((Z0 Zf)+1)) <|
         Zp (let m1:=(Z1 Z2 r'.fCells at').fM.x0
          Z6 (!(m1 == 0))
           (chk (Yl 8 (((Z0 Zf)+1)+1)) <|
            chk (inR .i64 (0+1)) <|
            some (.go ((Zf++([b8_0]:List Int))++([m1]:List Int))))
           (chk (inR .i64 (0+1)) <|
            some (.go (Zf++([b8_0]:List Int))))) fun out3 =>
         Zp (let m:=(Z1 Z2 r'.fCells at').fM.x1
          Z6 (!(m == 0))
           (chk (Yl 8 ((Z0 out3)+1)) <|
            chk (inR .i64 (1+1)) <|
            some (.go (out3++([m]:List Int))))
           (chk (inR .i64 (1+1)) <|
            some (.go out3))) fun out4 =>
         some (.go out4))) fun out2 =>
      chk (inR .i64 (v1+1)) <|
      some (.go ((v1+1),out2)))
     (some (.out (.go Zf)))) (0,([]:List Int))) fun out =>
   some out)
noncomputable def Z6k (l':(List Int)):Option (List Int) :=
 Zp (loopO (fun (l'2:List Int) =>
  chk ((decide (0 < (Z0 l'2)))=true→inR .i64 ((Z0 l'2)-1)) <|
  chk ((decide (0 < (Z0 l'2)))=true→0≤((Z0 l'2)-1)∧((Z0 l'2)-1) < (Z0 l'2)) <|
  Z6 (if (decide (0 < (Z0 l'2)))=true then ((Z1 0 l'2 ((Z0 l'2)-1)) == 32) else false)
   (chk (inR .i64 ((Z0 l'2)-1)) <|
    chk ((0:Int)≤0∧(0:Int)≤((Z0 l'2)-1)∧((Z0 l'2)-1)≤(Z0 l'2)) <|
    some (.go (X7 l'2 0 ((Z0 l'2)-1))))
   (some (.out (.go l'2)))) l') fun l'1 =>
 some l'1
noncomputable def Z53 (s:Yi) (l':(List Int)):Option (Yi) :=
 loopO (fun ((v,o):Int × List Int) =>
  Z6 (decide (v < (Z0 l')))
   (chk (0≤v∧v < (Z0 l')) <|
    let x':=(Z1 0 l' v)
    Z6 (decide (s.fmost≤(Z0 o)))
     (none)
     (chk (Yl 8 ((Z0 o)+1)) <|
      chk (inR .i64 (v+1)) <|
      some (.go ((v+1),(o++([x']:List Int))))))
   (some (.out (Yi.mk o s.fmost)))) (0,s.fl)
noncomputable def Z4j (s:Yi) (cap0:Zu) (cap1:Zu) (cap2:(List Z5)) (cap3:(List Zi)):Option (Yi) :=
 let y':=cap0.fY
 loopO (fun ((y'1,b0_1,o):Int × Int × List Int) =>
  Z6 (decide (y'1≤cap1.fY))
   (Zp (chk (0≤y'1∧y'1 < (Z0 cap2)) <|
     let to:=(Z0 (Z1 Z3 cap2 y'1).fCells)
     Zp (Z6 (y'1 == cap0.fY)
      (let from'1:=cap0.fX
       some (.go from'1))
      (some (.go 0))) fun from' =>
     Zp (Z6 (y'1 == cap1.fY)
      (Z7 (Z4i cap1.fX) fun v5 =>
       some (.go v5))
      (some (.go to))) fun to1 =>
     chk (0≤y'1∧y'1 < (Z0 cap2)) <|
     chk (0≤y'1∧y'1 < (Z0 cap3)) <|
     chk (0≤y'1∧y'1 < (Z0 cap2)) <|
     Z7 (Z1q (Z1 Yj cap3 y'1) (Z1 Z3 cap2 y'1) from' to1) fun v =>
     Z7 (Z2r (Z1 Z3 cap2 y'1) v) fun v1 =>
     Zp (chk (0≤y'1∧y'1 < (Z0 cap2)) <|
      Z6 (!(Z1 Z3 cap2 y'1).fWrap)
       (Z7 (Z6k v1) fun v4 =>
        some (.go v4))
       (some (.go v1))) fun text =>
     Z7 (Z53 (Yi.mk o b0_1) text) fun v2 =>
     chk ((decide (y'1 < cap1.fY))=true→0≤y'1∧y'1 < (Z0 cap2)) <|
     Z6 (if (decide (y'1 < cap1.fY))=true then (!(Z1 Z3 cap2 y'1).fWrap) else false)
      (Z7 (Z53 v2 ([10]:List Int)) fun v3 =>
       some (.go (v3.fmost,v3.fl)))
      (some (.go (v2.fmost,v2.fl)))) fun (b0_11,o1) =>
    chk (inR .i64 (y'1+1)) <|
    let y'2:=(y'1+1)
    some (.go (y'2,b0_11,o1)))
   (some (.out (Yi.mk o b0_1)))) (y',s.fmost,s.fl)
noncomputable def Z0i (most:Int) (a b:Zu) (rows:List Z5) (l:List Zi):Option (List Int × Bool) :=
 Z7 (Z4j ⟨[],Yv 0 (Yu most 65536)⟩ a b rows l) fun s=>some (s.fl,true)
noncomputable def Z54 (l':(List Zi)) (rows:(List Z5)) (a:Zu) (b:Zu) (most:Int):Option ((List Int) × Bool) :=
 Z6 (if (!((Z0 l') == (Z0 rows)))=true then true else ((Z0 rows) == 0))
  (some (([]:List Int),true))
  (chk (inR .i64 ((Z0 rows)-1)) <|
   let last:=((Z0 rows)-1)
   Zp (Z6 (if (decide ((Yv 0 (Yu b.fY last)) < (Yv 0 (Yu a.fY last))))=true then true else (if ((Yv 0 (Yu a.fY last)) == (Yv 0 (Yu b.fY last)))=true then (decide (b.fX < a.fX)) else false))
    (some (.go ((Yv 0 (Yu b.fY last)),b.fX,(Yv 0 (Yu a.fY last)),a.fX)))
    (some (.go ((Yv 0 (Yu a.fY last)),a.fX,(Yv 0 (Yu b.fY last)),b.fX)))) fun (b7_0,b7_1,b8_0,b8_1) =>
   Z7 (Z0i most (Zu.mk b7_0 b7_1) (Zu.mk b8_0 b8_1) rows l') fun v =>
   some (v.1,v.2))
noncomputable def X9 (a:(List Int)) (b:(List Int)):Option Bool :=
 Z6 (!((Z0 a) == (Z0 b)))
  (some false)
  (Zp (loopO (fun (i:Int) =>
    Z6 (decide (i < (Z0 a)))
     (chk (0≤i∧i < (Z0 a)) <|
      chk (0≤i∧i < (Z0 b)) <|
      Z6 (!((Z1 0 a i) == (Z1 0 b i)))
       (some (.out (.out false)))
       (chk (inR .i64 (i+1)) <|
        let i1:=(i+1)
        some (.go i1)))
     (some (.out (.go ())))) 0) fun (_:Unit) =>
   some true)
noncomputable def Xt  : Option Bool :=
 Z7 (Z4d) fun v =>
 Z7 (Z5k v ([(Z5.mk ([(Zc.mk 97 Zy 1 Qe),(Zc.mk 1488 Zy 1 Qe),(Zc.mk 1489 Zy 1 Qe)]:List Zc) false 0 false)]:List Z5) false) fun v1 =>
 Z7 (Z54 v1 ([(Z5.mk ([(Zc.mk 97 Zy 1 Qe),(Zc.mk 1488 Zy 1 Qe),(Zc.mk 1489 Zy 1 Qe)]:List Zc) false 0 false)]:List Z5) (Zu.mk 0 1) (Zu.mk 0 2) 9) fun v2 =>
 let ok:=v2.2
 Z7 (if ok=true then X9 v2.1 ([1488,1489]:List Int) else some false) fun v3 =>
 some (if (if ok=true then v3 else false)=true then ((Z0 v1) == 1) else false)
noncomputable def Q5 (l':(List Z5)):Option Bool :=
 Z6 (decide (60 < (Z0 l')))
  (some false)
  (Zp (loopO (fun (i:Int) =>
    Z6 (decide (i < (Z0 l')))
     (chk (0≤i∧i < (Z0 l')) <|
      Z6 (decide (100 < (Z0 (Z1 Z3 l' i).fCells)))
       (some (.out (.out false)))
       (chk (inR .i64 (i+1)) <|
        let i1:=(i+1)
        some (.go i1)))
     (some (.out (.go ())))) 0) fun (_:Unit) =>
   some true)
noncomputable def Xl (r':Int):Option Bool :=
 some (if (decide (0≤r'))=true then (decide (r'≤1114111)) else false)
noncomputable def Q6 (c':Int):Option (Int × Int × Int × Int) :=
 Z6 (c' == 0)
  (some (0,0,0,0))
  (Z6 (if (decide (1≤c'))=true then (decide (c'≤256)) else false)
   (chk (inR .i64 (c'-1)) <|
    some (1,(c'-1),0,0))
   (Z6 (if (decide (16777216≤c'))=true then (decide (c' < 33554432)) else false)
    (chk ((65536:Int)≠0) <|
     chk (inR .i64 (Int.tdiv c' 65536)) <|
     chk ((256:Int)≠0) <|
     chk ((256:Int)≠0) <|
     chk (inR .i64 (Int.tdiv c' 256)) <|
     chk ((256:Int)≠0) <|
     chk ((256:Int)≠0) <|
     some (2,(Int.tmod (Int.tdiv c' 65536) 256),(Int.tmod (Int.tdiv c' 256) 256),(Int.tmod c' 256)))
    (some (3,0,0,0))))
noncomputable def Z04 (p':Q1):Option Bool :=
 Z7 (Q6 p'.fFg) fun v =>
 let f':=v.1
 let _:=v.2.1
 let _1:=v.2.2.1
 let _2:=v.2.2.2
 Z7 (Q6 p'.fBg) fun v1 =>
 let b:=v1.1
 let _3:=v1.2.1
 let _4:=v1.2.2.1
 let _5:=v1.2.2.2
 some (if (if (if (!(f' == 3))=true then (!(b == 3)) else false)=true then (decide (0≤p'.fFlags)) else false)=true then (decide (p'.fFlags≤511)) else false)
noncomputable def Z0j (c':Zc):Option Bool :=
 Z7 (if (!(if (decide (c'.fW < 0))=true then true else (decide (2 < c'.fW))))=true then Xl c'.fR else some false) fun v =>
 Z7 (if (!(if (if (decide (c'.fW < 0))=true then true else (decide (2 < c'.fW)))=true then true else (!v)))=true then Xl c'.fM.x0 else some false) fun v1 =>
 Z7 (if (!(if (if (if (decide (c'.fW < 0))=true then true else (decide (2 < c'.fW)))=true then true else (!v))=true then true else (!v1)))=true then Xl c'.fM.x1 else some false) fun v2 =>
 Z7 (if (!(if (if (if (if (decide (c'.fW < 0))=true then true else (decide (2 < c'.fW)))=true then true else (!v))=true then true else (!v1))=true then true else (!v2)))=true then Z04 c'.fPen else some false) fun v3 =>
 Z6 (if (if (if (if (if (decide (c'.fW < 0))=true then true else (decide (2 < c'.fW)))=true then true else (!v))=true then true else (!v1))=true then true else (!v2))=true then true else (!v3))
  (some false)
  (some (if (if (if (if (!(c'.fM.x0 == 0))=true then true else (c'.fM.x1 == 0))=true then (if (!(c'.fR == 0))=true then true else (c'.fM.x0 == 0)) else false)=true then (if (!(c'.fW == 0))=true then true else (c'.fR == 0)) else false)=true then (if (!(c'.fW == 2))=true then true else (!(c'.fR == 0))) else false))
noncomputable def Z2h (p':Q1):Option Zc :=
 some (Zc.mk 0 Zy 1 p')
noncomputable def Z3b (r':Z5) (l':(List Zc)):Option Z5 :=
 some (Z5.mk l' r'.fWrap r'.fDir r'.fExplicit)
noncomputable def Z05 (r':Z5):Option Z5 :=
 chk (Yl 56 (Z0 r'.fCells)) <|
 Zp (loopO (fun ((i,l'1):Int × List Zc) =>
  Z6 (decide (i < (Z0 r'.fCells)))
   (chk (0≤i∧i < (Z0 r'.fCells)) <|
    chk (((Z1 Z2 l'1 (0+i)).fW == 2)=true→inR .i64 (i+1)) <|
    chk ((((Z1 Z2 l'1 (0+i)).fW == 2) && (((Z1 Z2 l'1 (0+i)).fW == 2) && (!(decide ((Z0 r'.fCells)≤(i+1))))))=true→inR .i64 (i+1)) <|
    chk ((((Z1 Z2 l'1 (0+i)).fW == 2) && (((Z1 Z2 l'1 (0+i)).fW == 2) && (!(decide ((Z0 r'.fCells)≤(i+1))))))=true→0≤(i+1)∧(i+1) < (Z0 r'.fCells)) <|
    chk ((!(if ((Z1 Z2 l'1 (0+i)).fW == 2)=true then (if (decide ((Z0 r'.fCells)≤(i+1)))=true then true else (!((Z1 Z2 l'1 (0+(i+1))).fW == 0))) else false))=true→0≤i∧i < (Z0 r'.fCells)) <|
    chk ((((!(if ((Z1 Z2 l'1 (0+i)).fW == 2)=true then (if (decide ((Z0 r'.fCells)≤(i+1)))=true then true else (!((Z1 Z2 l'1 (0+(i+1))).fW == 0))) else false)) && ((!(if ((Z1 Z2 l'1 (0+i)).fW == 2)=true then (if (decide ((Z0 r'.fCells)≤(i+1)))=true then true else (!((Z1 Z2 l'1 (0+(i+1))).fW == 0))) else false)) && ((Z1 Z2 l'1 (0+i)).fW == 0))) && (((!(if ((Z1 Z2 l'1 (0+i)).fW == 2)=true then (if (decide ((Z0 r'.fCells)≤(i+1)))=true then true else (!((Z1 Z2 l'1 (0+(i+1))).fW == 0))) else false)) && ((!(if ((Z1 Z2 l'1 (0+i)).fW == 2)=true then (if (decide ((Z0 r'.fCells)≤(i+1)))=true then true else (!((Z1 Z2 l'1 (0+(i+1))).fW == 0))) else false)) && ((Z1 Z2 l'1 (0+i)).fW == 0))) && (!(i == 0))))=true→inR .i64 (i-1)) <|
    chk ((((!(if ((Z1 Z2 l'1 (0+i)).fW == 2)=true then (if (decide ((Z0 r'.fCells)≤(i+1)))=true then true else (!((Z1 Z2 l'1 (0+(i+1))).fW == 0))) else false)) && ((!(if ((Z1 Z2 l'1 (0+i)).fW == 2)=true then (if (decide ((Z0 r'.fCells)≤(i+1)))=true then true else (!((Z1 Z2 l'1 (0+(i+1))).fW == 0))) else false)) && ((Z1 Z2 l'1 (0+i)).fW == 0))) && (((!(if ((Z1 Z2 l'1 (0+i)).fW == 2)=true then (if (decide ((Z0 r'.fCells)≤(i+1)))=true then true else (!((Z1 Z2 l'1 (0+(i+1))).fW == 0))) else false)) && ((!(if ((Z1 Z2 l'1 (0+i)).fW == 2)=true then (if (decide ((Z0 r'.fCells)≤(i+1)))=true then true else (!((Z1 Z2 l'1 (0+(i+1))).fW == 0))) else false)) && ((Z1 Z2 l'1 (0+i)).fW == 0))) && (!(i == 0))))=true→0≤(i-1)∧(i-1) < (Z0 r'.fCells)) <|
    Z6 (if (if ((Z1 Z2 l'1 (0+i)).fW == 2)=true then (if (decide ((Z0 r'.fCells)≤(i+1)))=true then true else (!((Z1 Z2 l'1 (0+(i+1))).fW == 0))) else false)=true then true else (if ((Z1 Z2 l'1 (0+i)).fW == 0)=true then (if (i == 0)=true then true else (!((Z1 Z2 l'1 (0+(i-1))).fW == 2))) else false))
     (chk (0≤i∧i < (Z0 r'.fCells)) <|
      Z7 (Z2h (Z1 Z2 l'1 (0+i)).fPen) fun v1 =>
      chk (0≤i∧i < (Z0 r'.fCells)) <|
      chk (inR .i64 (i+1)) <|
      let i1:=(i+1)
      some (.go (i1,(Ya l'1 i v1))))
     (chk (inR .i64 (i+1)) <|
      let i2:=(i+1)
      some (.go (i2,l'1))))
   (some (.out (.go l'1)))) (0,r'.fCells)) fun l' =>
 Z7 (Z3b r' l') fun v =>
 some v
noncomputable def Qr (a:(List Zc)) (b:(List Zc)):Option Bool :=
 Z6 (!((Z0 a) == (Z0 b)))
  (some false)
  (Zp (loopO (fun (i:Int) =>
    Z6 (decide (i < (Z0 a)))
     (chk (0≤i∧i < (Z0 a)) <|
      chk (0≤i∧i < (Z0 b)) <|
      Z6 (!(((Z1 Z2 a i).fR == (Z1 Z2 b i).fR) && (((Z1 Z2 a i).fM.x0 == (Z1 Z2 b i).fM.x0) && (((Z1 Z2 a i).fM.x1 == (Z1 Z2 b i).fM.x1) && (((Z1 Z2 a i).fW == (Z1 Z2 b i).fW) && (((Z1 Z2 a i).fPen.fFg == (Z1 Z2 b i).fPen.fFg) && (((Z1 Z2 a i).fPen.fBg == (Z1 Z2 b i).fPen.fBg) && (((Z1 Z2 a i).fPen.fFlags == (Z1 Z2 b i).fPen.fFlags) && true))))))))
       (some (.out (.out false)))
       (chk (inR .i64 (i+1)) <|
        let i1:=(i+1)
        some (.go i1)))
     (some (.out (.go ())))) 0) fun (_:Unit) =>
   some true)
noncomputable def Z1g (a:Z5) (b:Z5):Option Bool :=
 Z7 (Qr a.fCells b.fCells) fun v =>
 some (if (if (if v=true then (a.fWrap == b.fWrap) else false)=true then (a.fDir == b.fDir) else false)=true then (a.fExplicit == b.fExplicit) else false)
noncomputable def Z06 (r':Z5):Option Bool :=
 Zp (loopO (fun (i:Int) =>
  Z6 (decide (i < (Z0 r'.fCells)))
   (chk (0≤i∧i < (Z0 r'.fCells)) <|
    Z7 (Z0j (Z1 Z2 r'.fCells i)) fun v2 =>
    Z6 (!v2)
     (some (.out (.out false)))
     (chk (inR .i64 (i+1)) <|
      let i1:=(i+1)
      some (.go i1)))
   (some (.out (.go ())))) 0) fun (_:Unit) =>
 Z7 (if (if (if (if (decide (1≤(Z0 r'.fCells)))=true then (decide ((Z0 r'.fCells)≤4096)) else false)=true then (decide (0≤r'.fDir)) else false)=true then (decide (r'.fDir≤2)) else false)=true then Z05 r' else some Z3) fun v =>
 Z7 (if (if (if (if (decide (1≤(Z0 r'.fCells)))=true then (decide ((Z0 r'.fCells)≤4096)) else false)=true then (decide (0≤r'.fDir)) else false)=true then (decide (r'.fDir≤2)) else false)=true then Z1g v r' else some false) fun v1 =>
 some (if (if (if (if (decide (1≤(Z0 r'.fCells)))=true then (decide ((Z0 r'.fCells)≤4096)) else false)=true then (decide (0≤r'.fDir)) else false)=true then (decide (r'.fDir≤2)) else false)=true then v1 else false)
noncomputable def Xm (g':Yb):Option Bool :=
 Zp (loopO (fun (i:Int) =>
  Z6 (decide (i < (Z0 g'.fRows)))
   (chk (0≤i∧i < (Z0 g'.fRows)) <|
    Z7 (Z06 (Z1 Z3 g'.fRows i)) fun v =>
    chk ((!(!v))=true→0≤i∧i < (Z0 g'.fRows)) <|
    chk ((!(!v))=true→(0:Int)≤0∧(0:Int) < (Z0 g'.fRows)) <|
    Z6 (if (!v)=true then true else (!((Z0 (Z1 Z3 g'.fRows i).fCells) == (Z0 (Z1 Z3 g'.fRows 0).fCells))))
     (some (.out (.out false)))
     (chk (inR .i64 (i+1)) <|
      let i1:=(i+1)
      some (.go i1)))
   (some (.out (.go ())))) 0) fun (_:Unit) =>
 some (if (decide (1≤(Z0 g'.fRows)))=true then (decide ((Z0 g'.fRows)≤1000)) else false)
noncomputable def Z4k (r':Z5) (from':Int) (to:Int):Option (Int × Int) :=
 let w:=(Z0 r'.fCells)
 let from'1:=(Yv 0 (Yu from' w))
 let to1:=(Yv 0 (Yu to w))
 some (from'1,(Yv from'1 to1))
noncomputable def Z2s (r':Z5) (from':Int) (to:Int):Option (List Int) :=
 Z7 (Yx r') fun v =>
 Z6 (!v)
  (some ([]:List Int))
  (Z7 (Z4k r' from' to) fun v1 =>
   let from'1:=v1.1
   let to1:=v1.2
   Zp (chk (0≤from'1∧from'1≤to1∧to1≤(Z0 r'.fCells)) <|
    loopO (fun ((v2,l'1):Int × List Int) =>
     Z6 (decide (v2 < (to1-from'1)))
      (Zp (chk (0≤v2∧v2 < (Z0 (X7 r'.fCells from'1 to1))) <|
        Zp (Z6 ((Z1 Z2 (X7 r'.fCells from'1 to1) v2).fW == 0)
         (some (.out (.go l'1)))
         (Z6 ((Z1 Z2 (X7 r'.fCells from'1 to1) v2).fR == 0)
          (chk (Yl 8 ((Z0 l'1)+1)) <|
           some (.go (l'1++([32]:List Int))))
          (chk (Yl 8 ((Z0 l'1)+1)) <|
           some (.go (l'1++([(Z1 Z2 (X7 r'.fCells from'1 to1) v2).fR]:List Int)))))) fun l'3 =>
        Zp (let m1:=(Z1 Z2 (X7 r'.fCells from'1 to1) v2).fM.x0
         Z6 (!(m1 == 0))
          (chk (Yl 8 ((Z0 l'3)+1)) <|
           chk (inR .i64 (0+1)) <|
           some (.go (l'3++([m1]:List Int))))
          (chk (inR .i64 (0+1)) <|
           some (.go l'3))) fun l'4 =>
        Zp (let m:=(Z1 Z2 (X7 r'.fCells from'1 to1) v2).fM.x1
         Z6 (!(m == 0))
          (chk (Yl 8 ((Z0 l'4)+1)) <|
           chk (inR .i64 (1+1)) <|
           some (.go (l'4++([m]:List Int))))
          (chk (inR .i64 (1+1)) <|
           some (.go l'4))) fun l'5 =>
        some (.go l'5)) fun l'2 =>
       chk (inR .i64 (v2+1)) <|
       some (.go ((v2+1),l'2)))
      (some (.out (.go l'1)))) (0,([]:List Int))) fun l' =>
   some l')
noncomputable def Z07 (rows:(List Z5)):Option Bool :=
 Z7 (Xt) fun v =>
 Z7 (Q5 rows) fun v1 =>
 Z7 (if (!(!v1))=true then Xm (Yb.mk rows) else some false) fun v2 =>
 Z6 (if (!v1)=true then true else (!v2))
  (some v)
  (Z7 (Z4d) fun v3 =>
   Z7 (Z5k v3 rows true) fun v4 =>
   chk ((0:Int)≤0∧(0:Int) < (Z0 rows)) <|
   let w:=(Z0 (Z1 Z3 rows 0).fCells)
   chk (inR .i64 ((Z0 rows)-1)) <|
   chk (inR .i64 (w-1)) <|
   Z7 (Z54 v4 rows (Zu.mk ((Z0 rows)-1) (w-1)) Z01 65536) fun v5 =>
   let ok:=v5.2
   Zp (loopO (fun ((y',want1):Int × List Int) =>
    Z6 (decide (y' < (Z0 rows)))
     (Zp (chk (0≤y'∧y' < (Z0 rows)) <|
       Z7 (Z2s (Z1 Z3 rows y') 0 w) fun v7 =>
       Zp (loopO (fun ((x_off1,x_n1):Int × Int) =>
        chk (0≤y'∧y' < (Z0 rows)) <|
        chk ((if (!(Z1 Z3 rows y').fWrap)=true then (decide (0 < x_n1)) else false)=true→inR .i64 (x_n1-1)) <|
        chk ((if (!(Z1 Z3 rows y').fWrap)=true then (decide (0 < x_n1)) else false)=true→0≤(x_n1-1)∧(x_n1-1) < x_n1) <|
        Z6 (if (if (!(Z1 Z3 rows y').fWrap)=true then (decide (0 < x_n1)) else false)=true then ((Z1 0 v7 (x_off1+(x_n1-1))) == 32) else false)
         (chk (inR .i64 (x_n1-1)) <|
          chk ((0:Int)≤0∧(0:Int)≤(x_n1-1)∧(x_n1-1)≤x_n1) <|
          some (.go ((x_off1+0),((x_n1-1)-0))))
         (some (.out (.go (x_off1,x_n1))))) (0,(Z0 v7))) fun (x_off,x_n) =>
       Zp (chk (Yl 8 ((Z0 want1)+x_n)) <|
        some (.go (want1++(X7 v7 x_off (x_off+x_n))))) fun want3 =>
       chk (0≤y'∧y' < (Z0 rows)) <|
       chk ((!(Z1 Z3 rows y').fWrap)=true→inR .i64 ((Z0 rows)-1)) <|
       Z6 (if (!(Z1 Z3 rows y').fWrap)=true then (decide (y' < ((Z0 rows)-1))) else false)
        (chk (Yl 8 ((Z0 want3)+1)) <|
         some (.go (want3++([10]:List Int))))
        (some (.go want3))) fun want2 =>
      chk (inR .i64 (y'+1)) <|
      let y'1:=(y'+1)
      some (.go (y'1,want2)))
     (some (.out (.go want1)))) (0,([]:List Int))) fun want =>
   Z7 (if (if v=true then ok else false)=true then X9 v5.1 want else some false) fun v6 =>
   some (if (if v=true then ok else false)=true then v6 else false))
noncomputable def Z11 (d':Za) (l':(List Z5)) (y':Int) (boxes:Bool):Option (Zi × Bool) :=
 Z7 (if (!(if (decide (y' < 0))=true then true else (decide ((Z0 l')≤y'))))=true then Xg l' else some false) fun v =>
 Z6 (if (if (decide (y' < 0))=true then true else (decide ((Z0 l')≤y')))=true then true else (!v))
  (some (Yj,false))
  (chk (0≤y'∧y' < (Z0 l')) <|
   Z6 (Z1 Z3 l' y').fExplicit
    (chk (0≤y'∧y' < (Z0 l')) <|
     Z7 (Z2g (Z1 Z3 l' y')) fun v1 =>
     some (v1,true))
    (Z7 (Z3q l' y') fun v2 =>
     let from':=v2.1
     let to:=v2.2
     Z7 (Z21 d' l' from' to boxes) fun v3 =>
     Z7 (Z5j d' l' y' v3) fun v4 =>
     some (v4,true)))
noncomputable def Z0r (v:Int) (cap0:Zi) (cap1:Z5):Option Bool :=
 chk (0≤v∧v < (Z0 cap0.fV2L)) <|
 let i:=(Z1 0 cap0.fV2L v)
 chk (0≤i∧i < (Z0 cap1.fCells)) <|
 Z6 ((Z1 Z2 cap1.fCells i).fW == 0)
  (chk (inR .i64 (i-1)) <|
   let i1:=(i-1)
   chk (0≤i1∧i1 < (Z0 cap1.fCells)) <|
   chk ((!((Z1 Z2 cap1.fCells i1).fR == 0))=true→0≤i1∧i1 < (Z0 cap1.fCells)) <|
   some (if ((Z1 Z2 cap1.fCells i1).fR == 0)=true then true else ((Z1 Z2 cap1.fCells i1).fR == 32)))
  (chk (0≤i∧i < (Z0 cap1.fCells)) <|
   chk ((!((Z1 Z2 cap1.fCells i).fR == 0))=true→0≤i∧i < (Z0 cap1.fCells)) <|
   some (if ((Z1 Z2 cap1.fCells i).fR == 0)=true then true else ((Z1 Z2 cap1.fCells i).fR == 32)))
noncomputable def Z55 (x':Zi) (r':Z5) (at':Int):Option (Int × Int) :=
 Z7 (Z6j x' r') fun v =>
 let ok:=v.2
 Z6 (!ok)
  (some (0,0))
  (let n:=(Z0 x'.fV2L)
   chk (inR .i64 (n-1)) <|
   let at'1:=(Yv 0 (Yu at' (n-1)))
   chk (inR .i64 (at'1+1)) <|
   let to:=(at'1+1)
   Zp (loopO (fun (from'1:Int) =>
    chk ((decide (0 < from'1))=true→inR .i64 (from'1-1)) <|
    Z7 (if (decide (0 < from'1))=true then Z0r (from'1-1) x' r' else some false) fun v3 =>
    Z7 (if (decide (0 < from'1))=true then Z0r at'1 x' r' else some false) fun v4 =>
    Z6 (if (decide (0 < from'1))=true then (v3 == v4) else false)
     (chk (inR .i64 (from'1-1)) <|
      let from'2:=(from'1-1)
      some (.go from'2))
     (some (.out (.go from'1)))) at'1) fun from' =>
   Zp (loopO (fun (to2:Int) =>
    Z7 (if (decide (to2 < n))=true then Z0r to2 x' r' else some false) fun v1 =>
    Z7 (if (decide (to2 < n))=true then Z0r at'1 x' r' else some false) fun v2 =>
    Z6 (if (decide (to2 < n))=true then (v1 == v2) else false)
     (chk (inR .i64 (to2+1)) <|
      let to3:=(to2+1)
      some (.go to3))
     (some (.out (.go to2)))) to) fun to1 =>
   some (from',to1))
noncomputable def Qt (rows:(List Z5)) (y':Int):Option Bool :=
 Z7 (Xt) fun v =>
 Z7 (Q5 rows) fun v1 =>
 Z7 (if (!(!v1))=true then Xm (Yb.mk rows) else some false) fun v2 =>
 Z6 (if (!v1)=true then true else (!v2))
  (some v)
  (chk (((Z0 rows):Int)≠0) <|
   let k':=(Int.tmod (Z0a .i64 y' 65535) (Z0 rows))
   Z7 (Z4d) fun v3 =>
   Z7 (Z11 v3 rows k' false) fun v4 =>
   let ok:=v4.2
   chk (0≤k'∧k' < (Z0 rows)) <|
   let w:=(Z0 (Z1 Z3 rows k').fCells)
   Zp (loopO (fun ((at'1,n):Int × Int) =>
    Z6 (if (decide (n < w))=true then (decide (at'1 < w)) else false)
     (Zp (chk (0≤k'∧k' < (Z0 rows)) <|
       Z7 (Z55 v4.1 (Z1 Z3 rows k') at'1) fun v5 =>
       let from':=v5.1
       let to:=v5.2
       Z6 (if (if (!(from' == at'1))=true then true else (decide (to≤at'1)))=true then true else (decide (w < to)))
        (some (.out (.out (.out false))))
        (Zp (loopO (fun (i:Int) =>
          Z6 (decide (i < to))
           (chk (0≤k'∧k' < (Z0 rows)) <|
            Z7 (Z55 v4.1 (Z1 Z3 rows k') i) fun v6 =>
            let a:=v6.1
            let b:=v6.2
            Z6 (if (!(a == from'))=true then true else (!(b == to)))
             (some (.out (.out (.out (.out (.out false))))))
             (chk (inR .i64 (i+1)) <|
              let i1:=(i+1)
              some (.go i1)))
           (some (.out (.go ())))) from') fun (_:Unit) =>
         some (.go to))) fun at'2 =>
      chk (inR .i64 (n+1)) <|
      let n1:=(n+1)
      some (.go (at'2,n1)))
     (some (.out (.go at'1)))) (0,0)) fun at' =>
   some (if (if v=true then ok else false)=true then (at' == w) else false))
noncomputable def Qu (rows:(List Z5)) (y':Int) (at':Int):Option Bool :=
 Z7 (Xt) fun v =>
 Z7 (Q5 rows) fun v1 =>
 Z7 (if (!(!v1))=true then Xm (Yb.mk rows) else some false) fun v2 =>
 Z6 (if (!v1)=true then true else (!v2))
  (some v)
  (chk (((Z0 rows):Int)≠0) <|
   let k':=(Int.tmod (Z0a .i64 y' 65535) (Z0 rows))
   Z7 (Z4d) fun v3 =>
   Z7 (Z11 v3 rows k' false) fun v4 =>
   let ok:=v4.2
   chk (0≤k'∧k' < (Z0 rows)) <|
   let w:=(Z0 (Z1 Z3 rows k').fCells)
   chk (inR .i64 (w+1)) <|
   chk (((w+1):Int)≠0) <|
   let m:=(Int.tmod (Z0a .i64 at' 65535) (w+1))
   Z7 (Z1q v4.1 (Z1 Z3 rows k') 0 m) fun v5 =>
   Z7 (Z1q v4.1 (Z1 Z3 rows k') m w) fun v6 =>
   Z7 (Z1q v4.1 (Z1 Z3 rows k') 0 w) fun v7 =>
   chk (Xy 8 w w) <|
   Zp (loopO (fun ((i2,met1):Int × List Int) =>
    chk (inR .i64 ((Z0 v5)+(Z0 v6))) <|
    Z6 (decide (i2 < ((Z0 v5)+(Z0 v6))))
     (Zp (Zp (Z6 (decide (i2 < (Z0 v5)))
        (chk (0≤i2∧i2 < (Z0 v5)) <|
         let c'1:=(Z1 0 v5 (0+i2))
         some (.go c'1))
        (chk (inR .i64 (i2-(Z0 v5))) <|
         chk (0≤(i2-(Z0 v5))∧(i2-(Z0 v5)) < (Z0 v6)) <|
         let c'2:=(Z1 0 v6 (0+(i2-(Z0 v5))))
         some (.go c'2))) fun c' =>
       Zp (chk ((!(if (decide (c' < 0))=true then true else (decide (w≤c'))))=true→0≤c'∧c' < (Z0 (Z1 Z3 rows k').fCells)) <|
        chk (((!(if (if (decide (c' < 0))=true then true else (decide (w≤c')))=true then true else ((Z1 Z2 (Z1 Z3 rows k').fCells c').fW == 0))) && ((!(if (if (decide (c' < 0))=true then true else (decide (w≤c')))=true then true else ((Z1 Z2 (Z1 Z3 rows k').fCells c').fW == 0))) && (if (decide (0 < i2))=true then (decide (i2 < (Z0 v5))) else false)))=true→inR .i64 (i2-1)) <|
        chk (((!(if (if (decide (c' < 0))=true then true else (decide (w≤c')))=true then true else ((Z1 Z2 (Z1 Z3 rows k').fCells c').fW == 0))) && ((!(if (if (decide (c' < 0))=true then true else (decide (w≤c')))=true then true else ((Z1 Z2 (Z1 Z3 rows k').fCells c').fW == 0))) && (if (decide (0 < i2))=true then (decide (i2 < (Z0 v5))) else false)))=true→0≤(i2-1)∧(i2-1) < (Z0 v5)) <|
        chk (((!(if (if (if (decide (c' < 0))=true then true else (decide (w≤c')))=true then true else ((Z1 Z2 (Z1 Z3 rows k').fCells c').fW == 0))=true then true else (if (if (decide (0 < i2))=true then (decide (i2 < (Z0 v5))) else false)=true then (decide (c'≤(Z1 0 v5 (0+(i2-1))))) else false))) && ((!(if (if (if (decide (c' < 0))=true then true else (decide (w≤c')))=true then true else ((Z1 Z2 (Z1 Z3 rows k').fCells c').fW == 0))=true then true else (if (if (decide (0 < i2))=true then (decide (i2 < (Z0 v5))) else false)=true then (decide (c'≤(Z1 0 v5 (0+(i2-1))))) else false))) && (decide ((Z0 v5) < i2))))=true→inR .i64 (i2-(Z0 v5))) <|
        chk (((!(if (if (if (decide (c' < 0))=true then true else (decide (w≤c')))=true then true else ((Z1 Z2 (Z1 Z3 rows k').fCells c').fW == 0))=true then true else (if (if (decide (0 < i2))=true then (decide (i2 < (Z0 v5))) else false)=true then (decide (c'≤(Z1 0 v5 (0+(i2-1))))) else false))) && ((!(if (if (if (decide (c' < 0))=true then true else (decide (w≤c')))=true then true else ((Z1 Z2 (Z1 Z3 rows k').fCells c').fW == 0))=true then true else (if (if (decide (0 < i2))=true then (decide (i2 < (Z0 v5))) else false)=true then (decide (c'≤(Z1 0 v5 (0+(i2-1))))) else false))) && (decide ((Z0 v5) < i2))))=true→inR .i64 ((i2-(Z0 v5))-1)) <|
        chk (((!(if (if (if (decide (c' < 0))=true then true else (decide (w≤c')))=true then true else ((Z1 Z2 (Z1 Z3 rows k').fCells c').fW == 0))=true then true else (if (if (decide (0 < i2))=true then (decide (i2 < (Z0 v5))) else false)=true then (decide (c'≤(Z1 0 v5 (0+(i2-1))))) else false))) && ((!(if (if (if (decide (c' < 0))=true then true else (decide (w≤c')))=true then true else ((Z1 Z2 (Z1 Z3 rows k').fCells c').fW == 0))=true then true else (if (if (decide (0 < i2))=true then (decide (i2 < (Z0 v5))) else false)=true then (decide (c'≤(Z1 0 v5 (0+(i2-1))))) else false))) && (decide ((Z0 v5) < i2))))=true→0≤((i2-(Z0 v5))-1)∧((i2-(Z0 v5))-1) < (Z0 v6)) <|
        Z6 (if (if (if (if (decide (c' < 0))=true then true else (decide (w≤c')))=true then true else ((Z1 Z2 (Z1 Z3 rows k').fCells c').fW == 0))=true then true else (if (if (decide (0 < i2))=true then (decide (i2 < (Z0 v5))) else false)=true then (decide (c'≤(Z1 0 v5 (0+(i2-1))))) else false))=true then true else (if (decide ((Z0 v5) < i2))=true then (decide (c'≤(Z1 0 v6 (0+((i2-(Z0 v5))-1))))) else false))
         (some (.out (.out (.out (.out false)))))
         (some (.go ()))) fun (_:Unit) =>
       chk (0≤c'∧c' < w) <|
       chk (inR .i64 ((Z1 0 met1 (0+c'))+1)) <|
       chk (0≤c'∧c' < w) <|
       some (.go (Ya met1 c' ((Z1 0 met1 (0+c'))+1)))) fun met2 =>
      chk (inR .i64 (i2+1)) <|
      let i3:=(i2+1)
      some (.go (i3,met2)))
     (some (.out (.go met1)))) (0,(Z0n w 0))) fun met =>
   Zp (loopO (fun (i:Int) =>
    Z6 (decide (i < w))
     (Zp (chk (0≤i∧i < (Z0 (Z1 Z3 rows k').fCells)) <|
       chk (((Z1 Z2 (Z1 Z3 rows k').fCells i).fW == 0)=true→0≤i∧i < w) <|
       chk ((!(if ((Z1 Z2 (Z1 Z3 rows k').fCells i).fW == 0)=true then (!((Z1 0 met (0+i)) == 0)) else false))=true→0≤i∧i < (Z0 (Z1 Z3 rows k').fCells)) <|
       chk (((!(if ((Z1 Z2 (Z1 Z3 rows k').fCells i).fW == 0)=true then (!((Z1 0 met (0+i)) == 0)) else false)) && ((!(if ((Z1 Z2 (Z1 Z3 rows k').fCells i).fW == 0)=true then (!((Z1 0 met (0+i)) == 0)) else false)) && ((Z1 Z2 (Z1 Z3 rows k').fCells i).fW == 1)))=true→0≤i∧i < w) <|
       chk ((!(if (if ((Z1 Z2 (Z1 Z3 rows k').fCells i).fW == 0)=true then (!((Z1 0 met (0+i)) == 0)) else false)=true then true else (if ((Z1 Z2 (Z1 Z3 rows k').fCells i).fW == 1)=true then (!((Z1 0 met (0+i)) == 1)) else false)))=true→0≤i∧i < (Z0 (Z1 Z3 rows k').fCells)) <|
       chk (((!(if (if ((Z1 Z2 (Z1 Z3 rows k').fCells i).fW == 0)=true then (!((Z1 0 met (0+i)) == 0)) else false)=true then true else (if ((Z1 Z2 (Z1 Z3 rows k').fCells i).fW == 1)=true then (!((Z1 0 met (0+i)) == 1)) else false))) && ((!(if (if ((Z1 Z2 (Z1 Z3 rows k').fCells i).fW == 0)=true then (!((Z1 0 met (0+i)) == 0)) else false)=true then true else (if ((Z1 Z2 (Z1 Z3 rows k').fCells i).fW == 1)=true then (!((Z1 0 met (0+i)) == 1)) else false))) && ((Z1 Z2 (Z1 Z3 rows k').fCells i).fW == 2)))=true→0≤i∧i < w) <|
       chk (((!(if (if ((Z1 Z2 (Z1 Z3 rows k').fCells i).fW == 0)=true then (!((Z1 0 met (0+i)) == 0)) else false)=true then true else (if ((Z1 Z2 (Z1 Z3 rows k').fCells i).fW == 1)=true then (!((Z1 0 met (0+i)) == 1)) else false))) && ((!(if (if ((Z1 Z2 (Z1 Z3 rows k').fCells i).fW == 0)=true then (!((Z1 0 met (0+i)) == 0)) else false)=true then true else (if ((Z1 Z2 (Z1 Z3 rows k').fCells i).fW == 1)=true then (!((Z1 0 met (0+i)) == 1)) else false))) && (if ((Z1 Z2 (Z1 Z3 rows k').fCells i).fW == 2)=true then (!((Z1 0 met (0+i)) == 1)) else false)))=true→0≤i∧i < w) <|
       Z6 (if (if (if ((Z1 Z2 (Z1 Z3 rows k').fCells i).fW == 0)=true then (!((Z1 0 met (0+i)) == 0)) else false)=true then true else (if ((Z1 Z2 (Z1 Z3 rows k').fCells i).fW == 1)=true then (!((Z1 0 met (0+i)) == 1)) else false))=true then true else (if (if ((Z1 Z2 (Z1 Z3 rows k').fCells i).fW == 2)=true then (!((Z1 0 met (0+i)) == 1)) else false)=true then (!((Z1 0 met (0+i)) == 2)) else false))
        (some (.out (.out (.out false))))
        (some (.go ()))) fun (_:Unit) =>
      chk (inR .i64 (i+1)) <|
      let i1:=(i+1)
      some (.go i1))
     (some (.out (.go ())))) 0) fun (_:Unit) =>
   Z7 (if (if v=true then ok else false)=true then Z2r (Z1 Z3 rows k') v7 else some []) fun v8 =>
   Z7 (if (if v=true then ok else false)=true then Z2s (Z1 Z3 rows k') 0 w else some []) fun v9 =>
   Z7 (if (if v=true then ok else false)=true then X9 v8 v9 else some false) fun v10 =>
   some (if (if v=true then ok else false)=true then v10 else false))
end Go.Vx
