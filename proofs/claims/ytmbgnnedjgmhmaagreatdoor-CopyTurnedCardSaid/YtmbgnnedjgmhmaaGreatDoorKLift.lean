/- Lifted functions, by program (lift.py). -/
import Derived.Test.YtmbgnnedjgmhmaaGreatDoorVxCut
import Derived.Lib.Bytealg
import Derived.Sort.Defs
import Derived.Shelf.SlSortCmp.Insertion
set_option linter.all false
namespace Go.Vx
structure Xy where
 fstart:Int
 fend:Int
def Xb:Xy:=⟨0,0⟩
instance:Inhabited Xy:=⟨Xb⟩
structure Y9 where
 fLo:Int
 fHi:Int
 fV:Int
def Yd:Y9:=⟨0,0,0⟩
instance:Inhabited Y9:=⟨Yd⟩
structure Z2 where
 fL:(List Y9)
def Z29:Z2:=⟨[]⟩
instance:Inhabited Z2:=⟨Z29⟩
structure Yg where
 fA:Int
 fB:Int
def Xr:Yg:=⟨0,0⟩
instance:Inhabited Yg:=⟨Xr⟩
structure X0 where
 fR:Int
 fAt:Int
 fN:Int
def X6:X0:=⟨0,0,0⟩
instance:Inhabited X0:=⟨X6⟩
structure Za where
 fClass:Z2
 fWide:Z2
 fJoin:Z2
 fMirror:(List Yg)
 fBrackets:(List Yg)
 fForms:(List X0)
def d_ucd_Data:Za:=⟨Z29,Z29,Z29,[],[],[]⟩
instance:Inhabited Za:=⟨d_ucd_Data⟩
structure Z0s where
 fFg:Int
 fBg:Int
 fFlags:Int
def Qc:Z0s:=⟨0,0,0⟩
instance:Inhabited Z0s:=⟨Qc⟩
structure Zx where
 x0:Int
 x1:Int
def Zz:Zx:=⟨0,0⟩
instance:Inhabited Zx:=⟨Zz⟩
structure Zi where
 fR:Int
 fM:Zx
 fW:Int
 fPen:Z0s
def Z4:Zi:=⟨0,Zz,0,Qc⟩
instance:Inhabited Zi:=⟨Z4⟩
structure Z5 where
 fCells:(List Zi)
 fWrap:Bool
 fDir:Int
 fExplicit:Bool
def Z3:Z5:=⟨[],false,0,false⟩
instance:Inhabited Z5:=⟨Z3⟩
structure Zj where
 fV2L:(List Int)
 fL2V:(List Int)
 fCells:(List Zi)
 fBase:Int
def Ya:Zj:=⟨[],[],[],0⟩
instance:Inhabited Zj:=⟨Ya⟩
structure Zp where
 fl:(List Int)
def Z8o:Zp:=⟨[]⟩
instance:Inhabited Zp:=⟨Z8o⟩
structure Y8 where
 flevel:Int
 foverride:Int
 fisolate:Bool
def Zr:Y8:=⟨0,0,false⟩
instance:Inhabited Y8:=⟨Zr⟩
structure Z9 where
 fl:(List Y8)
def Z6k:Z9:=⟨[]⟩
instance:Inhabited Z9:=⟨Z6k⟩
structure Zn where
 fLevels:(List Int)
 fClasses:(List Int)
 fRemoved:(List Bool)
def d_embed_Run:Zn:=⟨[],[],[]⟩
instance:Inhabited Zn:=⟨d_embed_Run⟩
structure Z6 where
 fl:(List Int)
 fmatch:(List Int)
 fbase:Int
 frun:Zn
 fopen:Z9
 fisolates:Int
 fembeddings:Int
 fvalid:Int
def d_embed_machine:Z6:=⟨[],[],0,d_embed_Run,Z6k,0,0,0⟩
instance:Inhabited Z6:=⟨d_embed_machine⟩
structure Zs where
 fl:(List Int)
 fsos:Int
def d_weak_text:Zs:=⟨[],0⟩
instance:Inhabited Zs:=⟨d_weak_text⟩
structure Ys where
 fl:(List Int)
 fwas:(List Int)
 fsos:Int
 feos:Int
 fdir:Int
 fagainst:Int
 fpairs:(List Zx)
def d_weak_line:Ys:=⟨[],[],0,0,0,0,[]⟩
instance:Inhabited Ys:=⟨d_weak_line⟩
structure Yj where
 ffrom:Int
 fto:Int
 flevels:(List Int)
 fglyphs:(List Int)
 fbase:Int
def d_view_paragraph:Yj:=⟨0,0,[],[],0⟩
instance:Inhabited Yj:=⟨d_view_paragraph⟩
structure Y4 where
 fl:(List Int)
 fmost:Int
def d_copy_sheet:Y4:=⟨[],0⟩
instance:Inhabited Y4:=⟨d_copy_sheet⟩
structure Z58 where
def d_copy_full:Z58:=⟨⟩
instance:Inhabited Z58:=⟨d_copy_full⟩
structure Zg where
 fY:Int
 fX:Int
def d_copy_Point:Zg:=⟨0,0⟩
instance:Inhabited Zg:=⟨d_copy_Point⟩
structure Y5 where
 fY:Int
 fX:Int
def Z70:Y5:=⟨0,0⟩
instance:Inhabited Y5:=⟨Z70⟩
structure Z05 where
 fRows:(List Z5)
def Z83:Z05:=⟨[]⟩
instance:Inhabited Z05:=⟨Z83⟩
def kS0:ByteArray:=(⟨#[76,32,82,32,65,76,32,69,78,32,69,83,32,69,84,32,65,78,32,67,83,32,78,83,77,32,66,78,32,66,32,83,32,87,83,32,79,78,32,76,82,69,32,76,82,79,32,82,76,69,32,82,76,79,32,80,68,70,32,76,82,73,32,82,76,73,32,70,83,73,32,80,68,73]⟩:ByteArray)
def kS1:ByteArray:=(⟨#[48,45,56,32,66,78,44,32,57,32,83,44,32,65,32,66,44,32,66,32,83,44,32,67,32,87,83,44,32,68,32,66,44,32,69,45,49,66,32,66,78,44,32,49,67,45,49,69,32,66,44,32,49,70,32,83,44,32,50,48,32,87,83,44,10,50,49,45,50,50,32,79,78,44,32,50,51,45,50,53,32,69,84,44,32,50,54,45,50,65,32,79,78,44,32,50,66,32,69,83,44,32,50,67,32,67,83,44,32,50,68,32,69,83,44,32,50,69,45,50,70,32,67,83,44,32,51,48,45,51,57,32,69,78,44,32,51,65,32,67,83,44,32,51,66,45,52,48,32,79,78,44,10,53,66,45,54,48,32,79,78,44,32,55,66,45,55,69,32,79,78,44,32,55,70,45,56,52,32,66,78,44,32,56,53,32,66,44,32,56,54,45,57,70,32,66,78,44,32,65,48,32,67,83,44,32,65,49,32,79,78,44,32,65,50,45,65,53,32,69,84,44,32,65,54,45,65,57,32,79,78,44,32,65,66,45,65,67,32,79,78,44,10,65,68,32,66,78,44,32,65,69,45,65,70,32,79,78,44,32,66,48,45,66,49,32,69,84,44,32,66,50,45,66,51,32,69,78,44,32,66,52,32,79,78,44,32,66,54,45,66,56,32,79,78,44,32,66,57,32,69,78,44,32,66,66,45,66,70,32,79,78,44,32,68,55,32,79,78,44,32,70,55,32,79,78,44,10,51,48,48,45,51,54,70,32,78,83,77,44,32,53,57,48,32,82,44,32,53,57,49,45,53,66,68,32,78,83,77,44,32,53,66,69,32,82,44,32,53,66,70,32,78,83,77,44,32,53,67,48,32,82,44,32,53,67,49,45,53,67,50,32,78,83,77,44,32,53,67,51,32,82,44,32,53,67,52,45,53,67,53,32,78,83,77,44,32,53,67,54,32,82,44,10,53,67,55,32,78,83,77,44,32,53,67,56,45,53,70,70,32,82,44,32,54,48,48,45,54,48,53,32,65,78,44,32,54,48,54,45,54,48,55,32,79,78,44,32,54,48,56,32,65,76,44,32,54,48,57,45,54,48,65,32,69,84,44,32,54,48,66,32,65,76,44,32,54,48,67,32,67,83,44,32,54,48,68,32,65,76,44,32,54,48,69,45,54,48,70,32,79,78,44,10,54,49,48,45,54,49,65,32,78,83,77,44,32,54,49,66,45,54,52,65,32,65,76,44,32,54,52,66,45,54,53,70,32,78,83,77,44,32,54,54,48,45,54,54,57,32,65,78,44,32,54,54,65,32,69,84,44,32,54,54,66,45,54,54,67,32,65,78,44,32,54,54,68,45,54,54,70,32,65,76,44,32,54,55,48,32,78,83,77,44,32,54,55,49,45,54,68,53,32,65,76,44,32,54,68,54,45,54,68,67,32,78,83,77,44,10,54,68,68,32,65,78,44,32,54,68,69,32,79,78,44,32,54,68,70,45,54,69,52,32,78,83,77,44,32,54,69,53,45,54,69,54,32,65,76,44,32,54,69,55,45,54,69,56,32,78,83,77,44,32,54,69,57,32,79,78,44,32,54,69,65,45,54,69,68,32,78,83,77,44,32,54,69,69,45,54,69,70,32,65,76,44,32,54,70,48,45,54,70,57,32,69,78,44,32,54,70,65,45,54,70,70,32,65,76,44,10,50,48,48,48,45,50,48,48,65,32,87,83,44,32,50,48,48,66,45,50,48,48,68,32,66,78,44,32,50,48,48,70,32,82,44,32,50,48,49,48,45,50,48,50,55,32,79,78,44,32,50,48,50,56,32,87,83,44,32,50,48,50,57,32,66,44,32,50,48,50,65,32,76,82,69,44,32,50,48,50,66,32,82,76,69,44,32,50,48,50,67,32,80,68,70,44,32,50,48,50,68,32,76,82,79,44,10,50,48,50,69,32,82,76,79,44,32,50,48,50,70,32,67,83,44,32,50,48,51,48,45,50,48,51,52,32,69,84,44,32,50,48,51,53,45,50,48,52,51,32,79,78,44,32,50,48,52,52,32,67,83,44,32,50,48,52,53,45,50,48,53,69,32,79,78,44,32,50,48,53,70,32,87,83,44,32,50,48,54,48,45,50,48,54,53,32,66,78,44,32,50,48,54,54,32,76,82,73,44,32,50,48,54,55,32,82,76,73,44,10,50,48,54,56,32,70,83,73,44,32,50,48,54,57,32,80,68,73,44,32,50,48,54,65,45,50,48,54,70,32,66,78,44,32,50,49,57,48,45,50,50,49,49,32,79,78,44,32,50,50,49,50,32,69,83,44,32,50,50,49,51,32,69,84,44,32,50,50,49,52,45,50,51,51,53,32,79,78,44,32,50,53,48,48,45,50,53,57,70,32,79,78,44,32,51,48,48,48,32,87,83,44,32,51,48,48,49,45,51,48,48,52,32,79,78,44,10,51,48,48,56,45,51,48,50,48,32,79,78,44,32,70,66,49,68,32,82,44,32,70,66,49,69,32,78,83,77,44,32,70,66,49,70,45,70,66,50,56,32,82,44,32,70,66,50,57,32,69,83,44,32,70,66,50,65,45,70,66,52,70,32,82,44,32,70,66,53,48,45,70,68,67,70,32,65,76,44,32,70,69,55,48,45,70,69,70,69,32,65,76,44,32,70,69,70,70,32,66,78,44,32,70,70,70,57,45,70,70,70,68,32,79,78]⟩:ByteArray)
def kS2:ByteArray:=(⟨#[51,48,48,45,51,54,70,32,48,44,32,53,57,49,45,53,66,68,32,48,44,32,53,66,70,32,48,44,32,53,67,49,45,53,67,50,32,48,44,32,53,67,52,45,53,67,53,32,48,44,32,53,67,55,32,48,44,32,54,49,48,45,54,49,65,32,48,44,32,54,52,66,45,54,53,70,32,48,44,32,54,55,48,32,48,44,32,54,68,54,45,54,68,67,32,48,44,10,54,68,70,45,54,69,52,32,48,44,32,54,69,55,45,54,69,56,32,48,44,32,54,69,65,45,54,69,68,32,48,44,32,49,49,48,48,45,49,49,53,70,32,50,44,32,50,48,48,66,45,50,48,48,70,32,48,44,32,50,48,50,65,45,50,48,50,69,32,48,44,32,50,48,54,48,45,50,48,54,70,32,48,44,32,50,69,56,48,45,51,48,51,69,32,50,44,32,51,48,52,49,45,65,52,67,70,32,50,44,32,65,67,48,48,45,68,55,65,51,32,50,44,10,70,57,48,48,45,70,65,70,70,32,50,44,32,70,66,49,69,32,48,44,32,70,69,51,48,45,70,69,54,70,32,50,44,32,70,69,70,70,32,48,44,32,70,70,48,48,45,70,70,54,48,32,50,44,32,70,70,69,48,45,70,70,69,54,32,50,44,32,49,70,51,48,48,45,49,70,54,52,70,32,50,44,32,49,70,57,48,48,45,49,70,57,70,70,32,50,44,32,50,48,48,48,48,45,51,70,70,70,68,32,50]⟩:ByteArray)
def kS3:ByteArray:=(⟨#[51,48,48,45,51,54,70,32,84,44,32,53,57,49,45,53,66,68,32,84,44,32,53,66,70,32,84,44,32,53,67,49,45,53,67,50,32,84,44,32,53,67,52,45,53,67,53,32,84,44,32,53,67,55,32,84,44,32,54,49,48,45,54,49,65,32,84,44,32,54,50,48,32,68,44,32,54,50,50,45,54,50,53,32,82,44,32,54,50,54,32,68,44,10,54,50,55,32,82,44,32,54,50,56,32,68,44,32,54,50,57,32,82,44,32,54,50,65,45,54,50,69,32,68,44,32,54,50,70,45,54,51,50,32,82,44,32,54,51,51,45,54,51,70,32,68,44,32,54,52,48,32,67,44,32,54,52,49,45,54,52,55,32,68,44,32,54,52,56,45,54,52,57,32,82,44,32,54,52,65,32,68,44,10,54,52,66,45,54,53,70,32,84,44,32,54,54,69,45,54,54,70,32,68,44,32,54,55,48,32,84,44,32,54,55,49,45,54,55,51,32,82,44,32,54,55,53,45,54,55,55,32,82,44,32,54,55,56,45,54,56,55,32,68,44,32,54,56,56,45,54,57,57,32,82,44,32,54,57,65,45,54,66,70,32,68,44,32,54,67,48,32,82,44,32,54,67,49,45,54,67,50,32,68,44,10,54,67,51,45,54,67,66,32,82,44,32,54,67,67,32,68,44,32,54,67,68,32,82,44,32,54,67,69,32,68,44,32,54,67,70,32,82,44,32,54,68,48,45,54,68,49,32,68,44,32,54,68,50,45,54,68,51,32,82,44,32,54,68,53,32,82,44,32,54,68,54,45,54,68,67,32,84,44,32,54,68,70,45,54,69,52,32,84,44,10,54,69,55,45,54,69,56,32,84,44,32,54,69,65,45,54,69,68,32,84,44,32,54,69,69,45,54,69,70,32,82,44,32,54,70,65,45,54,70,67,32,68,44,32,54,70,70,32,68,44,32,50,48,48,66,32,84,44,32,50,48,48,68,32,67,44,32,70,66,49,69,32,84]⟩:ByteArray)
def kS4:ByteArray:=(⟨#[50,56,32,50,57,44,32,51,67,32,51,69,44,32,53,66,32,53,68,44,32,55,66,32,55,68,44,32,65,66,32,66,66,44,32,50,48,51,57,32,50,48,51,65,44,32,50,50,48,56,32,50,50,48,66,44,32,50,50,54,52,32,50,50,54,53,44,32,51,48,48,56,32,51,48,48,57,44,32,51,48,48,65,32,51,48,48,66,44,32,51,48,48,67,32,51,48,48,68,44,32,51,48,48,69,32,51,48,48,70,44,10,51,48,49,48,32,51,48,49,49,44,32,50,53,48,67,32,50,53,49,48,44,32,50,53,48,70,32,50,53,49,51,44,32,50,53,49,52,32,50,53,49,56,44,32,50,53,49,55,32,50,53,49,66,44,32,50,53,49,67,32,50,53,50,52,44,32,50,53,50,51,32,50,53,50,66,44,32,50,53,53,52,32,50,53,53,55,44,32,50,53,53,65,32,50,53,53,68,44,32,50,53,54,48,32,50,53,54,51,44,32,50,53,54,68,32,50,53,54,69,44,32,50,53,55,48,32,50,53,54,70,44,10,50,53,55,49,32,50,53,55,50,44,32,50,53,55,52,32,50,53,55,54,44,32,50,53,56,67,32,50,53,57,48]⟩:ByteArray)
def kS5:ByteArray:=(⟨#[50,56,32,50,57,44,32,53,66,32,53,68,44,32,55,66,32,55,68,44,32,51,48,48,56,32,51,48,48,57,44,32,51,48,48,65,32,51,48,48,66,44,32,51,48,48,67,32,51,48,48,68,44,32,51,48,48,69,32,51,48,48,70,44,32,51,48,49,48,32,51,48,49,49]⟩:ByteArray)
def kS6:ByteArray:=(⟨#[54,50,49,32,70,69,56,48,32,49,44,32,54,50,50,32,70,69,56,49,32,50,44,32,54,50,51,32,70,69,56,51,32,50,44,32,54,50,52,32,70,69,56,53,32,50,44,32,54,50,53,32,70,69,56,55,32,50,44,32,54,50,54,32,70,69,56,57,32,52,44,32,54,50,55,32,70,69,56,68,32,50,44,32,54,50,56,32,70,69,56,70,32,52,44,32,54,50,57,32,70,69,57,51,32,50,44,32,54,50,65,32,70,69,57,53,32,52,44,10,54,50,66,32,70,69,57,57,32,52,44,32,54,50,67,32,70,69,57,68,32,52,44,32,54,50,68,32,70,69,65,49,32,52,44,32,54,50,69,32,70,69,65,53,32,52,44,32,54,50,70,32,70,69,65,57,32,50,44,32,54,51,48,32,70,69,65,66,32,50,44,32,54,51,49,32,70,69,65,68,32,50,44,32,54,51,50,32,70,69,65,70,32,50,44,32,54,51,51,32,70,69,66,49,32,52,44,32,54,51,52,32,70,69,66,53,32,52,44,10,54,51,53,32,70,69,66,57,32,52,44,32,54,51,54,32,70,69,66,68,32,52,44,32,54,51,55,32,70,69,67,49,32,52,44,32,54,51,56,32,70,69,67,53,32,52,44,32,54,51,57,32,70,69,67,57,32,52,44,32,54,51,65,32,70,69,67,68,32,52,44,32,54,52,49,32,70,69,68,49,32,52,44,32,54,52,50,32,70,69,68,53,32,52,44,32,54,52,51,32,70,69,68,57,32,52,44,32,54,52,52,32,70,69,68,68,32,52,44,10,54,52,53,32,70,69,69,49,32,52,44,32,54,52,54,32,70,69,69,53,32,52,44,32,54,52,55,32,70,69,69,57,32,52,44,32,54,52,56,32,70,69,69,68,32,50,44,32,54,52,57,32,70,69,69,70,32,50,44,32,54,52,65,32,70,69,70,49,32,52]⟩:ByteArray)
def Z41 (s:ByteArray) (c:Int):Option Int:=some (Lib.countByte s.data.toList c.toNat.toUInt8:Nat)
abbrev Z4n:Type:={p:Zx // 0≤p.x0∧p.x0 < 4611686018427387904}
instance:Inhabited Z4n:=⟨⟨Zz,by decide,by decide⟩⟩
def bCmp (a b:Z4n):Int:=a.1.x0-b.1.x0
open Classical in
noncomputable def Z1e (x:List Zx) (off n:Int):Option (List Zx):=match x with
 | []=>if off=0∧n=0 then some [] else none
 | a :: q=>if h:off=0∧n=Z0 (a :: q)∧Z0 (a :: q) < 4611686018427387904∧∀ p∈a :: q,0≤p.x0∧p.x0 < 4611686018427387904 then
   some ((Go.Sort.pdq (Go.Proofs.ltOf bCmp) ((a :: q).attach.map fun p=>(⟨p.1,h.2.2.2 p.1 p.2⟩:Z4n)).toArray 0 ((a :: q).attach.map fun p=>(⟨p.1,h.2.2.2 p.1 p.2⟩:Z4n)).toArray.size
    (Lib.bitLen ((a :: q).attach.map fun p=>(⟨p.1,h.2.2.2 p.1 p.2⟩:Z4n)).toArray.size) true true).toList.map fun b=>b.1)
  else none
def Xz (l:List Z5):Nat→Int→Int
 | 0,x=>x
 | n+1,x=>if 0≤x-1∧(Z1 Z3 l (x-1)).fWrap=true then Xz l n (x-1) else x
def Yw (l:List Z5):Nat→Int→Int
 | 0,x=>x
 | n+1,x=>if x < Z0 l∧(Z1 Z3 l (x-1)).fWrap=true then Yw l n (x+1) else x
def Z34 (l:List Z5) (y:Int):Option (Int × Int):=if 0≤y∧y≤Z0 l∧Z0 l < 4611686018427387904 then some (Xz l 31 y,Yw l 32 (y+1)) else none
def shape_sides:Option (List (Int × Int)):=some [(1,1),(2,3),(3,3)]
def Z1y (s:ByteArray) (c:Int):Option Int:=some (Lib.indexByte s.data.toList c.toNat.toUInt8)
noncomputable def Z0u (s:ByteArray) (c':Int):Option Int :=
 Z8 (Z1y s c') fun v =>
 some v
noncomputable def Z2a (s:ByteArray) (substr:ByteArray):Option Int :=
 let n:=(Y7 substr)
 Z7 (if (n == 0)=true then true else (seqS substr s))
  (some 0)
  (Z7 (n == 1)
   (chk ((0:Int)≤0∧(0:Int) < (Y7 substr)) <|
    Z8 (Z0u s (Z0j substr 0)) fun v =>
    some v)
   (Z7 (decide ((Y7 s)≤n))
    (some (-1))
    (none)))
noncomputable def Z3j (s:ByteArray) (substr:ByteArray):Option Int :=
 Z8 (Z2a s substr) fun v =>
 some v
noncomputable def Z5d (s:ByteArray) (substr:ByteArray):Option Int :=
 Z7 ((Y7 substr) == 0)
  (none)
  (Z7 ((Y7 substr) == 1)
   (chk ((0:Int)≤0∧(0:Int) < (Y7 substr)) <|
    Z8 (Z41 s (Z0j substr 0)) fun v =>
    some v)
   (loopO (fun ((s1,n):ByteArray × Int) =>
    Z8 (Z3j s1 substr) fun v1 =>
    Z7 (v1 == (-1))
     (some (.out n))
     (chk (inR .i64 (n+1)) <|
      let n1:=(n+1)
      chk (inR .i64 (v1+(Y7 substr))) <|
      chk (0≤(v1+(Y7 substr))∧(v1+(Y7 substr))≤(Y7 s1)∧(Y7 s1)≤(Y7 s1)) <|
      let s2:=(Z43 s1 (v1+(Y7 substr)) (Y7 s1))
      some (.go (s2,n1)))) (s,0)))
noncomputable def Z35 (s:ByteArray) (sep:ByteArray) (sepSave:Int) (n:Int):Option (List ByteArray) :=
 Z7 (n == 0)
  (some ([]:List ByteArray))
  (Z7 (seqS sep (⟨#[]⟩:ByteArray))
   (none)
   (Zu (Z7 (decide (n < 0))
     (Z8 (Z5d s sep) fun v1 =>
      chk (inR .i64 (v1+1)) <|
      let n4:=(v1+1)
      some (.go n4))
     (some (.go n))) fun n1 =>
    chk (inR .i64 ((Y7 s)+1)) <|
    let n2:=(Yo n1 ((Y7 s)+1))
    chk (Q1 16 n2 n2) <|
    chk (inR .i64 (n2-1)) <|
    let n3:=(n2-1)
    Zu (loopO (fun ((s2,i1,a1):ByteArray × Int × List ByteArray) =>
     Z7 (decide (i1 < n3))
      (Z8 (Z3j s2 sep) fun v =>
       Z7 (decide (v < 0))
        (some (.out (.go (s2,i1,a1))))
        (chk (inR .i64 (v+sepSave)) <|
         chk ((0:Int)≤0∧(0:Int)≤(v+sepSave)∧(v+sepSave)≤(Y7 s2)) <|
         chk (0≤i1∧i1 < n2) <|
         chk (inR .i64 (v+(Y7 sep))) <|
         chk (0≤(v+(Y7 sep))∧(v+(Y7 sep))≤(Y7 s2)∧(Y7 s2)≤(Y7 s2)) <|
         let s3:=(Z43 s2 (v+(Y7 sep)) (Y7 s2))
         chk (inR .i64 (i1+1)) <|
         let i2:=(i1+1)
         some (.go (s3,i2,(Yc a1 i1 (Z43 s2 0 (v+sepSave)))))))
      (some (.out (.go (s2,i1,a1))))) (s,0,(Z0q n2 ByteArray.empty))) fun (s1,i,a) =>
    chk (0≤i∧i < n2) <|
    chk (inR .i64 (i+1)) <|
    chk ((0:Int)≤0∧(0:Int)≤(i+1)∧(i+1)≤n2) <|
    some (Xx (Yc a i s1) (0+0) ((0+0)+((i+1)-0)))))
noncomputable def Z03 (s:ByteArray) (sep:ByteArray):Option (List ByteArray) :=
 Z8 (Z35 s sep 0 (-1)) fun v =>
 some v
noncomputable def Z71 (c':Int):Option Bool :=
 some (if (if (c' == 32)=true then true else (c' == 10))=true then true else (c' == 45))
noncomputable def Z0v (s:ByteArray):Option (List ByteArray) :=
 chk (Q1 16 0 32) <|
 Zu (loopO (fun ((start1,spans2,pos):Int × List Xy × Int) =>
  Z7 (decide (pos < (Y7 s)))
   (let rune:=(rdecS s pos)
    Z8 (Z71 rune) fun v1 =>
    Z7 v1
     (Z7 (decide (0≤start1))
      (chk (Yt 16 ((Z0 spans2)+1)) <|
       let start2:=(bxorI .i64 (-1) start1)
       some (.go (start2,(spans2++([(Xy.mk start1 pos)]:List Xy)),(if (decide (pos < (Y7 s)))=true then (pos+(rwidS s pos)) else pos))))
      (some (.go (start1,spans2,(if (decide (pos < (Y7 s)))=true then (pos+(rwidS s pos)) else pos)))))
     (Z7 (decide (start1 < 0))
      (some (.go (pos,spans2,(if (decide (pos < (Y7 s)))=true then (pos+(rwidS s pos)) else pos))))
      (some (.go (start1,spans2,(if (decide (pos < (Y7 s)))=true then (pos+(rwidS s pos)) else pos))))))
   (some (.out (.go (start1,spans2))))) ((-1),(Z0q 0 Xb),0)) fun (start,spans) =>
 Zu (Z7 (decide (0≤start))
  (chk (Yt 16 ((Z0 spans)+1)) <|
   some (.go (spans++([(Xy.mk start (Y7 s))]:List Xy))))
  (some (.go spans))) fun spans1 =>
 chk (Q1 16 (Z0 spans1) (Z0 spans1)) <|
 Zu (loopO (fun ((v,a1):Int × List ByteArray) =>
  Z7 (decide (v < (Z0 spans1)))
   (chk (0≤v∧v < (Z0 spans1)) <|
    chk (0≤(Z1 Xb spans1 (0+v)).fstart∧(Z1 Xb spans1 (0+v)).fstart≤(Z1 Xb spans1 (0+v)).fend∧(Z1 Xb spans1 (0+v)).fend≤(Y7 s)) <|
    chk (0≤v∧v < (Z0 spans1)) <|
    chk (inR .i64 (v+1)) <|
    some (.go ((v+1),(Yc a1 v (Z43 s (Z1 Xb spans1 (0+v)).fstart (Z1 Xb spans1 (0+v)).fend)))))
   (some (.out (.go a1)))) (0,(Z0q (Z0 spans1) ByteArray.empty))) fun a =>
 some a
noncomputable def Z36 (e:ByteArray):Option (List ByteArray) :=
 Z8 (Z0v e) fun v =>
 some v
noncomputable def Qj (c':Int):Option Int :=
 some (borI .u8 c' 32)
def Z2y (a0:ByteArray):Option Bool:=none
noncomputable def Z1v (s:ByteArray) (base:Int) (bitSize:Int):Option (Int × Unit) :=
 Z7 (seqS s (⟨#[]⟩:ByteArray))
  (none)
  (let base0:=(base == 0)
   Zu (Z7 (if (decide (2≤base))=true then (decide (base≤36)) else false)
    (some (.go (s,base)))
    (Z7 (base == 0)
     (chk ((0:Int)≤0∧(0:Int) < (Y7 s)) <|
      Z7 ((Z0j s 0) == 48)
       (chk ((decide (3≤(Y7 s)))=true→(0:Int)≤1∧(1:Int) < (Y7 s)) <|
        Z8 (if (decide (3≤(Y7 s)))=true then Qj (Z0j s 1) else some 0) fun v4 =>
        Z7 (if (decide (3≤(Y7 s)))=true then (v4 == 98) else false)
         (chk ((0:Int)≤2∧(2:Int)≤(Y7 s)∧(Y7 s)≤(Y7 s)) <|
          let s2:=(Z43 s 2 (Y7 s))
          some (.go (s2,2)))
         (chk ((decide (3≤(Y7 s)))=true→(0:Int)≤1∧(1:Int) < (Y7 s)) <|
          Z8 (if (decide (3≤(Y7 s)))=true then Qj (Z0j s 1) else some 0) fun v4 =>
          Z7 (if (decide (3≤(Y7 s)))=true then (v4 == 111) else false)
           (chk ((0:Int)≤2∧(2:Int)≤(Y7 s)∧(Y7 s)≤(Y7 s)) <|
            let s3:=(Z43 s 2 (Y7 s))
            some (.go (s3,8)))
           (chk ((decide (3≤(Y7 s)))=true→(0:Int)≤1∧(1:Int) < (Y7 s)) <|
            Z8 (if (decide (3≤(Y7 s)))=true then Qj (Z0j s 1) else some 0) fun v4 =>
            Z7 (if (decide (3≤(Y7 s)))=true then (v4 == 120) else false)
             (chk ((0:Int)≤2∧(2:Int)≤(Y7 s)∧(Y7 s)≤(Y7 s)) <|
              let s4:=(Z43 s 2 (Y7 s))
              some (.go (s4,16)))
             (chk ((0:Int)≤1∧(1:Int)≤(Y7 s)∧(Y7 s)≤(Y7 s)) <|
              let s5:=(Z43 s 1 (Y7 s))
              some (.go (s5,8))))))
       (some (.go (s,10))))
     (none))) fun (s1,base1) =>
   Zu (Z7 (bitSize == 0)
    (some (.go 64))
    (Z7 (if (decide (bitSize < 0))=true then true else (decide (64 < bitSize)))
     (none)
     (some (.go bitSize)))) fun bitSize1 =>
   Zu (Z7 (base1 == 10)
    (some (.go 1844674407370955162))
    (Z7 (base1 == 16)
     (some (.go 1152921504606846976))
     (chk (((IntKind.wrap .u64 base1):Int)≠0) <|
      chk (inR .u64 (Int.tdiv 18446744073709551615 (IntKind.wrap .u64 base1))) <|
      chk (inR .u64 ((Int.tdiv 18446744073709551615 (IntKind.wrap .u64 base1))+1)) <|
      let cutoff1:=((Int.tdiv 18446744073709551615 (IntKind.wrap .u64 base1))+1)
      some (.go cutoff1)))) fun cutoff =>
   chk ((0:Int)≤(IntKind.wrap .u64 bitSize1)) <|
   chk (inR .u64 ((shlI .u64 1 (IntKind.wrap .u64 bitSize1))-1)) <|
   let maxVal:=((shlI .u64 1 (IntKind.wrap .u64 bitSize1))-1)
   Zu (loopO (fun ((underscores1,n1,v1):Bool × Int × Int) =>
    Z7 (decide (v1 < (Y7 s1)))
     (Zu (chk (0≤v1∧v1 < (Z0 (Z6f s1))) <|
       let c':=(Z1 0 (Z6f s1) v1)
       Zu (Z7 (if (c' == 95)=true then base0 else false)
        (some (.out (.go (true,n1))))
        (Z7 (if (decide (48≤c'))=true then (decide (c'≤57)) else false)
         (chk (inR .u8 (c'-48)) <|
          let d'1:=(c'-48)
          some (.go d'1))
         (Z8 (Qj c') fun v2 =>
          Z8 (if (decide (97≤v2))=true then Qj c' else some 0) fun v3 =>
          Z7 (if (decide (97≤v2))=true then (decide (v3≤122)) else false)
           (Z8 (Qj c') fun v2 =>
            chk (inR .u8 (v2-97)) <|
            chk (inR .u8 ((v2-97)+10)) <|
            let d'2:=((v2-97)+10)
            some (.go d'2))
           (none)))) fun d' =>
       Z7 (decide ((IntKind.wrap .u8 base1)≤d'))
        (none)
        (Z7 (decide (cutoff≤n1))
         (none)
         (chk (inR .u64 (n1*(IntKind.wrap .u64 base1))) <|
          let n3:=(n1*(IntKind.wrap .u64 base1))
          chk (inR .u64 (n3+(IntKind.wrap .u64 d'))) <|
          let n11:=(n3+(IntKind.wrap .u64 d'))
          Z7 (if (decide (n11 < n3))=true then true else (decide (maxVal < n11)))
           (none)
           (some (.go (underscores1,n11)))))) fun (underscores2,n2) =>
      chk (inR .i64 (v1+1)) <|
      some (.go (underscores2,n2,(v1+1))))
     (some (.out (.go (underscores1,n1))))) (false,0,0)) fun (underscores,n) =>
   Z8 (if underscores=true then Z2y s else some false) fun v =>
   Z7 (if underscores=true then (!v) else false)
    (none)
    (some (n,())))
noncomputable def Z2b (s:ByteArray) (base:Int) (bitSize:Int):Option (Int × Unit) :=
 Z7 (seqS s (⟨#[]⟩:ByteArray))
  (none)
  (Zu (chk ((0:Int)≤0∧(0:Int) < (Y7 s)) <|
    Z7 ((Z0j s 0) == 43)
     (chk ((0:Int)≤1∧(1:Int)≤(Y7 s)∧(Y7 s)≤(Y7 s)) <|
      let s2:=(Z43 s 1 (Y7 s))
      some (.go (s2,false)))
     (Z7 ((Z0j s 0) == 45)
      (chk ((0:Int)≤1∧(1:Int)≤(Y7 s)∧(Y7 s)≤(Y7 s)) <|
       let s3:=(Z43 s 1 (Y7 s))
       some (.go (s3,true)))
      (some (.go (s,false))))) fun (s1,neg) =>
   Z8 (Z1v s1 base bitSize) fun v =>
   let un:=v.1
   Z7 (if false=true then false else false)
    (some (0,()))
    (Z7 (bitSize == 0)
     (chk (inR .i64 (64-1)) <|
      chk ((0:Int)≤(IntKind.wrap .u64 (64-1))) <|
      let cutoff:=(shlI .u64 1 (IntKind.wrap .u64 (64-1)))
      Z7 (if (!neg)=true then (decide (cutoff≤un)) else false)
       (none)
       (Z7 (if neg=true then (decide (cutoff < un)) else false)
        (none)
        (let n:=(IntKind.wrap .i64 un)
         Z7 neg
          (chk (inR .i64 (0-n)) <|
           let n1:=(0-n)
           some (n1,()))
          (some (n,())))))
     (chk (inR .i64 (bitSize-1)) <|
      chk ((0:Int)≤(IntKind.wrap .u64 (bitSize-1))) <|
      let cutoff1:=(shlI .u64 1 (IntKind.wrap .u64 (bitSize-1)))
      Z7 (if (!neg)=true then (decide (cutoff1≤un)) else false)
       (none)
       (Z7 (if neg=true then (decide (cutoff1 < un)) else false)
        (none)
        (let n2:=(IntKind.wrap .i64 un)
         Z7 neg
          (chk (inR .i64 (0-n2)) <|
           let n3:=(0-n2)
           some (n3,()))
          (some (n2,())))))))
noncomputable def Z37 (s:ByteArray) (base:Int) (bitSize:Int):Option (Int × Unit) :=
 Z8 (Z2b s base bitSize) fun v =>
 let x':=v.1
 some (x',())
noncomputable def Z0z (s:ByteArray):Option Int :=
 Z8 (Z37 s 16 32) fun v =>
 let n:=v.1
 some n
noncomputable def Z4o (s:ByteArray):Option (List ByteArray) :=
 Zu (loopO (fun ((n1,wasSpace,setBits1,i9):Int × Int × Int × Int) =>
  Z7 (decide (i9 < (Y7 s)))
   (chk (0≤i9∧i9 < (Y7 s)) <|
    let r':=(Z0j s i9)
    let setBits2:=(borI .u8 setBits1 r')
    chk (0≤r'∧r' < (256:Int)) <|
    let isSpace:=(IntKind.wrap .i64 (gtabS 0 r'))
    chk (inR .i64 (n1+(bndI .i64 wasSpace (bxorI .i64 (-1) isSpace)))) <|
    let n2:=(n1+(bndI .i64 wasSpace (bxorI .i64 (-1) isSpace)))
    chk (inR .i64 (i9+1)) <|
    let i10:=(i9+1)
    some (.go (n2,isSpace,setBits2,i10)))
   (some (.out (.go (n1,setBits1))))) (0,1,0,0)) fun (n,setBits) =>
 Z7 (decide (128≤setBits))
  (none)
  (chk (Q1 16 n n) <|
   Zu (loopO (fun (i7:Int) =>
    chk ((decide (i7 < (Y7 s)))=true→0≤i7∧i7 < (Y7 s)) <|
    chk ((decide (i7 < (Y7 s)))=true→0≤(Z0j s i7)∧(Z0j s i7) < (256:Int)) <|
    Z7 (if (decide (i7 < (Y7 s)))=true then (!((gtabS 0 (Z0j s i7)) == 0)) else false)
     (chk (inR .i64 (i7+1)) <|
      let i8:=(i7+1)
      some (.go i8))
     (some (.out (.go i7)))) 0) fun i =>
   Zu (loopO (fun ((na1,fieldStart1,i1,a1):Int × Int × Int × List ByteArray) =>
    Z7 (decide (i1 < (Y7 s)))
     (chk (0≤i1∧i1 < (Y7 s)) <|
      chk (0≤(Z0j s i1)∧(Z0j s i1) < (256:Int)) <|
      Z7 ((gtabS 0 (Z0j s i1)) == 0)
       (chk (inR .i64 (i1+1)) <|
        let i2:=(i1+1)
        some (.go (na1,fieldStart1,i2,a1)))
       (chk (0≤fieldStart1∧fieldStart1≤i1∧i1≤(Y7 s)) <|
        chk (0≤na1∧na1 < n) <|
        chk (inR .i64 (na1+1)) <|
        let na2:=(na1+1)
        chk (inR .i64 (i1+1)) <|
        let i3:=(i1+1)
        Zu (loopO (fun (i5:Int) =>
         chk ((decide (i5 < (Y7 s)))=true→0≤i5∧i5 < (Y7 s)) <|
         chk ((decide (i5 < (Y7 s)))=true→0≤(Z0j s i5)∧(Z0j s i5) < (256:Int)) <|
         Z7 (if (decide (i5 < (Y7 s)))=true then (!((gtabS 0 (Z0j s i5)) == 0)) else false)
          (chk (inR .i64 (i5+1)) <|
           let i6:=(i5+1)
           some (.go i6))
          (some (.out (.go i5)))) i3) fun i4 =>
        some (.go (na2,i4,i4,(Yc a1 na1 (Z43 s fieldStart1 i1))))))
     (some (.out (.go (na1,fieldStart1,a1))))) (0,i,i,(Z0q n ByteArray.empty))) fun (na,fieldStart,a) =>
   Z7 (decide (fieldStart < (Y7 s)))
    (chk (0≤fieldStart∧fieldStart≤(Y7 s)∧(Y7 s)≤(Y7 s)) <|
     chk (0≤na∧na < n) <|
     some (Yc a na (Z43 s fieldStart (Y7 s))))
    (some a))
noncomputable def Z5e (s:ByteArray):Option Int :=
 Zu (Z8 (Z4o kS0) fun v =>
  loopO (fun (v1:Int) =>
   Z7 (decide (v1 < (Z0 v)))
    (chk (0≤v1∧v1 < (Z0 v)) <|
     let n:=(Z1 ByteArray.empty v (0+v1))
     Z7 (seqS n s)
      (chk (inR .i64 (v1+1)) <|
       some (.out (.out (v1+1))))
      (chk (inR .i64 (v1+1)) <|
       some (.go (v1+1))))
    (some (.out (.go ())))) 0) fun (_:Unit) =>
 some 0
noncomputable def Z67 (s:ByteArray):Option Int :=
 Z8 (Z0z s) fun v =>
 chk (inR .i64 (v+1)) <|
 some (v+1)
noncomputable def Z68 (s:ByteArray):Option Int :=
 Z7 (seqS s (⟨#[82]⟩:ByteArray))
  (some 1)
  (Z7 (seqS s (⟨#[68]⟩:ByteArray))
   (some 2)
   (Z7 (seqS s (⟨#[67]⟩:ByteArray))
    (some 3)
    (Z7 (seqS s (⟨#[84]⟩:ByteArray))
     (some 4)
     (some 0))))
noncomputable def Z1p (text:ByteArray):Option Z2 :=
 Zu (Z8 (Z03 text (⟨#[44]⟩:ByteArray)) fun v =>
  loopO (fun ((v1,o1):Int × List Y9) =>
   Z7 (decide (v1 < (Z0 v)))
    (Zu (chk (0≤v1∧v1 < (Z0 v)) <|
      let e:=(Z1 ByteArray.empty v (0+v1))
      Z8 (Z36 e) fun v2 =>
      Zu (Zu (Z7 ((Z0 v2) == 3)
        (chk ((0:Int)≤1∧(1:Int) < (Z0 v2)) <|
         Z8 (Z0z (Z1 ByteArray.empty v2 (0+1))) fun v5 =>
         some (.go v5))
        (Z7 ((Z0 v2) == 2)
         (some (.go 0))
         (some (.out (.go (0,0,0)))))) fun b9_11 =>
       chk ((0:Int)≤0∧(0:Int) < (Z0 v2)) <|
       Z8 (Z0z (Z1 ByteArray.empty v2 (0+0))) fun v3 =>
       chk (inR .i64 ((Z0 v2)-1)) <|
       chk (0≤((Z0 v2)-1)∧((Z0 v2)-1) < (Z0 v2)) <|
       Z8 (Z5e (Z1 ByteArray.empty v2 (0+((Z0 v2)-1)))) fun v4 =>
       some (.go (v3,b9_11,v4))) fun (b9_0,b9_1,b9_2) =>
      chk (Yt 24 ((Z0 o1)+1)) <|
      some (.go (o1++([(Y9.mk b9_0 (Yn b9_0 b9_1) b9_2)]:List Y9)))) fun o2 =>
     chk (inR .i64 (v1+1)) <|
     some (.go ((v1+1),o2)))
    (some (.out (.go o1)))) (0,([]:List Y9))) fun o =>
 some (Z2.mk o)
noncomputable def Z2c (text:ByteArray):Option Z2 :=
 Zu (Z8 (Z03 text (⟨#[44]⟩:ByteArray)) fun v =>
  loopO (fun ((v1,o1):Int × List Y9) =>
   Z7 (decide (v1 < (Z0 v)))
    (Zu (chk (0≤v1∧v1 < (Z0 v)) <|
      let e:=(Z1 ByteArray.empty v (0+v1))
      Z8 (Z36 e) fun v2 =>
      Zu (Zu (Z7 ((Z0 v2) == 3)
        (chk ((0:Int)≤1∧(1:Int) < (Z0 v2)) <|
         Z8 (Z0z (Z1 ByteArray.empty v2 (0+1))) fun v5 =>
         some (.go v5))
        (Z7 ((Z0 v2) == 2)
         (some (.go 0))
         (some (.out (.go (0,0,0)))))) fun b9_11 =>
       chk ((0:Int)≤0∧(0:Int) < (Z0 v2)) <|
       Z8 (Z0z (Z1 ByteArray.empty v2 (0+0))) fun v3 =>
       chk (inR .i64 ((Z0 v2)-1)) <|
       chk (0≤((Z0 v2)-1)∧((Z0 v2)-1) < (Z0 v2)) <|
       Z8 (Z67 (Z1 ByteArray.empty v2 (0+((Z0 v2)-1)))) fun v4 =>
       some (.go (v3,b9_11,v4))) fun (b9_0,b9_1,b9_2) =>
      chk (Yt 24 ((Z0 o1)+1)) <|
      some (.go (o1++([(Y9.mk b9_0 (Yn b9_0 b9_1) b9_2)]:List Y9)))) fun o2 =>
     chk (inR .i64 (v1+1)) <|
     some (.go ((v1+1),o2)))
    (some (.out (.go o1)))) (0,([]:List Y9))) fun o =>
 some (Z2.mk o)
noncomputable def Z2d (text:ByteArray):Option Z2 :=
 Zu (Z8 (Z03 text (⟨#[44]⟩:ByteArray)) fun v =>
  loopO (fun ((v1,o1):Int × List Y9) =>
   Z7 (decide (v1 < (Z0 v)))
    (Zu (chk (0≤v1∧v1 < (Z0 v)) <|
      let e:=(Z1 ByteArray.empty v (0+v1))
      Z8 (Z36 e) fun v2 =>
      Zu (Zu (Z7 ((Z0 v2) == 3)
        (chk ((0:Int)≤1∧(1:Int) < (Z0 v2)) <|
         Z8 (Z0z (Z1 ByteArray.empty v2 (0+1))) fun v5 =>
         some (.go v5))
        (Z7 ((Z0 v2) == 2)
         (some (.go 0))
         (some (.out (.go (0,0,0)))))) fun b9_11 =>
       chk ((0:Int)≤0∧(0:Int) < (Z0 v2)) <|
       Z8 (Z0z (Z1 ByteArray.empty v2 (0+0))) fun v3 =>
       chk (inR .i64 ((Z0 v2)-1)) <|
       chk (0≤((Z0 v2)-1)∧((Z0 v2)-1) < (Z0 v2)) <|
       Z8 (Z68 (Z1 ByteArray.empty v2 (0+((Z0 v2)-1)))) fun v4 =>
       some (.go (v3,b9_11,v4))) fun (b9_0,b9_1,b9_2) =>
      chk (Yt 24 ((Z0 o1)+1)) <|
      some (.go (o1++([(Y9.mk b9_0 (Yn b9_0 b9_1) b9_2)]:List Y9)))) fun o2 =>
     chk (inR .i64 (v1+1)) <|
     some (.go ((v1+1),o2)))
    (some (.out (.go o1)))) (0,([]:List Y9))) fun o =>
 some (Z2.mk o)
noncomputable def Z4e (text:ByteArray):Option (List Yg) :=
 Zu (Z8 (Z03 text (⟨#[44]⟩:ByteArray)) fun v =>
  loopO (fun ((v1,l'1):Int × List Yg) =>
   Z7 (decide (v1 < (Z0 v)))
    (chk (0≤v1∧v1 < (Z0 v)) <|
     let e:=(Z1 ByteArray.empty v (0+v1))
     Z8 (Z36 e) fun v2 =>
     Z7 ((Z0 v2) == 2)
      (chk ((0:Int)≤0∧(0:Int) < (Z0 v2)) <|
       Z8 (Z0z (Z1 ByteArray.empty v2 (0+0))) fun v3 =>
       chk ((0:Int)≤1∧(1:Int) < (Z0 v2)) <|
       Z8 (Z0z (Z1 ByteArray.empty v2 (0+1))) fun v4 =>
       chk (Yt 16 ((Z0 l'1)+1)) <|
       chk (inR .i64 (v1+1)) <|
       some (.go ((v1+1),(l'1++([(Yg.mk v3 v4)]:List Yg)))))
      (chk (inR .i64 (v1+1)) <|
       some (.go ((v1+1),l'1))))
    (some (.out (.go l'1)))) (0,([]:List Yg))) fun l' =>
 some l'
noncomputable def Z7v (text:ByteArray):Option (List X0) :=
 Zu (Z8 (Z03 text (⟨#[44]⟩:ByteArray)) fun v =>
  loopO (fun ((v1,l'1):Int × List X0) =>
   Z7 (decide (v1 < (Z0 v)))
    (chk (0≤v1∧v1 < (Z0 v)) <|
     let e:=(Z1 ByteArray.empty v (0+v1))
     Z8 (Z36 e) fun v2 =>
     Z7 ((Z0 v2) == 3)
      (chk ((0:Int)≤0∧(0:Int) < (Z0 v2)) <|
       Z8 (Z0z (Z1 ByteArray.empty v2 (0+0))) fun v3 =>
       chk ((0:Int)≤1∧(1:Int) < (Z0 v2)) <|
       Z8 (Z0z (Z1 ByteArray.empty v2 (0+1))) fun v4 =>
       chk ((0:Int)≤2∧(2:Int) < (Z0 v2)) <|
       Z8 (Z0z (Z1 ByteArray.empty v2 (0+2))) fun v5 =>
       chk (Yt 24 ((Z0 l'1)+1)) <|
       chk (inR .i64 (v1+1)) <|
       some (.go ((v1+1),(l'1++([(X0.mk v3 v4 v5)]:List X0)))))
      (chk (inR .i64 (v1+1)) <|
       some (.go ((v1+1),l'1))))
    (some (.out (.go l'1)))) (0,([]:List X0))) fun l' =>
 some l'
noncomputable def Z5l  : Option Za :=
 Z8 (Z1p kS1) fun v =>
 Z8 (Z2c kS2) fun v1 =>
 Z8 (Z2d kS3) fun v2 =>
 Z8 (Z4e kS4) fun v3 =>
 Z8 (Z4e kS5) fun v4 =>
 Z8 (Z7v kS6) fun v5 =>
 some (Za.mk v v1 v2 v3 v4 v5)
noncomputable def Z4a (c':Int):Option Bool :=
 some (if (if (decide (0≤c'))=true then (decide (c'≤256)) else false)=true then true else (if (decide (16777216≤c'))=true then (decide (c' < 33554432)) else false))
noncomputable def Z72 (p':Z0s):Option Bool :=
 Z8 (Z4a p'.fFg) fun v =>
 Z8 (if v=true then Z4a p'.fBg else some false) fun v1 =>
 some (if (if (if v=true then v1 else false)=true then (decide (0≤p'.fFlags)) else false)=true then (decide (p'.fFlags≤511)) else false)
noncomputable def Z73 (c':Zi):Option Bool :=
 Zu (Zu (let m1:=c'.fM.x0
   Z7 (if (if (decide (m1 < 0))=true then true else (decide (1114111 < m1)))=true then true else (if (!(m1 == 0))=true then (c'.fR == 0) else false))
    (some (.out (.out false)))
    (chk (inR .i64 (0+1)) <|
     some (.go ()))) fun (_:Unit) =>
  Zu (let m:=c'.fM.x1
   Z7 (if (if (decide (m < 0))=true then true else (decide (1114111 < m)))=true then true else (if (!(m == 0))=true then (c'.fR == 0) else false))
    (some (.out (.out false)))
    (chk (inR .i64 (1+1)) <|
     some (.go ()))) fun (_:Unit) =>
  some (.go ())) fun (_:Unit) =>
 Z8 (if (!(if (if (decide (c'.fR < 0))=true then true else (decide (1114111 < c'.fR)))=true then true else (if (c'.fM.x0 == 0)=true then (!(c'.fM.x1 == 0)) else false)))=true then Z72 c'.fPen else some false) fun v =>
 Z7 (if (if (if (decide (c'.fR < 0))=true then true else (decide (1114111 < c'.fR)))=true then true else (if (c'.fM.x0 == 0)=true then (!(c'.fM.x1 == 0)) else false))=true then true else (!v))
  (some false)
  (Z7 (c'.fW == 0)
   (some (c'.fR == 0))
   (Z7 (c'.fW == 1)
    (some true)
    (Z7 (c'.fW == 2)
     (some (!(c'.fR == 0)))
     (some false))))
noncomputable def Z74 (l':(List Zi)) (i:Int):Option Bool :=
 chk (0≤i∧i < (Z0 l')) <|
 Z7 ((Z1 Z4 l' i).fW == 0)
  (chk ((!(i == 0))=true→inR .i64 (i-1)) <|
   chk ((!(i == 0))=true→0≤(i-1)∧(i-1) < (Z0 l')) <|
   some (if (i == 0)=true then true else (!((Z1 Z4 l' (i-1)).fW == 2))))
  (Z7 ((Z1 Z4 l' i).fW == 2)
   (chk (inR .i64 (i+1)) <|
    chk ((!((i+1) == (Z0 l')))=true→inR .i64 (i+1)) <|
    chk ((!((i+1) == (Z0 l')))=true→0≤(i+1)∧(i+1) < (Z0 l')) <|
    some (if ((i+1) == (Z0 l'))=true then true else (!((Z1 Z4 l' (i+1)).fW == 0))))
   (some false))
noncomputable def Q6 (r':Z5):Option Bool :=
 Z7 (if (if (if (decide ((Z0 r'.fCells) < 1))=true then true else (decide (4096 < (Z0 r'.fCells))))=true then true else (decide (r'.fDir < 0)))=true then true else (decide (2 < r'.fDir)))
  (some false)
  (Zu (loopO (fun (v:Int) =>
    Z7 (decide (v < (Z0 r'.fCells)))
     (chk (0≤v∧v < (Z0 r'.fCells)) <|
      Z8 (Z73 (Z1 Z4 r'.fCells v)) fun v1 =>
      Z8 (if (!(!v1))=true then Z74 r'.fCells v else some false) fun v2 =>
      Z7 (if (!v1)=true then true else v2)
       (some (.out (.out false)))
       (chk (inR .i64 (v+1)) <|
        some (.go (v+1))))
     (some (.out (.go ())))) 0) fun (_:Unit) =>
   some true)
noncomputable def Q2 (l':(List Z5)):Option Bool :=
 Zu (loopO (fun (v:Int) =>
  Z7 (decide (v < (Z0 l')))
   (chk (0≤v∧v < (Z0 l')) <|
    Z8 (Q6 (Z1 Z3 l' v)) fun v1 =>
    Z7 (!v1)
     (some (.out (.out false)))
     (chk (inR .i64 (v+1)) <|
      some (.go (v+1))))
   (some (.out (.go ())))) 0) fun (_:Unit) =>
 some true
noncomputable def Z0m (r':Z5):Option ((List Int) × (List Int)) :=
 Zu (loopO (fun ((v,Zb,widths1):Int × List Int × List Int) =>
  Z7 (decide (v < (Z0 r'.fCells)))
   (chk (0≤v∧v < (Z0 r'.fCells)) <|
    Z7 ((Z1 Z4 r'.fCells v).fW == 0)
     (chk (inR .i64 (v+1)) <|
      some (.go ((v+1),Zb,widths1)))
     (let x':=(Z1 Z4 r'.fCells v).fR
      Z7 (x' == 0)
       (chk (Yt 8 ((Z0 Zb)+1)) <|
        chk (Yt 8 ((Z0 widths1)+1)) <|
        chk (inR .i64 (v+1)) <|
        some (.go ((v+1),(Zb++([32]:List Int)),(widths1++([(Z1 Z4 r'.fCells v).fW]:List Int)))))
       (chk (Yt 8 ((Z0 Zb)+1)) <|
        chk (Yt 8 ((Z0 widths1)+1)) <|
        chk (inR .i64 (v+1)) <|
        some (.go ((v+1),(Zb++([x']:List Int)),(widths1++([(Z1 Z4 r'.fCells v).fW]:List Int)))))))
   (some (.out (.go (Zb,widths1))))) (0,([]:List Int),([]:List Int))) fun (out,widths) =>
 some (out,widths)
noncomputable def Xh (s:List Int) (s_off:Int) (s_n:Int):Option (List Int) :=
 chk (0≤s_off∧0≤s_n∧s_off+s_n≤Z0 s) <|
 chk (inR .i64 (s_n-1)) <|
 let j:=(s_n-1)
 loopO (fun ((i,j1,s1):Int × Int × List Int) =>
  Z7 (decide (i < j1))
   (chk (0≤j1∧j1 < s_n) <|
    chk (0≤i∧i < s_n) <|
    chk (0≤i∧i < s_n) <|
    chk (0≤j1∧j1 < s_n) <|
    chk (inR .i64 (i+1)) <|
    chk (inR .i64 (j1-1)) <|
    let i1:=(i+1)
    let j2:=(j1-1)
    some (.go (i1,j2,(Yc (Yc s1 (s_off+i) (Z1 0 s1 (s_off+j1))) (s_off+j1) (Z1 0 s1 (s_off+i))))))
   (some (.out s1))) (0,j,s)
noncomputable def Q9 (levels:(List Int)):Option (List Int) :=
 chk (Q1 8 (Z0 levels) (Z0 levels)) <|
 chk (Q1 8 (Z0 levels) (Z0 levels)) <|
 Zu (loopO (fun ((most1,least1,v1,l'1,out5):Int × Int × Int × List Int × List Int) =>
  Z7 (decide (v1 < (Z0 levels)))
   (chk (0≤v1∧v1 < (Z0 levels)) <|
    let x':=(Z1 0 levels v1)
    let x'1:=(Yn 0 (Yo x' 127))
    chk (0≤v1∧v1 < (Z0 levels)) <|
    chk (0≤v1∧v1 < (Z0 levels)) <|
    let most2:=(Yn most1 x'1)
    chk ((2:Int)≠0) <|
    Z7 ((Int.tmod x'1 2) == 1)
     (let least2:=(Yo least1 x'1)
      chk (inR .i64 (v1+1)) <|
      some (.go (most2,least2,(v1+1),(Yc l'1 v1 x'1),(Yc out5 v1 v1))))
     (chk (inR .i64 (v1+1)) <|
      some (.go (most2,least1,(v1+1),(Yc l'1 v1 x'1),(Yc out5 v1 v1)))))
   (some (.out (.go (most1,least1,l'1,out5))))) (0,128,0,(Z0q (Z0 levels) 0),(Z0q (Z0 levels) 0))) fun (most,Xe,l',out) =>
 Zu (loopO (fun ((level,out2):Int × List Int) =>
  Z7 (decide (Xe≤level))
   (Zu (loopO (fun ((from',out4):Int × List Int) =>
     Z7 (decide (from' < (Z0 levels)))
      (Zu (loopO (fun (to1:Int) =>
        chk ((decide (to1 < (Z0 levels)))=true→0≤to1∧to1 < (Z0 levels)) <|
        Z7 (if (decide (to1 < (Z0 levels)))=true then (decide (level≤(Z1 0 l' (0+to1)))) else false)
         (chk (inR .i64 (to1+1)) <|
          let to2:=(to1+1)
          some (.go to2))
         (some (.out (.go to1)))) from') fun to =>
       chk (0≤from'∧from'≤to∧to≤(Z0 levels)) <|
       Z8 (Xh out4 (0+from') (to-from')) fun v =>
       chk (Z0 v=Z0 out4) <|
       chk (inR .i64 (to+1)) <|
       let from'1:=(to+1)
       some (.go (from'1,v)))
      (some (.out (.go out4)))) (0,out2)) fun out3 =>
    chk (inR .i64 (level-1)) <|
    let level1:=(level-1)
    some (.go (level1,out3)))
   (some (.out (.go out2)))) (most,out)) fun Zb =>
 some Zb
noncomputable def Z3o (levels:(List Int)) (widths:(List Int)):Option ((List Int) × Bool) :=
 Z7 (!((Z0 levels) == (Z0 widths)))
  (some (([]:List Int),false))
  (chk (Q1 8 (Z0 widths) (Z0 widths)) <|
   Zu (loopO (fun ((n1,v3,starts1):Int × Int × List Int) =>
    Z7 (decide (v3 < (Z0 widths)))
     (chk (0≤v3∧v3 < (Z0 widths)) <|
      let w:=(Z1 0 widths v3)
      Z7 (if (!(w == 1))=true then (!(w == 2)) else false)
       (some (.out (.out (([]:List Int),false))))
       (chk (0≤v3∧v3 < (Z0 widths)) <|
        chk (inR .i64 (n1+w)) <|
        let n2:=(n1+w)
        chk (inR .i64 (v3+1)) <|
        some (.go (n2,(v3+1),(Yc starts1 v3 n1)))))
     (some (.out (.go (n1,starts1))))) (0,0,(Z0q (Z0 widths) 0))) fun (n,starts) =>
   chk (Q1 8 0 n) <|
   Zu (Z8 (Q9 levels) fun v =>
    loopO (fun ((v1,Zb):Int × List Int) =>
     Z7 (decide (v1 < (Z0 v)))
      (Zu (chk (0≤v1∧v1 < (Z0 v)) <|
        let i:=(Z1 0 v (0+v1))
        chk (0≤i∧i < (Z0 widths)) <|
        loopO (fun ((v2,out3):Int × List Int) =>
         Z7 (decide (v2 < (Z1 0 widths i)))
          (chk (0≤i∧i < (Z0 widths)) <|
           chk (inR .i64 ((Z1 0 starts (0+i))+v2)) <|
           chk (Yt 8 ((Z0 out3)+1)) <|
           chk (inR .i64 (v2+1)) <|
           some (.go ((v2+1),(out3++([((Z1 0 starts (0+i))+v2)]:List Int)))))
          (some (.out (.go out3)))) (0,Zb)) fun out2 =>
       chk (inR .i64 (v1+1)) <|
       some (.go ((v1+1),out2)))
      (some (.out (.go Zb)))) (0,(Z0q 0 0))) fun out =>
   some (out,true))
noncomputable def Qy (l':(List Int)):Option ((List Int) × Bool) :=
 chk (Q1 8 (Z0 l') (Z0 l')) <|
 Zu (loopO (fun ((v1,out3):Int × List Int) =>
  Z7 (decide (v1 < (Z0 l')))
   (chk (0≤v1∧v1 < (Z0 l')) <|
    chk (inR .i64 (v1+1)) <|
    some (.go ((v1+1),(Yc out3 v1 (-1)))))
   (some (.out (.go out3)))) (0,(Z0q (Z0 l') 0))) fun out =>
 Zu (loopO (fun ((v,out2):Int × List Int) =>
  Z7 (decide (v < (Z0 l')))
   (chk (0≤v∧v < (Z0 l')) <|
    let x':=(Z1 0 l' v)
    chk ((!(if (decide (x' < 0))=true then true else (decide ((Z0 l')≤x'))))=true→0≤x'∧x' < (Z0 l')) <|
    Z7 (if (if (decide (x' < 0))=true then true else (decide ((Z0 l')≤x')))=true then true else (decide (0≤(Z1 0 out2 (0+x')))))
     (some (.out (.out (([]:List Int),false))))
     (chk (0≤x'∧x' < (Z0 l')) <|
      chk (inR .i64 (v+1)) <|
      some (.go ((v+1),(Yc out2 x' v)))))
   (some (.out (.go out2)))) (0,out)) fun Zb =>
 some (Zb,true)
noncomputable def Z2e (cells:(List Zi)) (levels:(List Int)) (widths:(List Int)) (base:Int):Option Zj :=
 Z8 (Z3o levels widths) fun v =>
 Z8 (Qy v.1) fun v1 =>
 chk (Q1 56 (Z0 v.1) (Z0 v.1)) <|
 Zu (loopO (fun ((v2,o1):Int × List Zi) =>
  Z7 (decide (v2 < (Z0 v.1)))
   (chk (0≤v2∧v2 < (Z0 v.1)) <|
    let at':=(Z1 0 v.1 v2)
    chk (0≤at'∧at' < (Z0 cells)) <|
    chk (0≤v2∧v2 < (Z0 v.1)) <|
    chk (inR .i64 (v2+1)) <|
    some (.go ((v2+1),(Yc o1 v2 (Z1 Z4 cells at')))))
   (some (.out (.go o1)))) (0,(Z0q (Z0 v.1) Z4))) fun o =>
 some (Zj.mk v.1 v1.1 o base)
noncomputable def Z1w (r':Z5):Option Zj :=
 Z8 (Z0m r') fun v =>
 chk (Q1 8 (Z0 v.1) (Z0 v.1)) <|
 Z7 (!(r'.fDir == 1))
  (Z8 (Z2e r'.fCells (Z0q (Z0 v.1) 0) v.2 0) fun v1 =>
   some v1)
  (Zu (loopO (fun ((v3,levels1):Int × List Int) =>
    Z7 (decide (v3 < (Z0 v.1)))
     (chk (0≤v3∧v3 < (Z0 v.1)) <|
      chk (inR .i64 (v3+1)) <|
      some (.go ((v3+1),(Yc levels1 v3 1))))
     (some (.out (.go levels1)))) (0,(Z0q (Z0 v.1) 0))) fun levels =>
   Z8 (Z2e r'.fCells levels v.2 1) fun v2 =>
   some v2)
noncomputable def Z17 (l':(List Z5)):Option (List Int) :=
 Zu (loopO (fun ((v,Zb):Int × List Int) =>
  Z7 (decide (v < (Z0 l')))
   (chk (0≤v∧v < (Z0 l')) <|
    Z8 (Z0m (Z1 Z3 l' v)) fun v1 =>
    chk (Yt 8 ((Z0 Zb)+(Z0 v1.1))) <|
    chk (inR .i64 (v+1)) <|
    some (.go ((v+1),(Zb++v1.1))))
   (some (.out (.go Zb)))) (0,([]:List Int))) fun out =>
 some out
noncomputable def Z38 (t':Z2) (r':Int):Option Int :=
 Zu (loopO (fun (v:Int) =>
  Z7 (decide (v < (Z0 t'.fL)))
   (chk (0≤v∧v < (Z0 t'.fL)) <|
    Z7 (if (decide ((Z1 Yd t'.fL v).fLo≤r'))=true then (decide (r'≤(Z1 Yd t'.fL v).fHi)) else false)
     (some (.out (.out (Z1 Yd t'.fL v).fV)))
     (chk (inR .i64 (v+1)) <|
      some (.go (v+1))))
   (some (.out (.go ())))) 0) fun (_:Unit) =>
 some 0
noncomputable def Z39 (d':Za) (r':Int):Option Int :=
 Z8 (Z38 d'.fClass r') fun v =>
 Z7 (decide (0 < v))
  (some v)
  (some 1)
noncomputable def Z2f (d':Za) (r':(List Int)):Option (List Int) :=
 chk (Q1 8 (Z0 r') (Z0 r')) <|
 Zu (loopO (fun ((v,Zb):Int × List Int) =>
  Z7 (decide (v < (Z0 r')))
   (chk (0≤v∧v < (Z0 r')) <|
    let x':=(Z1 0 r' v)
    Z8 (Z39 d' x') fun v1 =>
    chk (0≤v∧v < (Z0 r')) <|
    chk (inR .i64 (v+1)) <|
    some (.go ((v+1),(Yc Zb v v1))))
   (some (.out (.go Zb)))) (0,(Z0q (Z0 r') 0))) fun out =>
 some out
noncomputable def si_push (s:Zp) (x':Int):Option (Zp) :=
 chk (Yt 8 ((Z0 s.fl)+1)) <|
 some (Zp.mk (s.fl++([x']:List Int)))
noncomputable def si_size (s:Zp):Option Int :=
 some (Z0 s.fl)
noncomputable def si_last (s:Zp):Option Int :=
 chk (inR .i64 ((Z0 s.fl)-1)) <|
 chk (0≤((Z0 s.fl)-1)∧((Z0 s.fl)-1) < (Z0 s.fl)) <|
 some (Z1 0 s.fl ((Z0 s.fl)-1))
noncomputable def si_pop (s:Zp):Option (Zp) :=
 chk (inR .i64 ((Z0 s.fl)-1)) <|
 chk ((0:Int)≤0∧(0:Int)≤((Z0 s.fl)-1)∧((Z0 s.fl)-1)≤(Z0 s.fl)) <|
 some (Zp.mk (Xx s.fl (0+0) ((0+0)+(((Z0 s.fl)-1)-0))))
noncomputable def Qk (l':(List Int)):Option (List Int) :=
 chk (Q1 8 (Z0 l') (Z0 l')) <|
 Zu (loopO (fun ((v,Zb,o):Int × List Int × List Int) =>
  Z7 (decide (v < (Z0 l')))
   (Zu (chk (0≤v∧v < (Z0 l')) <|
     let c':=(Z1 0 l' v)
     chk (0≤v∧v < (Z0 l')) <|
     Zu (Z7 (c' == 20)
      (some (.go (c' == 20)))
      (Z7 (c' == 21)
       (some (.go (c' == 21)))
       (some (.go (c' == 22))))) fun v1 =>
     Z7 v1
      (chk (0≤v∧v < (Z0 l')) <|
       Z8 (si_push (Zp.mk o) v) fun v2 =>
       some (.go ((Yc (Yc Zb v (-1)) v (Z0 l')),v2.fl)))
      (Z7 (c' == 23)
       (Z8 (si_size (Zp.mk o)) fun v3 =>
        Z7 (decide (0 < v3))
         (Z8 (si_last (Zp.mk o)) fun v4 =>
          chk (0≤v∧v < (Z0 l')) <|
          Z8 (si_last (Zp.mk o)) fun v4 =>
          chk (0≤v4∧v4 < (Z0 l')) <|
          Z8 (si_pop (Zp.mk o)) fun v5 =>
          some (.go ((Yc (Yc (Yc Zb v (-1)) v v4) v4 v),v5.fl)))
         (some (.go ((Yc Zb v (-1)),o))))
       (Z7 (c' == 11)
        (some (.go ((Yc Zb v (-1)),([]:List Int))))
        (some (.go ((Yc Zb v (-1)),o)))))) fun (out2,o1) =>
    chk (inR .i64 (v+1)) <|
    some (.go ((v+1),out2,o1)))
   (some (.out (.go Zb)))) (0,(Z0q (Z0 l') 0),([]:List Int))) fun out =>
 some out
noncomputable def Z1z (l':(List Int)) (match':(List Int)) (from':Int) (to:Int):Option Int :=
 Zu (loopO (fun (i:Int) =>
  Z7 (decide (i < to))
   (Zu (chk (0≤i∧i < (Z0 l')) <|
     Zu (Z7 ((Z1 0 l' i) == 1)
      (some (.go ((Z1 0 l' i) == 1)))
      (some (.go ((Z1 0 l' i) == 11)))) fun v =>
     Z7 v
      (some (.out (.out (.out 0))))
      (Zu (Z7 ((Z1 0 l' i) == 2)
        (some (.go ((Z1 0 l' i) == 2)))
        (some (.go ((Z1 0 l' i) == 3)))) fun v1 =>
       Z7 v1
        (some (.out (.out (.out 1))))
        (Z7 ((Z1 0 l' i) == 20)
         (Z7 ((Z1 0 l' i) == 20)
          (chk (0≤i∧i < (Z0 match')) <|
           let i3:=(Z1 0 match' i)
           some (.go i3))
          (some (.go i)))
         (Z7 ((Z1 0 l' i) == 21)
          (Z7 ((Z1 0 l' i) == 21)
           (chk (0≤i∧i < (Z0 match')) <|
            let i4:=(Z1 0 match' i)
            some (.go i4))
           (some (.go i)))
          (Z7 ((Z1 0 l' i) == 22)
           (chk (0≤i∧i < (Z0 match')) <|
            let i5:=(Z1 0 match' i)
            some (.go i5))
           (some (.go i))))))) fun i1 =>
    chk (inR .i64 (i1+1)) <|
    let i2:=(i1+1)
    some (.go i2))
   (some (.out (.go ())))) from') fun (_:Unit) =>
 some 0
noncomputable def Z4p (l':(List Int)):Option Int :=
 Z8 (Qk l') fun v =>
 Z8 (Z1z l' v 0 (Z0 l')) fun v1 =>
 some v1
noncomputable def Z0f (l':(List Int)):Option (List Int) :=
 chk (Q1 8 (Z0 l') (Z0 l')) <|
 Zu (loopO (fun ((v,Zb):Int × List Int) =>
  Z7 (decide (v < (Z0 l')))
   (chk (0≤v∧v < (Z0 l')) <|
    let c':=(Z1 0 l' v)
    Z7 (if (decide (c' < 1))=true then true else (decide (23 < c')))
     (chk (0≤v∧v < (Z0 l')) <|
      chk (inR .i64 (v+1)) <|
      some (.go ((v+1),(Yc Zb v 14))))
     (chk (0≤v∧v < (Z0 l')) <|
      chk (inR .i64 (v+1)) <|
      some (.go ((v+1),(Yc Zb v c')))))
   (some (.out (.go Zb)))) (0,(Z0q (Z0 l') 0))) fun out =>
 some out
noncomputable def Xp (base:Int):Option Int :=
 chk ((2:Int)≠0) <|
 some (Int.tmod (Yn base 0) 2)
noncomputable def Z4b (s:Z9) (x':Y8):Option (Z9) :=
 chk (Yt 24 ((Z0 s.fl)+1)) <|
 some (Z9.mk (s.fl++([x']:List Y8)))
noncomputable def Z1q (s:Z9):Option Y8 :=
 chk (inR .i64 ((Z0 s.fl)-1)) <|
 chk (0≤((Z0 s.fl)-1)∧((Z0 s.fl)-1) < (Z0 s.fl)) <|
 some (Z1 Zr s.fl ((Z0 s.fl)-1))
noncomputable def Z2g (m:Z6) (i:Int):Option (Z6) :=
 Z8 (Z1q m.fopen) fun v =>
 chk (0≤i∧i < (Z0 m.frun.fLevels)) <|
 chk (0≤i∧i < (Z0 m.frun.fRemoved)) <|
 some (Z6.mk m.fl m.fmatch m.fbase (Zn.mk (Yc m.frun.fLevels i v.flevel) m.frun.fClasses (Yc m.frun.fRemoved i true)) m.fopen m.fisolates m.fembeddings m.fvalid)
noncomputable def m_next (m:Z6) (odd:Bool):Option (Int × Bool) :=
 Z8 (Z1q m.fopen) fun v =>
 chk (inR .i64 (v.flevel+1)) <|
 let level:=(v.flevel+1)
 chk ((2:Int)≠0) <|
 Z7 (!(((Int.tmod level 2) == 1) == odd))
  (chk (inR .i64 (level+1)) <|
   let level1:=(level+1)
   some (level1,(if (if (decide (level1≤125))=true then (m.fisolates == 0) else false)=true then (m.fembeddings == 0) else false)))
  (some (level,(if (if (decide (level≤125))=true then (m.fisolates == 0) else false)=true then (m.fembeddings == 0) else false)))
noncomputable def m_embed (m:Z6) (i:Int) (c':Int):Option (Z6) :=
 Z8 (Z2g m i) fun v =>
 Z8 (m_next v (if (c' == 17)=true then true else (c' == 18))) fun v1 =>
 let level:=v1.1
 let may:=v1.2
 Z7 (!may)
  (Z7 (v.fisolates == 0)
   (chk (inR .i64 (v.fembeddings+1)) <|
    some (Z6.mk v.fl v.fmatch v.fbase v.frun v.fopen v.fisolates (v.fembeddings+1) v.fvalid))
   (some v))
  (Zu (Z7 (c' == 18)
    (some (.go 2))
    (Z7 (c' == 16)
     (some (.go 1))
     (some (.go 14)))) fun override =>
   Z8 (Z4b v.fopen (Y8.mk level override false)) fun v2 =>
   some (Z6.mk v.fl v.fmatch v.fbase v.frun v2 v.fisolates v.fembeddings v.fvalid))
noncomputable def Z69 (m:Z6) (i:Int):Option (Z6) :=
 Z8 (Z1q m.fopen) fun v =>
 chk (0≤i∧i < (Z0 m.frun.fLevels)) <|
 Z7 (!(v.foverride == 14))
  (chk (0≤i∧i < (Z0 m.frun.fClasses)) <|
   some (Z6.mk m.fl m.fmatch m.fbase (Zn.mk (Yc m.frun.fLevels i v.flevel) (Yc m.frun.fClasses i v.foverride) m.frun.fRemoved) m.fopen m.fisolates m.fembeddings m.fvalid))
  (some (Z6.mk m.fl m.fmatch m.fbase (Zn.mk (Yc m.frun.fLevels i v.flevel) m.frun.fClasses m.frun.fRemoved) m.fopen m.fisolates m.fembeddings m.fvalid))
noncomputable def Z4f (m:Z6) (i:Int) (c':Int):Option (Z6) :=
 let odd:=(c' == 21)
 Zu (Z7 (c' == 22)
  (chk (inR .i64 (i+1)) <|
   chk (0≤i∧i < (Z0 m.fmatch)) <|
   Z8 (Z1z m.fl m.fmatch (i+1) (Z1 0 m.fmatch i)) fun v3 =>
   let odd2:=(v3 == 1)
   some (.go odd2))
  (some (.go odd))) fun odd1 =>
 Z8 (Z69 m i) fun v =>
 Z8 (m_next v odd1) fun v1 =>
 let level:=v1.1
 let may:=v1.2
 Z7 (!may)
  (chk (inR .i64 (v.fisolates+1)) <|
   some (Z6.mk v.fl v.fmatch v.fbase v.frun v.fopen (v.fisolates+1) v.fembeddings v.fvalid))
  (chk (inR .i64 (v.fvalid+1)) <|
   Z8 (Z4b v.fopen (Y8.mk level 14 true)) fun v2 =>
   some (Z6.mk v.fl v.fmatch v.fbase v.frun v2 v.fisolates v.fembeddings (v.fvalid+1)))
noncomputable def ss_pop (s:Z9):Option (Z9) :=
 chk (inR .i64 ((Z0 s.fl)-1)) <|
 chk ((0:Int)≤0∧(0:Int)≤((Z0 s.fl)-1)∧((Z0 s.fl)-1)≤(Z0 s.fl)) <|
 some (Z9.mk (Xx s.fl (0+0) ((0+0)+(((Z0 s.fl)-1)-0))))
noncomputable def Z2h (m:Z6):Option (Z6) :=
 Z7 (decide (0 < m.fisolates))
  (chk (inR .i64 (m.fisolates-1)) <|
   some (Z6.mk m.fl m.fmatch m.fbase m.frun m.fopen (m.fisolates-1) m.fembeddings m.fvalid))
  (Z7 (m.fvalid == 0)
   (some m)
   (Zu (loopO (fun (o1:List Y8) =>
     Z8 (Z1q (Z9.mk o1)) fun v1 =>
     Z7 (!v1.fisolate)
      (Z8 (ss_pop (Z9.mk o1)) fun v2 =>
       some (.go v2.fl))
      (some (.out (.go o1)))) m.fopen.fl) fun o =>
    Z8 (ss_pop (Z9.mk o)) fun v =>
    chk (inR .i64 (m.fvalid-1)) <|
    some (Z6.mk m.fl m.fmatch m.fbase m.frun v m.fisolates 0 (m.fvalid-1))))
noncomputable def ss_size (s:Z9):Option Int :=
 some (Z0 s.fl)
noncomputable def Z18 (m:Z6):Option (Z6) :=
 Z7 (decide (0 < m.fisolates))
  (some m)
  (Z7 (decide (0 < m.fembeddings))
   (chk (inR .i64 (m.fembeddings-1)) <|
    some (Z6.mk m.fl m.fmatch m.fbase m.frun m.fopen m.fisolates (m.fembeddings-1) m.fvalid))
   (Z8 (Z1q m.fopen) fun v =>
    Z8 (if (!v.fisolate)=true then ss_size m.fopen else some 0) fun v1 =>
    Z7 (if (!v.fisolate)=true then (decide (2≤v1)) else false)
     (Z8 (ss_pop m.fopen) fun v2 =>
      some (Z6.mk m.fl m.fmatch m.fbase m.frun v2 m.fisolates m.fembeddings m.fvalid))
     (some m)))
noncomputable def Xc (l':(List Int)) (base:Int):Option Zn :=
 Zu (Z8 (Z0f l') fun v11 =>
  Z8 (Qk v11) fun v12 =>
  Z8 (Xp base) fun v13 =>
  chk (Q1 8 (Z0 v11) (Z0 v11)) <|
  chk (Yt 8 (Z0 v11)) <|
  chk (Q1 1 (Z0 v11) (Z0 v11)) <|
  some (.go (v11,v11,v12,v13,(Z0q (Z0 v11) 0),v11,(Z0q (Z0 v11) false),([]:List Y8)))) fun (l'1,b5_0,b5_1,b5_2,o,o1,o2,o3) =>
 Z8 (Z4b (Z9.mk o3) (Y8.mk b5_2 14 false)) fun v =>
 Zu (loopO (fun ((v1,b5_02,b5_12,b5_22,b5_71,b5_81,b5_91,o8,o9,o10,o11):Int × List Int × List Int × Int × Int × Int × Int × List Int × List Int × List Bool × List Y8) =>
  Z7 (decide (v1 < (Z0 l'1)))
   (Zu (chk (0≤v1∧v1 < (Z0 l'1)) <|
     let c':=(Z1 0 l'1 v1)
     Zu (Z7 (c' == 17)
      (some (.go (c' == 17)))
      (Z7 (c' == 15)
       (some (.go (c' == 15)))
       (Z7 (c' == 18)
        (some (.go (c' == 18)))
        (some (.go (c' == 16)))))) fun v2 =>
     Z7 v2
      (Z8 (m_embed (Z6.mk b5_02 b5_12 b5_22 (Zn.mk o8 o9 o10) (Z9.mk o11) b5_71 b5_81 b5_91) v1 c') fun v3 =>
       some (.go (v3.fl,v3.fmatch,v3.fbase,v3.fisolates,v3.fembeddings,v3.fvalid,v3.frun.fLevels,v3.frun.fClasses,v3.frun.fRemoved,v3.fopen.fl)))
      (Zu (Z7 (c' == 21)
        (some (.go (c' == 21)))
        (Z7 (c' == 20)
         (some (.go (c' == 20)))
         (some (.go (c' == 22))))) fun v4 =>
       Z7 v4
        (Z8 (Z4f (Z6.mk b5_02 b5_12 b5_22 (Zn.mk o8 o9 o10) (Z9.mk o11) b5_71 b5_81 b5_91) v1 c') fun v5 =>
         some (.go (v5.fl,v5.fmatch,v5.fbase,v5.fisolates,v5.fembeddings,v5.fvalid,v5.frun.fLevels,v5.frun.fClasses,v5.frun.fRemoved,v5.fopen.fl)))
        (Z7 (c' == 23)
         (Z8 (Z2h (Z6.mk b5_02 b5_12 b5_22 (Zn.mk o8 o9 o10) (Z9.mk o11) b5_71 b5_81 b5_91)) fun v6 =>
          Z8 (Z69 v6 v1) fun v7 =>
          some (.go (v7.fl,v7.fmatch,v7.fbase,v7.fisolates,v7.fembeddings,v7.fvalid,v7.frun.fLevels,v7.frun.fClasses,v7.frun.fRemoved,v7.fopen.fl)))
         (Z7 (c' == 19)
          (Z8 (Z2g (Z6.mk b5_02 b5_12 b5_22 (Zn.mk o8 o9 o10) (Z9.mk o11) b5_71 b5_81 b5_91) v1) fun v8 =>
           Z8 (Z18 v8) fun v9 =>
           some (.go (v9.fl,v9.fmatch,v9.fbase,v9.fisolates,v9.fembeddings,v9.fvalid,v9.frun.fLevels,v9.frun.fClasses,v9.frun.fRemoved,v9.fopen.fl)))
          (Z7 (c' == 11)
           (chk (0≤v1∧v1 < (Z0 o8)) <|
            some (.go (b5_02,b5_12,b5_22,b5_71,b5_81,b5_91,(Yc o8 v1 b5_22),o9,o10,o11)))
           (Z7 (c' == 10)
            (Z8 (Z2g (Z6.mk b5_02 b5_12 b5_22 (Zn.mk o8 o9 o10) (Z9.mk o11) b5_71 b5_81 b5_91) v1) fun v8 =>
             some (.go (v8.fl,v8.fmatch,v8.fbase,v8.fisolates,v8.fembeddings,v8.fvalid,v8.frun.fLevels,v8.frun.fClasses,v8.frun.fRemoved,v8.fopen.fl)))
            (Z8 (Z69 (Z6.mk b5_02 b5_12 b5_22 (Zn.mk o8 o9 o10) (Z9.mk o11) b5_71 b5_81 b5_91) v1) fun v10 =>
             some (.go (v10.fl,v10.fmatch,v10.fbase,v10.fisolates,v10.fembeddings,v10.fvalid,v10.frun.fLevels,v10.frun.fClasses,v10.frun.fRemoved,v10.fopen.fl))))))))) fun (b5_03,b5_13,b5_23,b5_72,b5_82,b5_92,o12,o13,o14,o15) =>
    chk (inR .i64 (v1+1)) <|
    some (.go ((v1+1),b5_03,b5_13,b5_23,b5_72,b5_82,b5_92,o12,o13,o14,o15)))
   (some (.out (.go (b5_02,b5_12,b5_22,b5_71,b5_81,b5_91,o8,o9,o10,o11))))) (0,b5_0,b5_1,b5_2,0,0,0,o,o1,o2,v.fl)) fun (b5_01,b5_11,b5_21,b5_7,b5_8,b5_9,o4,o5,o6,o7) =>
 some (Zn.mk o4 o5 o6)
noncomputable def Yb (s:(List Int)):Option (List Int) :=
 nilO (Z0 s)
  (Zu (some (.out ([]:List Int))) fun (_:Unit) =>
   chk (Yt 8 (Z0 s)) <|
   some s)
  (Zu (some (.go ())) fun (_:Unit) =>
   chk (Yt 8 (Z0 s)) <|
   some s)
noncomputable def Z3a (l':(List Int)) (r':Zn):Option Bool :=
 some (if (if ((Z0 r'.fLevels) == (Z0 l'))=true then ((Z0 r'.fClasses) == (Z0 l')) else false)=true then ((Z0 r'.fRemoved) == (Z0 l')) else false)
noncomputable def Z4q (r':Zn):Option (List (List Int)) :=
 Zu (loopO (fun ((v,Zb):Int × List (List Int)) =>
  Z7 (decide (v < (Z0 r'.fRemoved)))
   (chk (0≤v∧v < (Z0 r'.fRemoved)) <|
    let gone:=(Z1 false r'.fRemoved v)
    Z7 gone
     (chk (inR .i64 (v+1)) <|
      some (.go ((v+1),Zb)))
     (let n:=(Z0 Zb)
      chk ((!(n == 0))=true→inR .i64 (n-1)) <|
      chk ((!(n == 0))=true→0≤(n-1)∧(n-1) < (Z0 Zb)) <|
      chk ((!(n == 0))=true→(0:Int)≤0∧(0:Int) < (Z0 (Z1 [] Zb ((Z0 Zb)-1)))) <|
      chk ((!(n == 0))=true→0≤(Z1 0 (Z1 [] Zb ((Z0 Zb)-1)) (0+0))∧(Z1 0 (Z1 [] Zb ((Z0 Zb)-1)) (0+0)) < (Z0 r'.fLevels)) <|
      chk ((!(n == 0))=true→0≤v∧v < (Z0 r'.fLevels)) <|
      Z7 (if (n == 0)=true then true else (!((Z1 0 r'.fLevels (Z1 0 (Z1 [] Zb ((Z0 Zb)-1)) (0+0))) == (Z1 0 r'.fLevels v))))
       (chk (Yt 24 ((Z0 Zb)+1)) <|
        chk (inR .i64 (v+1)) <|
        some (.go ((v+1),(Zb++([([v]:List Int)]:List (List Int))))))
       (chk (inR .i64 (n-1)) <|
        chk (inR .i64 (n-1)) <|
        chk (0≤(n-1)∧(n-1) < (Z0 Zb)) <|
        chk (Yt 8 ((Z0 (Z1 [] Zb ((Z0 Zb)-1)))+1)) <|
        chk (0≤(n-1)∧(n-1) < (Z0 Zb)) <|
        chk (inR .i64 (v+1)) <|
        some (.go ((v+1),(Yc Zb (n-1) ((Z1 [] Zb ((Z0 Zb)-1))++([v]:List Int))))))))
   (some (.out (.go Zb)))) (0,([]:List (List Int)))) fun out =>
 some out
noncomputable def Ql (c':Int):Option Bool :=
 some (if (if (c' == 20)=true then true else (c' == 21))=true then true else (c' == 22))
noncomputable def Qw (l':(List Int)) (r':Zn) (base:Int):Option (List (List Int)) :=
 Z8 (Z3a l' r') fun v =>
 Z7 (!v)
  (some ([]:List (List Int)))
  (Z8 (Qk l') fun v1 =>
   Z8 (Z4q r') fun v2 =>
   chk (inR .i64 ((Z0 l')+1)) <|
   chk (Q1 8 ((Z0 l')+1) ((Z0 l')+1)) <|
   Zu (loopO (fun ((v7,heads3):Int × List Int) =>
    Z7 (decide (v7 < ((Z0 l')+1)))
     (chk (0≤v7∧v7 < ((Z0 l')+1)) <|
      chk (inR .i64 (v7+1)) <|
      some (.go ((v7+1),(Yc heads3 v7 (-1)))))
     (some (.out (.go heads3)))) (0,(Z0q ((Z0 l')+1) 0))) fun heads =>
   Zu (loopO (fun ((v6,heads2):Int × List Int) =>
    Z7 (decide (v6 < (Z0 v2)))
     (chk (0≤v6∧v6 < (Z0 v2)) <|
      chk ((0:Int)≤0∧(0:Int) < (Z0 (Z1 [] v2 (0+v6)))) <|
      chk (0≤(Z1 0 (Z1 [] v2 (0+v6)) 0)∧(Z1 0 (Z1 [] v2 (0+v6)) 0) < ((Z0 l')+1)) <|
      chk (inR .i64 (v6+1)) <|
      some (.go ((v6+1),(Yc heads2 (Z1 0 (Z1 [] v2 (0+v6)) 0) v6))))
     (some (.out (.go heads2)))) (0,heads)) fun heads1 =>
   chk (Q1 8 (Z0 v2) (Z0 v2)) <|
   chk (Q1 1 (Z0 v2) (Z0 v2)) <|
   Zu (loopO (fun ((v4,behind1,joined1):Int × List Int × List Bool) =>
    Z7 (decide (v4 < (Z0 v2)))
     (chk (0≤v4∧v4 < (Z0 v2)) <|
      chk (0≤v4∧v4 < (Z0 v2)) <|
      chk (inR .i64 ((Z0 (Z1 [] v2 (0+v4)))-1)) <|
      chk (0≤((Z0 (Z1 [] v2 (0+v4)))-1)∧((Z0 (Z1 [] v2 (0+v4)))-1) < (Z0 (Z1 [] v2 (0+v4)))) <|
      let end':=(Z1 0 (Z1 [] v2 (0+v4)) ((Z0 (Z1 [] v2 (0+v4)))-1))
      chk (0≤end'∧end' < (Z0 l')) <|
      Z8 (Ql (Z1 0 l' end')) fun v5 =>
      Z7 (!v5)
       (chk (inR .i64 (v4+1)) <|
        some (.go ((v4+1),(Yc behind1 v4 (-1)),joined1)))
       (chk (0≤end'∧end' < (Z0 v1)) <|
        chk (0≤(Z1 0 v1 (0+end'))∧(Z1 0 v1 (0+end')) < ((Z0 l')+1)) <|
        let to:=(Z1 0 heads1 (0+(Z1 0 v1 (0+end'))))
        Z7 (decide (0≤to))
         (chk (0≤v4∧v4 < (Z0 v2)) <|
          chk (0≤to∧to < (Z0 v2)) <|
          chk (inR .i64 (v4+1)) <|
          some (.go ((v4+1),(Yc (Yc behind1 v4 (-1)) v4 to),(Yc joined1 to true))))
         (chk (inR .i64 (v4+1)) <|
          some (.go ((v4+1),(Yc behind1 v4 (-1)),joined1)))))
     (some (.out (.go (behind1,joined1))))) (0,(Z0q (Z0 v2) 0),(Z0q (Z0 v2) false))) fun (behind,joined) =>
   Zu (loopO (fun ((v3,Zb):Int × List (List Int)) =>
    Z7 (decide (v3 < (Z0 v2)))
     (Zu (chk (0≤v3∧v3 < (Z0 v2)) <|
       Z7 (Z1 false joined (0+v3))
        (some (.go Zb))
        (Zu (loopO (fun ((at',seq1):Int × List Int) =>
          Z7 (decide (0≤at'))
           (chk (0≤at'∧at' < (Z0 v2)) <|
            chk (Yt 8 ((Z0 seq1)+(Z0 (Z1 [] v2 (0+at'))))) <|
            chk (0≤at'∧at' < (Z0 v2)) <|
            let at'1:=(Z1 0 behind (0+at'))
            some (.go (at'1,(seq1++(Z1 [] v2 (0+at'))))))
           (some (.out (.go seq1)))) (v3,([]:List Int))) fun seq =>
         chk (Yt 24 ((Z0 Zb)+1)) <|
         some (.go (Zb++([seq]:List (List Int)))))) fun out2 =>
      chk (inR .i64 (v3+1)) <|
      some (.go ((v3+1),out2)))
     (some (.out (.go Zb)))) (0,([]:List (List Int)))) fun out =>
   some out)
noncomputable def Z20 (l':(List Int)) (seq:(List Int)):Option (List Int) :=
 chk (Q1 8 (Z0 seq) (Z0 seq)) <|
 Zu (loopO (fun ((v,Zb):Int × List Int) =>
  Z7 (decide (v < (Z0 seq)))
   (chk (0≤v∧v < (Z0 seq)) <|
    let at':=(Z1 0 seq v)
    chk (0≤at'∧at' < (Z0 l')) <|
    chk (0≤v∧v < (Z0 seq)) <|
    chk (inR .i64 (v+1)) <|
    some (.go ((v+1),(Yc Zb v (Z1 0 l' at')))))
   (some (.out (.go Zb)))) (0,(Z0q (Z0 seq) 0))) fun out =>
 some out
noncomputable def Z3b (level:Int):Option Int :=
 Z7 ((bndI .i64 level 1) == 1)
  (some 2)
  (some 1)
noncomputable def Z21 (l':(List Int)) (r':Zn) (base:Int) (seq:(List Int)):Option (Int × Int) :=
 Z8 (Z3a l' r') fun v =>
 Z7 (if (!v)=true then true else ((Z0 seq) == 0))
  (some (0,0))
  (Zu (loopO (fun (v6:Int) =>
    Z7 (decide (v6 < (Z0 seq)))
     (chk (0≤v6∧v6 < (Z0 seq)) <|
      let at':=(Z1 0 seq v6)
      Z7 (if (decide (at' < 0))=true then true else (decide ((Z0 l')≤at')))
       (some (.out (.out (0,0))))
       (chk (inR .i64 (v6+1)) <|
        some (.go (v6+1))))
     (some (.out (.go ())))) 0) fun (_:Unit) =>
   chk ((0:Int)≤0∧(0:Int) < (Z0 seq)) <|
   chk (inR .i64 ((Z0 seq)-1)) <|
   chk (0≤((Z0 seq)-1)∧((Z0 seq)-1) < (Z0 seq)) <|
   let first:=(Z1 0 seq 0)
   let last:=(Z1 0 seq ((Z0 seq)-1))
   Z8 (Xp base) fun v1 =>
   Z8 (Xp base) fun v1 =>
   Zu (chk (inR .i64 (first-1)) <|
    let i3:=(first-1)
    loopO (fun (i4:Int) =>
     Z7 (decide (0≤i4))
      (chk (0≤i4∧i4 < (Z0 r'.fRemoved)) <|
       Z7 (!(Z1 false r'.fRemoved i4))
        (chk (0≤i4∧i4 < (Z0 r'.fLevels)) <|
         let ahead1:=(Z1 0 r'.fLevels i4)
         some (.out (.go ahead1)))
        (chk (inR .i64 (i4-1)) <|
         let i5:=(i4-1)
         some (.go i5)))
      (some (.out (.go v1)))) i3) fun ahead =>
   Zu (chk (0≤last∧last < (Z0 l')) <|
    Z8 (Ql (Z1 0 l' last)) fun v4 =>
    Z8 (if (!(!v4))=true then Qk l' else some []) fun v5 =>
    chk ((!(!v4))=true→0≤last∧last < (Z0 v5)) <|
    Z7 (if (!v4)=true then true else (decide ((Z1 0 v5 last) < (Z0 l'))))
     (chk (inR .i64 (last+1)) <|
      let i:=(last+1)
      loopO (fun (i1:Int) =>
       Z7 (decide (i1 < (Z0 l')))
        (chk (0≤i1∧i1 < (Z0 r'.fRemoved)) <|
         Z7 (!(Z1 false r'.fRemoved i1))
          (chk (0≤i1∧i1 < (Z0 r'.fLevels)) <|
           let behind1:=(Z1 0 r'.fLevels i1)
           some (.out (.go behind1)))
          (chk (inR .i64 (i1+1)) <|
           let i2:=(i1+1)
           some (.go i2)))
        (some (.out (.go v1)))) i)
     (some (.go v1))) fun behind =>
   chk (0≤first∧first < (Z0 r'.fLevels)) <|
   let level:=(Z1 0 r'.fLevels first)
   Z8 (Z3b (Yn level ahead)) fun v2 =>
   Z8 (Z3b (Yn level behind)) fun v3 =>
   some (v2,v3))
noncomputable def w1 (t':Zs):Option (List Int) :=
 let ahead:=t'.fsos
 loopO (fun ((ahead1,v,o):Int × Int × List Int) =>
  Z7 (decide (v < (Z0 t'.fl)))
   (Zu (chk (0≤v∧v < (Z0 t'.fl)) <|
     let c':=(Z1 0 o (0+v))
     Zu (Z7 (c' == 9)
      (chk (0≤v∧v < (Z0 t'.fl)) <|
       some (.go (Yc o v ahead1)))
      (some (.go o))) fun o2 =>
     chk (0≤v∧v < (Z0 t'.fl)) <|
     let ahead3:=(Z1 0 o2 (0+v))
     Z7 (ahead3 == 20)
      (Z7 (ahead3 == 20)
       (some (.go (14,o2)))
       (some (.go (ahead3,o2))))
      (Z7 (ahead3 == 21)
       (Z7 (ahead3 == 21)
        (some (.go (14,o2)))
        (some (.go (ahead3,o2))))
       (Z7 (ahead3 == 22)
        (Z7 (ahead3 == 22)
         (some (.go (14,o2)))
         (some (.go (ahead3,o2))))
        (Z7 (ahead3 == 23)
         (some (.go (14,o2)))
         (some (.go (ahead3,o2))))))) fun (ahead2,o1) =>
    chk (inR .i64 (v+1)) <|
    some (.go (ahead2,(v+1),o1)))
   (some (.out o))) (ahead,0,t'.fl)
noncomputable def w2 (t':Zs):Option (List Int) :=
 let last:=t'.fsos
 loopO (fun ((last1,v,o):Int × Int × List Int) =>
  Z7 (decide (v < (Z0 t'.fl)))
   (Zu (chk (0≤v∧v < (Z0 t'.fl)) <|
     let c':=(Z1 0 o (0+v))
     Zu (Z7 (c' == 2)
      (some (.go (c' == 2)))
      (Z7 (c' == 1)
       (some (.go (c' == 1)))
       (some (.go (c' == 3))))) fun v1 =>
     Z7 v1
      (some (.go (c',o)))
      (Z7 (c' == 4)
       (Z7 (last1 == 3)
        (chk (0≤v∧v < (Z0 t'.fl)) <|
         some (.go (last1,(Yc o v 7))))
        (some (.go (last1,o))))
       (some (.go (last1,o))))) fun (last2,o1) =>
    chk (inR .i64 (v+1)) <|
    some (.go (last2,(v+1),o1)))
   (some (.out o))) (last,0,t'.fl)
noncomputable def w3 (t':Zs):Option (List Int) :=
 loopO (fun ((v,o):Int × List Int) =>
  Z7 (decide (v < (Z0 t'.fl)))
   (chk (0≤v∧v < (Z0 t'.fl)) <|
    let c':=(Z1 0 o (0+v))
    Z7 (c' == 3)
     (chk (0≤v∧v < (Z0 t'.fl)) <|
      chk (inR .i64 (v+1)) <|
      some (.go ((v+1),(Yc o v 2))))
     (chk (inR .i64 (v+1)) <|
      some (.go ((v+1),o))))
   (some (.out o))) (0,t'.fl)
noncomputable def Qa (t':Zs) (i:Int):Option Int :=
 Z7 (if (decide (i < 0))=true then true else (decide ((Z0 t'.fl)≤i)))
  (some 0)
  (chk (0≤i∧i < (Z0 t'.fl)) <|
   some (Z1 0 t'.fl i))
noncomputable def w4 (t':Zs):Option (List Int) :=
 loopO (fun ((v,o):Int × List Int) =>
  Z7 (decide (v < (Z0 t'.fl)))
   (chk (0≤v∧v < (Z0 t'.fl)) <|
    let c':=(Z1 0 o (0+v))
    chk (inR .i64 (v-1)) <|
    Z8 (Qa (Zs.mk o t'.fsos) (v-1)) fun v1 =>
    chk (inR .i64 (v+1)) <|
    Z8 (Qa (Zs.mk o t'.fsos) (v+1)) fun v2 =>
    Z7 (!(v1 == v2))
     (chk (inR .i64 (v+1)) <|
      some (.go ((v+1),o)))
     (Z7 (if (if (v1 == 4)=true then (if (c' == 5)=true then true else (c' == 8)) else false)=true then true else (if (v1 == 7)=true then (c' == 8) else false))
      (chk (0≤v∧v < (Z0 t'.fl)) <|
       chk (inR .i64 (v+1)) <|
       some (.go ((v+1),(Yc o v v1))))
      (chk (inR .i64 (v+1)) <|
       some (.go ((v+1),o)))))
   (some (.out o))) (0,t'.fl)
noncomputable def w5 (t':Zs):Option (List Int) :=
 loopO (fun ((i,o):Int × List Int) =>
  Z7 (decide (i < (Z0 t'.fl)))
   (chk (0≤i∧i < (Z0 t'.fl)) <|
    Z7 (!((Z1 0 o (0+i)) == 6))
     (chk (inR .i64 (i+1)) <|
      let i1:=(i+1)
      some (.go (i1,o)))
     (Zu (loopO (fun (end'1:Int) =>
       Z8 (Qa (Zs.mk o t'.fsos) end'1) fun v2 =>
       Z7 (v2 == 6)
        (chk (inR .i64 (end'1+1)) <|
         let end'2:=(end'1+1)
         some (.go end'2))
        (some (.out (.go end'1)))) i) fun end' =>
      Zu (chk (inR .i64 (i-1)) <|
       Z8 (Qa (Zs.mk o t'.fsos) (i-1)) fun v =>
       Z8 (if (!(v == 4))=true then Qa (Zs.mk o t'.fsos) end' else some 0) fun v1 =>
       Z7 (if (v == 4)=true then true else (v1 == 4))
        (loopO (fun ((j,o2):Int × List Int) =>
         Z7 (decide (j < end'))
          (chk (0≤j∧j < (Z0 t'.fl)) <|
           chk (inR .i64 (j+1)) <|
           let j1:=(j+1)
           some (.go (j1,(Yc o2 j 4))))
          (some (.out (.go o2)))) (i,o))
        (some (.go o))) fun o1 =>
      some (.go (end',o1))))
   (some (.out o))) (0,t'.fl)
noncomputable def w6 (t':Zs):Option (List Int) :=
 loopO (fun ((v,o):Int × List Int) =>
  Z7 (decide (v < (Z0 t'.fl)))
   (chk (0≤v∧v < (Z0 t'.fl)) <|
    let c':=(Z1 0 o (0+v))
    Z7 (c' == 5)
     (Z7 (c' == 5)
      (chk (0≤v∧v < (Z0 t'.fl)) <|
       chk (inR .i64 (v+1)) <|
       some (.go ((v+1),(Yc o v 14))))
      (chk (inR .i64 (v+1)) <|
       some (.go ((v+1),o))))
     (Z7 (c' == 6)
      (Z7 (c' == 6)
       (chk (0≤v∧v < (Z0 t'.fl)) <|
        chk (inR .i64 (v+1)) <|
        some (.go ((v+1),(Yc o v 14))))
       (chk (inR .i64 (v+1)) <|
        some (.go ((v+1),o))))
      (Z7 (c' == 8)
       (chk (0≤v∧v < (Z0 t'.fl)) <|
        chk (inR .i64 (v+1)) <|
        some (.go ((v+1),(Yc o v 14))))
       (chk (inR .i64 (v+1)) <|
        some (.go ((v+1),o))))))
   (some (.out o))) (0,t'.fl)
noncomputable def w7 (t':Zs):Option (List Int) :=
 let last:=t'.fsos
 loopO (fun ((last1,v,o):Int × Int × List Int) =>
  Z7 (decide (v < (Z0 t'.fl)))
   (chk (0≤v∧v < (Z0 t'.fl)) <|
    let c':=(Z1 0 o (0+v))
    Z7 (c' == 2)
     (Z7 (c' == 2)
      (chk (inR .i64 (v+1)) <|
       some (.go (c',(v+1),o)))
      (Z7 (c' == 4)
       (Z7 (last1 == 1)
        (chk (0≤v∧v < (Z0 t'.fl)) <|
         chk (inR .i64 (v+1)) <|
         some (.go (last1,(v+1),(Yc o v 1))))
        (chk (inR .i64 (v+1)) <|
         some (.go (last1,(v+1),o))))
       (chk (inR .i64 (v+1)) <|
        some (.go (last1,(v+1),o)))))
     (Z7 (c' == 1)
      (chk (inR .i64 (v+1)) <|
       some (.go (c',(v+1),o)))
      (Z7 (c' == 4)
       (Z7 (last1 == 1)
        (chk (0≤v∧v < (Z0 t'.fl)) <|
         chk (inR .i64 (v+1)) <|
         some (.go (last1,(v+1),(Yc o v 1))))
        (chk (inR .i64 (v+1)) <|
         some (.go (last1,(v+1),o))))
       (chk (inR .i64 (v+1)) <|
        some (.go (last1,(v+1),o))))))
   (some (.out o))) (last,0,t'.fl)
noncomputable def Z1f (l':(List Int)) (sos:Int):Option (List Int) :=
 Z8 (Yb l') fun v =>
 Zu (Zu (Zu (Zu (chk ((0:Int)≤0∧(0:Int) < 7) <|
     some (.go ())) fun (_:Unit) =>
    Z8 (w1 (Zs.mk v sos)) fun v7 =>
    chk (Z0 v7=Z0 v) <|
    some (.go v7)) fun o14 =>
   chk (inR .i64 (0+1)) <|
   some (.go o14)) fun o1 =>
  Zu (Zu (Zu (chk ((0:Int)≤1∧(1:Int) < 7) <|
     some (.go ())) fun (_:Unit) =>
    Z8 (w2 (Zs.mk o1 sos)) fun v6 =>
    chk (Z0 v6=Z0 o1) <|
    some (.go v6)) fun o13 =>
   chk (inR .i64 (1+1)) <|
   some (.go o13)) fun o2 =>
  Zu (Zu (Zu (chk ((0:Int)≤2∧(2:Int) < 7) <|
     some (.go ())) fun (_:Unit) =>
    Z8 (w3 (Zs.mk o2 sos)) fun v5 =>
    chk (Z0 v5=Z0 o2) <|
    some (.go v5)) fun o12 =>
   chk (inR .i64 (2+1)) <|
   some (.go o12)) fun o3 =>
  Zu (Zu (Zu (chk ((0:Int)≤3∧(3:Int) < 7) <|
     some (.go ())) fun (_:Unit) =>
    Z8 (w4 (Zs.mk o3 sos)) fun v4 =>
    chk (Z0 v4=Z0 o3) <|
    some (.go v4)) fun o11 =>
   chk (inR .i64 (3+1)) <|
   some (.go o11)) fun o4 =>
  Zu (Zu (Zu (chk ((0:Int)≤4∧(4:Int) < 7) <|
     some (.go ())) fun (_:Unit) =>
    Z8 (w5 (Zs.mk o4 sos)) fun v3 =>
    chk (Z0 v3=Z0 o4) <|
    some (.go v3)) fun o10 =>
   chk (inR .i64 (4+1)) <|
   some (.go o10)) fun o5 =>
  Zu (Zu (Zu (chk ((0:Int)≤5∧(5:Int) < 7) <|
     some (.go ())) fun (_:Unit) =>
    Z8 (w6 (Zs.mk o5 sos)) fun v2 =>
    chk (Z0 v2=Z0 o5) <|
    some (.go v2)) fun o9 =>
   chk (inR .i64 (5+1)) <|
   some (.go o9)) fun o6 =>
  Zu (Zu (Zu (chk ((0:Int)≤6∧(6:Int) < 7) <|
     some (.go ())) fun (_:Unit) =>
    Z8 (w7 (Zs.mk o6 sos)) fun v1 =>
    chk (Z0 v1=Z0 o6) <|
    some (.go v1)) fun o8 =>
   chk (inR .i64 (6+1)) <|
   some (.go o8)) fun o7 =>
  some (.go o7)) fun o =>
 some o
noncomputable def Z22 (d':Za) (r':Int):Option (Int × Int) :=
 Zu (loopO (fun (v:Int) =>
  Z7 (decide (v < (Z0 d'.fBrackets)))
   (chk (0≤v∧v < (Z0 d'.fBrackets)) <|
    Z7 (r' == (Z1 Xr d'.fBrackets v).fA)
     (some (.out (.out ((Z1 Xr d'.fBrackets v).fB,1))))
     (Z7 (r' == (Z1 Xr d'.fBrackets v).fB)
      (some (.out (.out ((Z1 Xr d'.fBrackets v).fA,2))))
      (chk (inR .i64 (v+1)) <|
       some (.go (v+1)))))
   (some (.out (.go ())))) 0) fun (_:Unit) =>
 some (0,0)
noncomputable def Z4r (d':Za) (r':(List Int)) (l':(List Int)):Option (List Zx) :=
 Z7 (!((Z0 r') == (Z0 l')))
  (some ([]:List Zx))
  (Zu (loopO (fun ((open_off,open_n,v1,open',Zb):Int × Int × Int × List Int × List Zx) =>
    Z7 (decide (v1 < (Z0 l')))
     (Zu (chk (0≤v1∧v1 < (Z0 l')) <|
       let c':=(Z1 0 l' v1)
       Z7 (!(c' == 14))
        (some (.go (open_off,open_n,open',Zb)))
        (chk (0≤v1∧v1 < (Z0 r')) <|
         Z8 (Z22 d' (Z1 0 r' v1)) fun v2 =>
         let other:=v2.1
         let kind:=v2.2
         Z7 (kind == 1)
          (Z7 (open_n == 63)
           (some (.out (.out (.out ([]:List Zx)))))
           (chk (0≤open_off∧0≤open_n∧open_off+open_n≤Z0 open') <|
            chk (Yt 8 (open_n+1)) <|
            some (.go (0,(open_n+1),((Xx open' open_off (open_off+open_n))++([v1]:List Int)),Zb))))
          (Z7 (kind == 2)
           (chk (inR .i64 (open_n-1)) <|
            let n:=(open_n-1)
            loopO (fun (n1:Int) =>
             Z7 (decide (0≤n1))
              (chk (0≤n1∧n1 < open_n) <|
               chk (0≤(Z1 0 open' (open_off+n1))∧(Z1 0 open' (open_off+n1)) < (Z0 r')) <|
               Z7 ((Z1 0 r' (Z1 0 open' (open_off+n1))) == other)
                (chk (0≤n1∧n1 < open_n) <|
                 chk (Yt 16 ((Z0 Zb)+1)) <|
                 chk ((0:Int)≤0∧(0:Int)≤n1∧n1≤open_n) <|
                 some (.out (.go ((open_off+0),(n1-0),open',(Zb++([(Zx.mk (Z1 0 open' (open_off+n1)) v1)]:List Zx))))))
                (chk (inR .i64 (n1-1)) <|
                 let n2:=(n1-1)
                 some (.go n2)))
              (some (.out (.go (open_off,open_n,open',Zb))))) n)
           (some (.go (open_off,open_n,open',Zb)))))) fun (open_off1,open_n1,open'1,out2) =>
      chk (inR .i64 (v1+1)) <|
      some (.go (open_off1,open_n1,(v1+1),open'1,out2)))
     (some (.out (.go Zb)))) (0,0,0,([]:List Int),([]:List Zx))) fun out =>
   Z8 (Z1e out 0 (Z0 out)) fun v =>
   chk (Z0 v=Z0 out) <|
   some v)
noncomputable def Z0g (c':Int):Option Int :=
 Z7 (c' == 1)
  (some 1)
  (Z7 (c' == 2)
   (Z7 (c' == 2)
    (some 2)
    (some 0))
   (Z7 (c' == 4)
    (Z7 (c' == 4)
     (some 2)
     (some 0))
    (Z7 (c' == 7)
     (some 2)
     (some 0))))
noncomputable def Qb (x':Ys) (p':Zx):Option Int :=
 Zu (chk (inR .i64 (p'.x0+1)) <|
  chk (0≤(p'.x0+1)∧(p'.x0+1)≤p'.x1∧p'.x1≤(Z0 x'.fl)) <|
  loopO (fun ((found1,v1):Bool × Int) =>
   Z7 (decide (v1 < (p'.x1-(p'.x0+1))))
    (chk (0≤v1∧v1 < (Z0 (Xx x'.fl (p'.x0+1) p'.x1))) <|
     let c':=(Z1 0 (Xx x'.fl (p'.x0+1) p'.x1) v1)
     Z8 (Z0g c') fun v2 =>
     Z7 (v2 == x'.fdir)
      (some (.out (.out x'.fdir)))
      (Z7 (v2 == x'.fagainst)
       (chk (inR .i64 (v1+1)) <|
        some (.go (true,(v1+1))))
       (chk (inR .i64 (v1+1)) <|
        some (.go (found1,(v1+1))))))
    (some (.out (.go found1)))) (false,0)) fun found =>
 Z7 (!found)
  (some 0)
  (let last:=x'.fsos
   Zu (chk (inR .i64 (p'.x0-1)) <|
    let i:=(p'.x0-1)
    loopO (fun (i1:Int) =>
     Z7 (decide (0≤i1))
      (chk (0≤i1∧i1 < (Z0 x'.fl)) <|
       Z8 (Z0g (Z1 0 x'.fl i1)) fun v =>
       Z7 (!(v == 0))
        (some (.out (.go v)))
        (chk (inR .i64 (i1-1)) <|
         let i2:=(i1-1)
         some (.go i2)))
      (some (.out (.go last)))) i) fun last1 =>
   Z7 (last1 == x'.fagainst)
    (some x'.fagainst)
    (some x'.fdir))
noncomputable def n0 (x':Ys):Option (List Int) :=
 loopO (fun ((v,o):Int × List Int) =>
  Z7 (decide (v < (Z0 x'.fpairs)))
   (Zu (chk (0≤v∧v < (Z0 x'.fpairs)) <|
     Z8 (Qb (Ys.mk o x'.fwas x'.fsos x'.feos x'.fdir x'.fagainst x'.fpairs) (Z1 Zz x'.fpairs v)) fun v1 =>
     Z7 (v1 == 0)
      (some (.go o))
      (Zu (Zu (let at'1:=(Z1 Zz x'.fpairs v).x0
         chk (0≤at'1∧at'1 < (Z0 x'.fl)) <|
         chk (inR .i64 (at'1+1)) <|
         let j3:=(at'1+1)
         loopO (fun ((j4,o7):Int × List Int) =>
          chk ((decide (j4 < (Z0 x'.fl)))=true→0≤j4∧j4 < (Z0 x'.fwas)) <|
          Z7 (if (decide (j4 < (Z0 x'.fl)))=true then ((Z1 0 x'.fwas j4) == 9) else false)
           (chk (0≤j4∧j4 < (Z0 x'.fl)) <|
            chk (inR .i64 (j4+1)) <|
            let j5:=(j4+1)
            some (.go (j5,(Yc o7 j4 v1))))
           (some (.out (.go o7)))) (j3,(Yc o at'1 v1))) fun o6 =>
        chk (inR .i64 (0+1)) <|
        some (.go o6)) fun o2 =>
       Zu (Zu (let at':=(Z1 Zz x'.fpairs v).x1
         chk (0≤at'∧at' < (Z0 x'.fl)) <|
         chk (inR .i64 (at'+1)) <|
         let j:=(at'+1)
         loopO (fun ((j1,o5):Int × List Int) =>
          chk ((decide (j1 < (Z0 x'.fl)))=true→0≤j1∧j1 < (Z0 x'.fwas)) <|
          Z7 (if (decide (j1 < (Z0 x'.fl)))=true then ((Z1 0 x'.fwas j1) == 9) else false)
           (chk (0≤j1∧j1 < (Z0 x'.fl)) <|
            chk (inR .i64 (j1+1)) <|
            let j2:=(j1+1)
            some (.go (j2,(Yc o5 j1 v1))))
           (some (.out (.go o5)))) (j,(Yc o2 at' v1))) fun o4 =>
        chk (inR .i64 (1+1)) <|
        some (.go o4)) fun o3 =>
       some (.go o3))) fun o1 =>
    chk (inR .i64 (v+1)) <|
    some (.go ((v+1),o1)))
   (some (.out o))) (0,x'.fl)
noncomputable def Z1g (c':Int):Option Bool :=
 Zu (Zu (Z7 (c' == 11)
   (some (.go (c' == 11)))
   (Z7 (c' == 12)
    (some (.go (c' == 12)))
    (Z7 (c' == 13)
     (some (.go (c' == 13)))
     (Z7 (c' == 14)
      (some (.go (c' == 14)))
      (Z7 (c' == 20)
       (some (.go (c' == 20)))
       (Z7 (c' == 21)
        (some (.go (c' == 21)))
        (Z7 (c' == 22)
         (some (.go (c' == 22)))
         (some (.go (c' == 23)))))))))) fun v =>
  Z7 v
   (some (.out true))
   (some (.go ()))) fun (_:Unit) =>
 some false
noncomputable def n12 (x':Ys):Option (List Int) :=
 loopO (fun ((i,o):Int × List Int) =>
  Z7 (decide (i < (Z0 x'.fl)))
   (chk (0≤i∧i < (Z0 x'.fl)) <|
    Z8 (Z1g (Z1 0 o (0+i))) fun v =>
    Z7 (!v)
     (chk (inR .i64 (i+1)) <|
      let i1:=(i+1)
      some (.go (i1,o)))
     (Zu (loopO (fun (end'1:Int) =>
       chk ((decide (end'1 < (Z0 x'.fl)))=true→0≤end'1∧end'1 < (Z0 x'.fl)) <|
       Z8 (if (decide (end'1 < (Z0 x'.fl)))=true then Z1g (Z1 0 o (0+end'1)) else some false) fun v3 =>
       Z7 (if (decide (end'1 < (Z0 x'.fl)))=true then v3 else false)
        (chk (inR .i64 (end'1+1)) <|
         let end'2:=(end'1+1)
         some (.go end'2))
        (some (.out (.go end'1)))) i) fun end' =>
      let ahead:=x'.fsos
      let behind:=x'.feos
      Zu (Z7 (decide (0 < i))
       (chk (inR .i64 (i-1)) <|
        chk (0≤(i-1)∧(i-1) < (Z0 x'.fl)) <|
        Z8 (Z0g (Z1 0 o (0+(i-1)))) fun v2 =>
        some (.go v2))
       (some (.go ahead))) fun ahead1 =>
      Zu (Z7 (decide (end' < (Z0 x'.fl)))
       (chk (0≤end'∧end' < (Z0 x'.fl)) <|
        Z8 (Z0g (Z1 0 o (0+end'))) fun v1 =>
        some (.go v1))
       (some (.go behind))) fun behind1 =>
      let c':=x'.fdir
      Zu (Z7 (if (ahead1 == behind1)=true then (!(ahead1 == 0)) else false)
       (some (.go ahead1))
       (some (.go c'))) fun c'1 =>
      loopO (fun ((i2,o1):Int × List Int) =>
       Z7 (decide (i2 < end'))
        (chk (0≤i2∧i2 < (Z0 x'.fl)) <|
         chk (inR .i64 (i2+1)) <|
         let i3:=(i2+1)
         some (.go (i3,(Yc o1 i2 c'1))))
        (some (.out (.go (i2,o1))))) (i,o)))
   (some (.out o))) (0,x'.fl)
noncomputable def Z1h (d':Za) (r':(List Int)) (was:(List Int)) (l':(List Int)) (level:Int) (sos:Int) (eos:Int):Option (List Int) :=
 Z8 (Yb l') fun v =>
 Z7 (if (!((Z0 r') == (Z0 l')))=true then true else (!((Z0 was) == (Z0 l'))))
  (some v)
  (Z8 (Z4r d' r' l') fun v1 =>
   Zu (Z7 ((bndI .i64 level 1) == 1)
    (some (.go (2,1)))
    (some (.go (1,2)))) fun (b16_4,b16_5) =>
   Zu (Zu (Zu (Zu (chk ((0:Int)≤0∧(0:Int) < 2) <|
       some (.go ())) fun (_:Unit) =>
      Z8 (n0 (Ys.mk v was sos eos b16_4 b16_5 v1)) fun v3 =>
      chk (Z0 v3=Z0 v) <|
      some (.go v3)) fun out4 =>
     chk (inR .i64 (0+1)) <|
     some (.go out4)) fun Zb =>
    Zu (Zu (Zu (chk ((0:Int)≤1∧(1:Int) < 2) <|
       some (.go ())) fun (_:Unit) =>
      Z8 (n12 (Ys.mk Zb was sos eos b16_4 b16_5 v1)) fun v2 =>
      chk (Z0 v2=Z0 Zb) <|
      some (.go v2)) fun out3 =>
     chk (inR .i64 (1+1)) <|
     some (.go out3)) fun out2 =>
    some (.go out2)) fun out =>
   some out)
noncomputable def Z0t (c':Int) (level:Int):Option Int :=
 let odd:=((bndI .i64 level 1) == 1)
 Z7 (if odd=true then (if (if (c' == 1)=true then true else (c' == 4))=true then true else (c' == 7)) else false)
  (chk (inR .i64 (level+1)) <|
   some (level+1))
  (Z7 (if (!odd)=true then (c' == 2) else false)
   (chk (inR .i64 (level+1)) <|
    some (level+1))
   (Z7 (if (!odd)=true then (if (c' == 4)=true then true else (c' == 7)) else false)
    (chk (inR .i64 (level+2)) <|
     some (level+2))
    (some level)))
noncomputable def Z23 (d':Za) (r':(List Int)) (l':(List Int)) (base:Int):Option (List Int) :=
 Z8 (Xc l' base) fun v =>
 Z8 (Yb v.fLevels) fun v1 =>
 Zu (Z8 (Qw l' v base) fun v3 =>
  loopO (fun ((v4,out5):Int × List Int) =>
   Z7 (decide (v4 < (Z0 v3)))
    (Zu (chk (0≤v4∧v4 < (Z0 v3)) <|
      Z8 (Z20 v.fClasses (Z1 [] v3 (0+v4))) fun v5 =>
      chk ((0:Int)≤0∧(0:Int) < (Z0 (Z1 [] v3 (0+v4)))) <|
      chk (0≤(Z1 0 (Z1 [] v3 (0+v4)) 0)∧(Z1 0 (Z1 [] v3 (0+v4)) 0) < (Z0 v.fLevels)) <|
      let level:=(Z1 0 v.fLevels (Z1 0 (Z1 [] v3 (0+v4)) 0))
      Z8 (Z21 l' v base (Z1 [] v3 (0+v4))) fun v6 =>
      let sos:=v6.1
      let eos:=v6.2
      Z8 (Z20 r' (Z1 [] v3 (0+v4))) fun v7 =>
      Z8 (Z1f v5 sos) fun v8 =>
      Z8 (Z1h d' v7 v5 v8 level sos eos) fun v9 =>
      loopO (fun ((v10,out7):Int × List Int) =>
       Z7 (decide (v10 < (Z0 (Z1 [] v3 (0+v4)))))
        (chk (0≤v10∧v10 < (Z0 (Z1 [] v3 (0+v4)))) <|
         let at':=(Z1 0 (Z1 [] v3 (0+v4)) v10)
         chk (0≤v10∧v10 < (Z0 v9)) <|
         Z8 (Z0t (Z1 0 v9 (0+v10)) level) fun v11 =>
         chk (0≤at'∧at' < (Z0 v1)) <|
         chk (inR .i64 (v10+1)) <|
         some (.go ((v10+1),(Yc out7 at' v11))))
        (some (.out (.go out7)))) (0,out5)) fun out6 =>
     chk (inR .i64 (v4+1)) <|
     some (.go ((v4+1),out6)))
    (some (.out (.go out5)))) (0,v1)) fun out =>
 chk ((2:Int)≠0) <|
 let ahead:=(Int.tmod (Yn base 0) 2)
 Zu (loopO (fun ((ahead1,v2,out2):Int × Int × List Int) =>
  Z7 (decide (v2 < (Z0 v.fRemoved)))
   (Zu (chk (0≤v2∧v2 < (Z0 v.fRemoved)) <|
     let gone:=(Z1 false v.fRemoved v2)
     Zu (Z7 gone
      (chk (0≤v2∧v2 < (Z0 v1)) <|
       some (.go (Yc out2 v2 ahead1)))
      (some (.go out2))) fun out4 =>
     chk (0≤v2∧v2 < (Z0 v1)) <|
     let ahead3:=(Z1 0 out4 (0+v2))
     some (.go (ahead3,out4))) fun (ahead2,out3) =>
    chk (inR .i64 (v2+1)) <|
    some (.go (ahead2,(v2+1),out3)))
   (some (.out (.go out2)))) (ahead,0,out)) fun Zb =>
 some Zb
noncomputable def Qr (d':Za) (r':(List Int)) (dir:Int):Option ((List Int) × Int) :=
 Z8 (Z2f d' r') fun v =>
 Zu (Z7 (if (!(dir == 0))=true then (!(dir == 1)) else false)
  (Z8 (Z4p v) fun v2 =>
   some (.go v2))
  (some (.go dir))) fun base =>
 Z8 (Z23 d' r' v base) fun v1 =>
 some (v1,base)
noncomputable def Z4s (d':Za) (r':Int):Option Int :=
 Z8 (Z38 d'.fJoin r') fun v =>
 some v
noncomputable def Qm (at':Int) (side:Int) (cap0:(List (Int × Int))) (cap1:Za) (cap2:(List Int)):Option Bool :=
 chk ((decide (0≤at'))=true→0≤at'∧at' < (Z0 cap2)) <|
 Z8 (if (decide (0≤at'))=true then Z4s cap1 (Z1 0 cap2 at') else some 0) fun v =>
 some (if (decide (0≤at'))=true then (!((bndI .i64 (mgetI cap0 v) side) == 0)) else false)
noncomputable def Z2i (d':Za) (r':(List Int)) (at':Int):Option Int :=
 Z7 (if (decide (at' < 0))=true then true else (decide ((Z0 r')≤at')))
  (some (-1))
  (Zu (chk (inR .i64 (at'-1)) <|
    let i:=(at'-1)
    loopO (fun (i1:Int) =>
     Z7 (decide (0≤i1))
      (chk (0≤i1∧i1 < (Z0 r')) <|
       Z8 (Z4s d' (Z1 0 r' i1)) fun v =>
       Z7 (!(v == 4))
        (some (.out (.out i1)))
        (chk (inR .i64 (i1-1)) <|
         let i2:=(i1-1)
         some (.go i2)))
      (some (.out (.go ())))) i) fun (_:Unit) =>
   some (-1))
noncomputable def Z24 (d':Za) (r':(List Int)) (at':Int):Option Int :=
 Z7 (if (decide (at' < 0))=true then true else (decide ((Z0 r')≤at')))
  (some (-1))
  (Zu (chk (inR .i64 (at'+1)) <|
    let i:=(at'+1)
    loopO (fun (i1:Int) =>
     Z7 (decide (i1 < (Z0 r')))
      (chk (0≤i1∧i1 < (Z0 r')) <|
       Z8 (Z4s d' (Z1 0 r' i1)) fun v =>
       Z7 (!(v == 4))
        (some (.out (.out i1)))
        (chk (inR .i64 (i1+1)) <|
         let i2:=(i1+1)
         some (.go i2)))
      (some (.out (.go ())))) i) fun (_:Unit) =>
   some (-1))
noncomputable def Z3p (d':Za) (r':(List Int)):Option (List Int) :=
 Z8 (shape_sides) fun v =>
 chk (Q1 8 (Z0 r') (Z0 r')) <|
 Zu (loopO (fun ((v1,Zb):Int × List Int) =>
  Z7 (decide (v1 < (Z0 r')))
   (Z8 (Qm v1 1 v d' r') fun v2 =>
    Z8 (if v2=true then Z2i d' r' v1 else some 0) fun v3 =>
    Z8 (if v2=true then Qm v3 2 v d' r' else some false) fun v4 =>
    let first:=(if v2=true then v4 else false)
    Z8 (Qm v1 2 v d' r') fun v5 =>
    Z8 (if v5=true then Z24 d' r' v1 else some 0) fun v6 =>
    Z8 (if v5=true then Qm v6 1 v d' r' else some false) fun v7 =>
    let second:=(if v5=true then v7 else false)
    Z7 (if first=true then second else false)
     (chk (0≤v1∧v1 < (Z0 r')) <|
      chk (inR .i64 (v1+1)) <|
      some (.go ((v1+1),(Yc Zb v1 3))))
     (Z7 first
      (chk (0≤v1∧v1 < (Z0 r')) <|
       chk (inR .i64 (v1+1)) <|
       some (.go ((v1+1),(Yc Zb v1 1))))
      (Z7 second
       (chk (0≤v1∧v1 < (Z0 r')) <|
        chk (inR .i64 (v1+1)) <|
        some (.go ((v1+1),(Yc Zb v1 2))))
       (chk (0≤v1∧v1 < (Z0 r')) <|
        chk (inR .i64 (v1+1)) <|
        some (.go ((v1+1),(Yc Zb v1 0)))))))
   (some (.out (.go Zb)))) (0,(Z0q (Z0 r') 0))) fun out =>
 some out
noncomputable def Z5m (d':Za) (r':Int) (which:Int):Option Int :=
 Z7 (if (decide (which < 0))=true then true else (decide (3 < which)))
  (some r')
  (Zu (loopO (fun (v:Int) =>
    Z7 (decide (v < (Z0 d'.fForms)))
     (chk (0≤v∧v < (Z0 d'.fForms)) <|
      Z7 (!((Z1 X6 d'.fForms v).fR == r'))
       (chk (inR .i64 (v+1)) <|
        some (.go (v+1)))
       (Z7 ((Z1 X6 d'.fForms v).fN == 4)
        (chk (inR .i64 ((Z1 X6 d'.fForms v).fAt+which)) <|
         some (.out (.out ((Z1 X6 d'.fForms v).fAt+which))))
        (Z7 (if ((Z1 X6 d'.fForms v).fN == 2)=true then (if (which == 1)=true then true else (which == 3)) else false)
         (chk (inR .i64 ((Z1 X6 d'.fForms v).fAt+1)) <|
          some (.out (.out ((Z1 X6 d'.fForms v).fAt+1))))
         (some (.out (.out (Z1 X6 d'.fForms v).fAt))))))
     (some (.out (.go ())))) 0) fun (_:Unit) =>
   some r')
noncomputable def Z4t (d':Za) (r':Int):Option Int :=
 Zu (loopO (fun (v:Int) =>
  Z7 (decide (v < (Z0 d'.fMirror)))
   (chk (0≤v∧v < (Z0 d'.fMirror)) <|
    Z7 (r' == (Z1 Xr d'.fMirror v).fA)
     (some (.out (.out (Z1 Xr d'.fMirror v).fB)))
     (Z7 (r' == (Z1 Xr d'.fMirror v).fB)
      (some (.out (.out (Z1 Xr d'.fMirror v).fA)))
      (chk (inR .i64 (v+1)) <|
       some (.go (v+1)))))
   (some (.out (.go ())))) 0) fun (_:Unit) =>
 some r'
noncomputable def Z2j (d':Za) (r':Int) (level:Int) (boxes:Bool):Option Int :=
 Z7 (if ((bndI .i64 level 1) == 0)=true then true else (if (if (decide (9472≤r'))=true then (decide (r'≤9631)) else false)=true then (!boxes) else false))
  (some r')
  (Z8 (Z4t d' r') fun v =>
   some v)
noncomputable def Z2k (lam:Int) (alef:Int) (final:Bool):Option (Int × Bool) :=
 Z7 (!(lam == 1604))
  (some (0,false))
  (Z7 (alef == 1570)
   (Z7 final
    (chk (inR .i64 (65269+1)) <|
     let r':=(65269+1)
     some (r',true))
    (some (65269,true)))
   (Z7 (alef == 1571)
    (Z7 final
     (chk (inR .i64 (65271+1)) <|
      let r'1:=(65271+1)
      some (r'1,true))
     (some (65271,true)))
    (Z7 (alef == 1573)
     (Z7 final
      (chk (inR .i64 (65273+1)) <|
       let r'2:=(65273+1)
       some (r'2,true))
      (some (65273,true)))
     (Z7 (alef == 1575)
      (Z7 final
       (chk (inR .i64 (65275+1)) <|
        let r'3:=(65275+1)
        some (r'3,true))
       (some (65275,true)))
      (some (0,false))))))
noncomputable def Z2l (d':Za) (r':(List Int)) (levels:(List Int)) (boxes:Bool):Option (List Int) :=
 Z8 (Yb r') fun v =>
 Z7 (!((Z0 r') == (Z0 levels)))
  (some v)
  (Z8 (Z3p d' r') fun v1 =>
   Zu (loopO (fun ((v5,out3):Int × List Int) =>
    Z7 (decide (v5 < (Z0 r')))
     (Zu (Zu (chk (0≤v5∧v5 < (Z0 r')) <|
        let x'1:=(Z1 0 r' v5)
        chk (0≤v5∧v5 < (Z0 v1)) <|
        Z8 (Z5m d' x'1 (Z1 0 v1 (0+v5))) fun v7 =>
        chk (0≤v5∧v5 < (Z0 v)) <|
        some (.go (Yc out3 v5 v7))) fun out5 =>
       chk (0≤v5∧v5 < (Z0 v)) <|
       Z7 ((Z1 0 out5 (0+v5)) == (Z1 0 r' v5))
        (chk (0≤v5∧v5 < (Z0 levels)) <|
         Z8 (Z2j d' (Z1 0 r' v5) (Z1 0 levels v5) boxes) fun v6 =>
         chk (0≤v5∧v5 < (Z0 v)) <|
         some (.go (Yc out5 v5 v6)))
        (some (.go out5))) fun out4 =>
      chk (inR .i64 (v5+1)) <|
      some (.go ((v5+1),out4)))
     (some (.out (.go out3)))) (0,v)) fun out =>
   Zu (loopO (fun ((v2,out2):Int × List Int) =>
    Z7 (decide (v2 < (Z0 r')))
     (chk (0≤v2∧v2 < (Z0 r')) <|
      let x':=(Z1 0 r' v2)
      Z8 (Z24 d' r' v2) fun v3 =>
      Z7 (if (!(x' == 1604))=true then true else (decide (v3 < 0)))
       (chk (inR .i64 (v2+1)) <|
        some (.go ((v2+1),out2)))
       (chk (0≤v2∧v2 < (Z0 v1)) <|
        chk ((!((Z1 0 v1 (0+v2)) == 1))=true→0≤v2∧v2 < (Z0 v1)) <|
        let final:=(if ((Z1 0 v1 (0+v2)) == 1)=true then true else ((Z1 0 v1 (0+v2)) == 3))
        chk (0≤v3∧v3 < (Z0 r')) <|
        Z8 (Z2k x' (Z1 0 r' v3) final) fun v4 =>
        let g':=v4.1
        let ok:=v4.2
        Z7 ok
         (chk (0≤v2∧v2 < (Z0 v)) <|
          chk (0≤v3∧v3 < (Z0 v)) <|
          chk (inR .i64 (v2+1)) <|
          some (.go ((v2+1),(Yc (Yc out2 v2 g') v3 0))))
         (chk (inR .i64 (v2+1)) <|
          some (.go ((v2+1),out2)))))
     (some (.out (.go out2)))) (0,out)) fun Zb =>
   some Zb)
noncomputable def Z1i (d':Za) (l':(List Z5)) (from':Int) (to:Int) (boxes:Bool):Option Yj :=
 chk (0≤from'∧from'≤to∧to≤(Z0 l')) <|
 Z8 (Z17 (Xx l' from' to)) fun v =>
 chk (0≤from'∧from' < (Z0 l')) <|
 Z8 (Qr d' v (Z1 Z3 l' from').fDir) fun v1 =>
 let base:=v1.2
 Z8 (Z2l d' v v1.1 boxes) fun v2 =>
 some (Yj.mk from' to v1.1 v2 base)
noncomputable def Z2m (c':Int):Option Bool :=
 Zu (Zu (Z7 (c' == 13)
   (some (.go (c' == 13)))
   (Z7 (c' == 10)
    (some (.go (c' == 10)))
    (Z7 (c' == 15)
     (some (.go (c' == 15)))
     (Z7 (c' == 16)
      (some (.go (c' == 16)))
      (Z7 (c' == 17)
       (some (.go (c' == 17)))
       (Z7 (c' == 18)
        (some (.go (c' == 18)))
        (Z7 (c' == 19)
         (some (.go (c' == 19)))
         (Z7 (c' == 20)
          (some (.go (c' == 20)))
          (Z7 (c' == 21)
           (some (.go (c' == 21)))
           (Z7 (c' == 22)
            (some (.go (c' == 22)))
            (some (.go (c' == 23))))))))))))) fun v =>
  Z7 v
   (some (.out true))
   (some (.go ()))) fun (_:Unit) =>
 some false
noncomputable def Z3q (d':Za) (r':(List Int)) (levels:(List Int)) (base:Int):Option (List Int) :=
 Z8 (Yb levels) fun v =>
 Z7 (!((Z0 r') == (Z0 levels)))
  (some v)
  (Zu (chk (inR .i64 ((Z0 r')-1)) <|
    let i:=((Z0 r')-1)
    loopO (fun ((end',i1,Zb):Bool × Int × List Int) =>
     Z7 (decide (0≤i1))
      (chk (0≤i1∧i1 < (Z0 r')) <|
       Z8 (Z39 d' (Z1 0 r' i1)) fun v1 =>
       Z7 (if (v1 == 11)=true then true else (v1 == 12))
        (chk (0≤i1∧i1 < (Z0 v)) <|
         chk (inR .i64 (i1-1)) <|
         let i2:=(i1-1)
         some (.go (true,i2,(Yc Zb i1 base))))
        (Z8 (Z2m v1) fun v2 =>
         Z7 (!v2)
          (chk (inR .i64 (i1-1)) <|
           let i3:=(i1-1)
           some (.go (false,i3,Zb)))
          (Z7 end'
           (chk (0≤i1∧i1 < (Z0 v)) <|
            chk (inR .i64 (i1-1)) <|
            let i4:=(i1-1)
            some (.go (end',i4,(Yc Zb i1 base))))
           (chk (inR .i64 (i1-1)) <|
            let i5:=(i1-1)
            some (.go (end',i5,Zb))))))
      (some (.out (.go Zb)))) (true,i,v)) fun out =>
   some out)
noncomputable def Z4u (d':Za) (l':(List Z5)) (y':Int) (p':Yj):Option Zj :=
 chk (0≤p'.ffrom∧p'.ffrom≤y'∧y'≤(Z0 l')) <|
 Z8 (Z17 (Xx l' p'.ffrom y')) fun v =>
 let start:=(Z0 v)
 chk (0≤y'∧y' < (Z0 l')) <|
 Z8 (Z0m (Z1 Z3 l' y')) fun v1 =>
 chk (inR .i64 (start+(Z0 v1.1))) <|
 chk (0≤start∧start≤(start+(Z0 v1.1))∧(start+(Z0 v1.1))≤(Z0 p'.flevels)) <|
 Z8 (Z3q d' v1.1 (Xx p'.flevels start (start+(Z0 v1.1))) p'.fbase) fun v2 =>
 chk (0≤y'∧y' < (Z0 l')) <|
 chk (Q1 56 (Z0 (Z1 Z3 l' y').fCells) (Z0 (Z1 Z3 l' y').fCells)) <|
 Zu (chk (0≤y'∧y' < (Z0 l')) <|
  loopO (fun ((n,v4,cells1):Int × Int × List Zi) =>
   Z7 (decide (v4 < (Z0 (Z1 Z3 l' y').fCells)))
    (chk (0≤v4∧v4 < (Z0 (Z1 Z3 l' y').fCells)) <|
     Z7 (!((Z1 Z4 (Z1 Z3 l' y').fCells v4).fW == 0))
      (Z7 (!((Z1 Z4 (Z1 Z3 l' y').fCells v4).fR == 0))
       (chk (0≤n∧n < (Z0 p'.fglyphs)) <|
        chk (inR .i64 (n+1)) <|
        let n1:=(n+1)
        chk (0≤v4∧v4 < (Z0 (Z1 Z3 l' y').fCells)) <|
        chk (inR .i64 (v4+1)) <|
        some (.go (n1,(v4+1),(Yc cells1 v4 (Zi.mk (Z1 0 p'.fglyphs n) (Z1 Z4 (Z1 Z3 l' y').fCells v4).fM (Z1 Z4 (Z1 Z3 l' y').fCells v4).fW (Z1 Z4 (Z1 Z3 l' y').fCells v4).fPen)))))
       (chk (inR .i64 (n+1)) <|
        let n2:=(n+1)
        chk (0≤v4∧v4 < (Z0 (Z1 Z3 l' y').fCells)) <|
        chk (inR .i64 (v4+1)) <|
        some (.go (n2,(v4+1),(Yc cells1 v4 (Z1 Z4 (Z1 Z3 l' y').fCells v4))))))
      (chk (0≤v4∧v4 < (Z0 (Z1 Z3 l' y').fCells)) <|
       chk (inR .i64 (v4+1)) <|
       some (.go (n,(v4+1),(Yc cells1 v4 (Z1 Z4 (Z1 Z3 l' y').fCells v4))))))
    (some (.out (.go cells1)))) (start,0,(Z0q (Z0 (Z1 Z3 l' y').fCells) Z4))) fun cells =>
 Z8 (Z2e cells v2 v1.2 p'.fbase) fun v3 =>
 some v3
noncomputable def Z2n (d':Za) (l':(List Z5)) (boxes:Bool):Option (List Zj) :=
 Z8 (Q2 l') fun v =>
 Z7 (!v)
  (some ([]:List Zj))
  (chk (Q1 80 (Z0 l') (Z0 l')) <|
   Zu (loopO (fun ((v1,Zb,b8_0,b8_1,b8_2,b8_3,b8_4):Int × List Zj × Int × Int × List Int × List Int × Int) =>
    Z7 (decide (v1 < (Z0 l')))
     (Zu (chk (0≤v1∧v1 < (Z0 l')) <|
       Z7 (Z1 Z3 l' v1).fExplicit
        (Z8 (Z1w (Z1 Z3 l' v1)) fun v2 =>
         chk (0≤v1∧v1 < (Z0 l')) <|
         some (.go ((Yc Zb v1 v2),b8_0,b8_1,b8_2,b8_3,b8_4)))
        (Zu (Z8 (Z34 l' v1) fun v4 =>
          let from':=v4.1
          let to:=v4.2
          Z7 (if (!(from' == b8_0))=true then true else (!(to == b8_1)))
           (Z8 (Z1i d' l' from' to boxes) fun v5 =>
            some (.go (v5.ffrom,v5.fto,v5.flevels,v5.fglyphs,v5.fbase)))
           (some (.go (b8_0,b8_1,b8_2,b8_3,b8_4)))) fun (b8_02,b8_12,b8_22,b8_32,b8_42) =>
         Z8 (Z4u d' l' v1 (Yj.mk b8_02 b8_12 b8_22 b8_32 b8_42)) fun v3 =>
         chk (0≤v1∧v1 < (Z0 l')) <|
         some (.go ((Yc Zb v1 v3),b8_02,b8_12,b8_22,b8_32,b8_42)))) fun (out2,b8_01,b8_11,b8_21,b8_31,b8_41) =>
      chk (inR .i64 (v1+1)) <|
      some (.go ((v1+1),out2,b8_01,b8_11,b8_21,b8_31,b8_41)))
     (some (.out (.go Zb)))) (0,(Z0q (Z0 l') Ya),0,0,([]:List Int),([]:List Int),0)) fun out =>
   some out)
noncomputable def Z0h (x':Int):Option Int :=
 chk (inR .i64 ((Yo x' 4096)+1)) <|
 some ((Yo x' 4096)+1)
noncomputable def Z75 (x':Zj) (r':Z5):Option ((List Int) × Bool) :=
 Z8 (if (!(!((Z0 x'.fV2L) == (Z0 r'.fCells))))=true then Q6 r' else some false) fun v =>
 Z7 (if (!((Z0 x'.fV2L) == (Z0 r'.fCells)))=true then true else (!v))
  (some (([]:List Int),false))
  (Z8 (Qy x'.fV2L) fun v1 =>
   some (v1.1,v1.2))
noncomputable def Z3c (x':Zj) (r':Z5) (from':Int) (to:Int):Option (List Int) :=
 Z8 (Z75 x' r') fun v =>
 let ok:=v.2
 Z7 (!ok)
  (some ([]:List Int))
  (Zu (loopO (fun ((v1,Zb):Int × List Int) =>
    Z7 (decide (v1 < (Z0 r'.fCells)))
     (Zu (chk (0≤v1∧v1 < (Z0 r'.fCells)) <|
       loopO (fun (j:Int) =>
        chk (inR .i64 (v1+(Z1 Z4 r'.fCells v1).fW)) <|
        Z7 (decide (j < (v1+(Z1 Z4 r'.fCells v1).fW)))
         (chk (0≤j∧j < (Z0 v.1)) <|
          chk ((decide (from'≤(Z1 0 v.1 j)))=true→0≤j∧j < (Z0 v.1)) <|
          Z7 (if (decide (from'≤(Z1 0 v.1 j)))=true then (decide ((Z1 0 v.1 j) < to)) else false)
           (chk (Yt 8 ((Z0 Zb)+1)) <|
            some (.out (.go (Zb++([v1]:List Int)))))
           (chk (inR .i64 (j+1)) <|
            let j1:=(j+1)
            some (.go j1)))
         (some (.out (.go Zb)))) v1) fun out2 =>
      chk (inR .i64 (v1+1)) <|
      some (.go ((v1+1),out2)))
     (some (.out (.go Zb)))) (0,([]:List Int))) fun out =>
   some out)
noncomputable def Z3d (r':Z5) (l':(List Int)):Option (List Int) :=
 Z8 (Q6 r') fun v =>
 Z7 (!v)
  (some ([]:List Int))
  (Zu (loopO (fun ((v1,Zb):Int × List Int) =>
    Z7 (decide (v1 < (Z0 l')))
     (Zu (chk (0≤v1∧v1 < (Z0 l')) <|
       let at':=(Z1 0 l' v1)
       chk ((!(if (decide (at' < 0))=true then true else (decide ((Z0 r'.fCells)≤at'))))=true→0≤at'∧at' < (Z0 r'.fCells)) <|
       Z7 (if (if (decide (at' < 0))=true then true else (decide ((Z0 r'.fCells)≤at')))=true then true else ((Z1 Z4 r'.fCells at').fW == 0))
        (some (.go Zb))
        (chk (0≤at'∧at' < (Z0 r'.fCells)) <|
         Zu (Z7 ((Z1 Z4 r'.fCells at').fR == 0)
          (some (.go 32))
          (some (.go (Z1 Z4 r'.fCells at').fR))) fun b8_0 =>
         chk (Yt 8 ((Z0 Zb)+1)) <|
         Zu (let m1:=(Z1 Z4 r'.fCells at').fM.x0
          Z7 (!(m1 == 0))
           (chk (Yt 8 (((Z0 Zb)+1)+1)) <|
            chk (inR .i64 (0+1)) <|
            some (.go ((Zb++([b8_0]:List Int))++([m1]:List Int))))
           (chk (inR .i64 (0+1)) <|
            some (.go (Zb++([b8_0]:List Int))))) fun out3 =>
         Zu (let m:=(Z1 Z4 r'.fCells at').fM.x1
          Z7 (!(m == 0))
           (chk (Yt 8 ((Z0 out3)+1)) <|
            chk (inR .i64 (1+1)) <|
            some (.go (out3++([m]:List Int))))
           (chk (inR .i64 (1+1)) <|
            some (.go out3))) fun out4 =>
         some (.go out4))) fun out2 =>
      chk (inR .i64 (v1+1)) <|
      some (.go ((v1+1),out2)))
     (some (.out (.go Zb)))) (0,([]:List Int))) fun out =>
   some out)
noncomputable def Z4g (l':(List Int)):Option (List Int) :=
 Zu (loopO (fun (l'2:List Int) =>
  chk ((decide (0 < (Z0 l'2)))=true→inR .i64 ((Z0 l'2)-1)) <|
  chk ((decide (0 < (Z0 l'2)))=true→0≤((Z0 l'2)-1)∧((Z0 l'2)-1) < (Z0 l'2)) <|
  Z7 (if (decide (0 < (Z0 l'2)))=true then ((Z1 0 l'2 ((Z0 l'2)-1)) == 32) else false)
   (chk (inR .i64 ((Z0 l'2)-1)) <|
    chk ((0:Int)≤0∧(0:Int)≤((Z0 l'2)-1)∧((Z0 l'2)-1)≤(Z0 l'2)) <|
    some (.go (Xx l'2 0 ((Z0 l'2)-1))))
   (some (.out (.go l'2)))) l') fun l'1 =>
 some l'1
noncomputable def Z25 (s:Y4) (l':(List Int)):Option (Y4) :=
 loopO (fun ((v,o):Int × List Int) =>
  Z7 (decide (v < (Z0 l')))
   (chk (0≤v∧v < (Z0 l')) <|
    let x':=(Z1 0 l' v)
    Z7 (decide (s.fmost≤(Z0 o)))
     (none)
     (chk (Yt 8 ((Z0 o)+1)) <|
      chk (inR .i64 (v+1)) <|
      some (.go ((v+1),(o++([x']:List Int))))))
   (some (.out (Y4.mk o s.fmost)))) (0,s.fl)
noncomputable def Z3r (s:Y4) (cap0:Zg) (cap1:Zg) (cap2:(List Z5)) (cap3:(List Zj)):Option (Y4) :=
 let y':=cap0.fY
 loopO (fun ((y'1,b0_1,o):Int × Int × List Int) =>
  Z7 (decide (y'1≤cap1.fY))
   (Zu (chk (0≤y'1∧y'1 < (Z0 cap2)) <|
     let to:=(Z0 (Z1 Z3 cap2 y'1).fCells)
     Zu (Z7 (y'1 == cap0.fY)
      (let from'1:=cap0.fX
       some (.go from'1))
      (some (.go 0))) fun from' =>
     Zu (Z7 (y'1 == cap1.fY)
      (Z8 (Z0h cap1.fX) fun v5 =>
       some (.go v5))
      (some (.go to))) fun to1 =>
     chk (0≤y'1∧y'1 < (Z0 cap2)) <|
     chk (0≤y'1∧y'1 < (Z0 cap3)) <|
     chk (0≤y'1∧y'1 < (Z0 cap2)) <|
     Z8 (Z3c (Z1 Ya cap3 y'1) (Z1 Z3 cap2 y'1) from' to1) fun v =>
     Z8 (Z3d (Z1 Z3 cap2 y'1) v) fun v1 =>
     Zu (chk (0≤y'1∧y'1 < (Z0 cap2)) <|
      Z7 (!(Z1 Z3 cap2 y'1).fWrap)
       (Z8 (Z4g v1) fun v4 =>
        some (.go v4))
       (some (.go v1))) fun text =>
     Z8 (Z25 (Y4.mk o b0_1) text) fun v2 =>
     chk ((decide (y'1 < cap1.fY))=true→0≤y'1∧y'1 < (Z0 cap2)) <|
     Z7 (if (decide (y'1 < cap1.fY))=true then (!(Z1 Z3 cap2 y'1).fWrap) else false)
      (Z8 (Z25 v2 ([10]:List Int)) fun v3 =>
       some (.go (v3.fmost,v3.fl)))
      (some (.go (v2.fmost,v2.fl)))) fun (b0_11,o1) =>
    chk (inR .i64 (y'1+1)) <|
    let y'2:=(y'1+1)
    some (.go (y'2,b0_11,o1)))
   (some (.out (Y4.mk o b0_1)))) (y',s.fmost,s.fl)
noncomputable def Z3s (s:Y4) (cap0:Int) (cap1:Int) (cap2:(List Z5)) (cap3:(List Zj)) (cap4:Int) (cap5:Int):Option (Y4) :=
 loopO (fun ((y',b0_1,o):Int × Int × List Int) =>
  Z7 (decide (y'≤cap1))
   (chk (0≤y'∧y' < (Z0 cap2)) <|
    chk (0≤y'∧y' < (Z0 cap3)) <|
    chk (0≤y'∧y' < (Z0 cap2)) <|
    Z8 (Z3c (Z1 Ya cap3 y') (Z1 Z3 cap2 y') cap4 cap5) fun v =>
    Z8 (Z3d (Z1 Z3 cap2 y') v) fun v1 =>
    Z8 (Z4g v1) fun v2 =>
    Z8 (Z25 (Y4.mk o b0_1) v2) fun v3 =>
    Z7 (decide (y' < cap1))
     (Z8 (Z25 v3 ([10]:List Int)) fun v4 =>
      chk (inR .i64 (y'+1)) <|
      let y'1:=(y'+1)
      some (.go (y'1,v4.fmost,v4.fl)))
     (chk (inR .i64 (y'+1)) <|
      let y'2:=(y'+1)
      some (.go (y'2,v3.fmost,v3.fl))))
   (some (.out (Y4.mk o b0_1)))) (cap0,s.fmost,s.fl)
noncomputable def Z09 (most:Int) (a b:Zg) (rows:List Z5) (l:List Zj):Option (List Int × Bool) :=
 Z8 (Z3r ⟨[],Yn 0 (Yo most 65536)⟩ a b rows l) fun s=>some (s.fl,true)
noncomputable def Z2o (most:Int) (a b:Int) (rows:List Z5) (l:List Zj) (c d:Int):Option (List Int × Bool) :=
 Z8 (Z3s ⟨[],Yn 0 (Yo most 65536)⟩ a b rows l c d) fun s=>some (s.fl,true)
noncomputable def Qn (l':(List Zj)) (rows:(List Z5)) (a:Zg) (b:Zg) (most:Int):Option ((List Int) × Bool) :=
 Z7 (if (!((Z0 l') == (Z0 rows)))=true then true else ((Z0 rows) == 0))
  (some (([]:List Int),true))
  (chk (inR .i64 ((Z0 rows)-1)) <|
   let last:=((Z0 rows)-1)
   Zu (Z7 (if (decide ((Yn 0 (Yo b.fY last)) < (Yn 0 (Yo a.fY last))))=true then true else (if ((Yn 0 (Yo a.fY last)) == (Yn 0 (Yo b.fY last)))=true then (decide (b.fX < a.fX)) else false))
    (some (.go ((Yn 0 (Yo b.fY last)),b.fX,(Yn 0 (Yo a.fY last)),a.fX)))
    (some (.go ((Yn 0 (Yo a.fY last)),a.fX,(Yn 0 (Yo b.fY last)),b.fX)))) fun (b7_0,b7_1,b8_0,b8_1) =>
   Z8 (Z09 most (Zg.mk b7_0 b7_1) (Zg.mk b8_0 b8_1) rows l') fun v =>
   some (v.1,v.2))
noncomputable def X8 (a:(List Int)) (b:(List Int)):Option Bool :=
 Z7 (!((Z0 a) == (Z0 b)))
  (some false)
  (Zu (loopO (fun (i:Int) =>
    Z7 (decide (i < (Z0 a)))
     (chk (0≤i∧i < (Z0 a)) <|
      chk (0≤i∧i < (Z0 b)) <|
      Z7 (!((Z1 0 a i) == (Z1 0 b i)))
       (some (.out (.out false)))
       (chk (inR .i64 (i+1)) <|
        let i1:=(i+1)
        some (.go i1)))
     (some (.out (.go ())))) 0) fun (_:Unit) =>
   some true)
noncomputable def Qs  : Option Bool :=
 Z8 (Z5l) fun v =>
 Z8 (Z2n v ([(Z5.mk ([(Zi.mk 97 Zz 1 Qc),(Zi.mk 1488 Zz 1 Qc),(Zi.mk 1489 Zz 1 Qc)]:List Zi) false 0 false)]:List Z5) false) fun v1 =>
 Z8 (Qn v1 ([(Z5.mk ([(Zi.mk 97 Zz 1 Qc),(Zi.mk 1488 Zz 1 Qc),(Zi.mk 1489 Zz 1 Qc)]:List Zi) false 0 false)]:List Z5) (Zg.mk 0 1) (Zg.mk 0 2) 9) fun v2 =>
 let ok:=v2.2
 Z8 (if ok=true then X8 v2.1 ([1488,1489]:List Int) else some false) fun v3 =>
 some (if (if ok=true then v3 else false)=true then ((Z0 v1) == 1) else false)
noncomputable def Z0a (l':(List Z5)):Option Bool :=
 Z7 (decide (60 < (Z0 l')))
  (some false)
  (Zu (loopO (fun (i:Int) =>
    Z7 (decide (i < (Z0 l')))
     (chk (0≤i∧i < (Z0 l')) <|
      Z7 (decide (100 < (Z0 (Z1 Z3 l' i).fCells)))
       (some (.out (.out false)))
       (chk (inR .i64 (i+1)) <|
        let i1:=(i+1)
        some (.go i1)))
     (some (.out (.go ())))) 0) fun (_:Unit) =>
   some true)
noncomputable def Yl (p':Y5):Option Zg :=
 some (Zg.mk p'.fY p'.fX)
noncomputable def Q8 (l':(List Zj)) (rows:(List Z5)) (a:Zg) (b:Zg) (most:Int):Option ((List Int) × Bool) :=
 Z7 (if (!((Z0 l') == (Z0 rows)))=true then true else ((Z0 rows) == 0))
  (some (([]:List Int),true))
  (chk (inR .i64 ((Z0 rows)-1)) <|
   let last:=((Z0 rows)-1)
   Z8 (Z0h (Yn a.fX b.fX)) fun v =>
   Z8 (Z2o most (Yn 0 (Yo (Yo a.fY b.fY) last)) (Yn 0 (Yo (Yn a.fY b.fY) last)) rows l' (Yo a.fX b.fX) v) fun v1 =>
   some (v1.1,v1.2))
noncomputable def Qe (rows:(List Z5)) (a:Y5) (b:Y5):Option Bool :=
 Z8 (Qs) fun v =>
 Z8 (Z0a rows) fun v1 =>
 Z7 (!v1)
  (some v)
  (Z8 (Z5l) fun v2 =>
   Z8 (Z2n v2 rows false) fun v3 =>
   Z8 (Yl a) fun v4 =>
   Z8 (Yl b) fun v5 =>
   Z8 (Qn v3 rows v4 v5 65536) fun v6 =>
   let u:=v6.2
   Z8 (Yl b) fun v5 =>
   Z8 (Yl a) fun v4 =>
   Z8 (Qn v3 rows v5 v4 65536) fun v7 =>
   let u1:=v7.2
   Z8 (Yl a) fun v4 =>
   Z8 (Yl b) fun v5 =>
   Z8 (Q8 v3 rows v4 v5 65536) fun v8 =>
   let u2:=v8.2
   Z8 (Yl b) fun v5 =>
   Z8 (Yl a) fun v4 =>
   Z8 (Q8 v3 rows v5 v4 65536) fun v9 =>
   let u3:=v9.2
   Z8 (if v=true then X8 v6.1 v7.1 else some false) fun v10 =>
   Z8 (if (if v=true then v10 else false)=true then X8 v8.1 v9.1 else some false) fun v11 =>
   some (if (if v=true then v10 else false)=true then v11 else false))
noncomputable def Z3t (d':Za) (l':(List Z5)) (y':Int) (boxes:Bool):Option (Zj × Bool) :=
 Z8 (if (!(if (decide (y' < 0))=true then true else (decide ((Z0 l')≤y'))))=true then Q2 l' else some false) fun v =>
 Z7 (if (if (decide (y' < 0))=true then true else (decide ((Z0 l')≤y')))=true then true else (!v))
  (some (Ya,false))
  (chk (0≤y'∧y' < (Z0 l')) <|
   Z7 (Z1 Z3 l' y').fExplicit
    (chk (0≤y'∧y' < (Z0 l')) <|
     Z8 (Z1w (Z1 Z3 l' y')) fun v1 =>
     some (v1,true))
    (Z8 (Z34 l' y') fun v2 =>
     let from':=v2.1
     let to:=v2.2
     Z8 (Z1i d' l' from' to boxes) fun v3 =>
     Z8 (Z4u d' l' y' v3) fun v4 =>
     some (v4,true)))
end Go.Vx
