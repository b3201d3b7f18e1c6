/- Lifted functions, by program (lift.py). -/
import Derived.Test.YtkaphbmifenkbaaGreatDoorVxCut
import Derived.Lib.Bytealg
import Derived.Sort.Defs
import Derived.Shelf.SlSortCmp.Insertion
set_option linter.all false
namespace Go.Vx
structure T_strings_span where
 fstart:Int
 fend:Int
def d_strings_span:T_strings_span:=⟨0,0⟩
instance:Inhabited T_strings_span:=⟨d_strings_span⟩
structure T_ranges_Row where
 fLo:Int
 fHi:Int
 fV:Int
def d_ranges_Row:T_ranges_Row:=⟨0,0,0⟩
instance:Inhabited T_ranges_Row:=⟨d_ranges_Row⟩
structure T_ranges_Table where
 fL:(List T_ranges_Row)
def d_ranges_Table:T_ranges_Table:=⟨[]⟩
instance:Inhabited T_ranges_Table:=⟨d_ranges_Table⟩
structure T_ucd_Pair where
 fA:Int
 fB:Int
def d_ucd_Pair:T_ucd_Pair:=⟨0,0⟩
instance:Inhabited T_ucd_Pair:=⟨d_ucd_Pair⟩
structure T_ucd_Form where
 fR:Int
 fAt:Int
 fN:Int
def d_ucd_Form:T_ucd_Form:=⟨0,0,0⟩
instance:Inhabited T_ucd_Form:=⟨d_ucd_Form⟩
structure T_ucd_Data where
 fClass:T_ranges_Table
 fWide:T_ranges_Table
 fJoin:T_ranges_Table
 fMirror:(List T_ucd_Pair)
 fBrackets:(List T_ucd_Pair)
 fForms:(List T_ucd_Form)
def d_ucd_Data:T_ucd_Data:=⟨d_ranges_Table,d_ranges_Table,d_ranges_Table,[],[],[]⟩
instance:Inhabited T_ucd_Data:=⟨d_ucd_Data⟩
structure T_embed_stack_int_ where
 fl:(List Int)
def d_embed_stack_int_:T_embed_stack_int_:=⟨[]⟩
instance:Inhabited T_embed_stack_int_:=⟨d_embed_stack_int_⟩
structure T_embed_status where
 flevel:Int
 foverride:Int
 fisolate:Bool
def d_embed_status:T_embed_status:=⟨0,0,false⟩
instance:Inhabited T_embed_status:=⟨d_embed_status⟩
structure T_embed_status_ where
 fl:(List T_embed_status)
def d_embed_status_:T_embed_status_:=⟨[]⟩
instance:Inhabited T_embed_status_:=⟨d_embed_status_⟩
structure T_embed_Run where
 fLevels:(List Int)
 fClasses:(List Int)
 fRemoved:(List Bool)
def d_embed_Run:T_embed_Run:=⟨[],[],[]⟩
instance:Inhabited T_embed_Run:=⟨d_embed_Run⟩
structure T_embed_machine where
 fl:(List Int)
 fmatch:(List Int)
 fbase:Int
 frun:T_embed_Run
 fopen:T_embed_status_
 fisolates:Int
 fembeddings:Int
 fvalid:Int
def d_embed_machine:T_embed_machine:=⟨[],[],0,d_embed_Run,d_embed_status_,0,0,0⟩
instance:Inhabited T_embed_machine:=⟨d_embed_machine⟩
structure T_weak_text where
 fl:(List Int)
 fsos:Int
def d_weak_text:T_weak_text:=⟨[],0⟩
instance:Inhabited T_weak_text:=⟨d_weak_text⟩
structure T_Arr2_i64 where
 x0:Int
 x1:Int
def d_Arr2_i64:T_Arr2_i64:=⟨0,0⟩
instance:Inhabited T_Arr2_i64:=⟨d_Arr2_i64⟩
structure T_weak_line where
 fl:(List Int)
 fwas:(List Int)
 fsos:Int
 feos:Int
 fdir:Int
 fagainst:Int
 fpairs:(List T_Arr2_i64)
def d_weak_line:T_weak_line:=⟨[],[],0,0,0,0,[]⟩
instance:Inhabited T_weak_line:=⟨d_weak_line⟩
structure T_api_Pen where
 fFg:Int
 fBg:Int
 fFlags:Int
def d_api_Pen:T_api_Pen:=⟨0,0,0⟩
instance:Inhabited T_api_Pen:=⟨d_api_Pen⟩
structure T_api_Cell where
 fR:Int
 fM:T_Arr2_i64
 fW:Int
 fPen:T_api_Pen
def d_api_Cell:T_api_Cell:=⟨0,d_Arr2_i64,0,d_api_Pen⟩
instance:Inhabited T_api_Cell:=⟨d_api_Cell⟩
structure T_api_Row where
 fCells:(List T_api_Cell)
 fWrap:Bool
 fDir:Int
 fExplicit:Bool
def d_api_Row:T_api_Row:=⟨[],false,0,false⟩
instance:Inhabited T_api_Row:=⟨d_api_Row⟩
structure T_view_Line where
 fV2L:(List Int)
 fL2V:(List Int)
 fCells:(List T_api_Cell)
 fBase:Int
def d_view_Line:T_view_Line:=⟨[],[],[],0⟩
instance:Inhabited T_view_Line:=⟨d_view_Line⟩
structure T_view_paragraph where
 ffrom:Int
 fto:Int
 flevels:(List Int)
 fglyphs:(List Int)
 fbase:Int
def d_view_paragraph:T_view_paragraph:=⟨0,0,[],[],0⟩
instance:Inhabited T_view_paragraph:=⟨d_view_paragraph⟩
structure T_lapwingref09_Grid where
 fRows:(List T_api_Row)
def d_lapwingref09_Grid:T_lapwingref09_Grid:=⟨[]⟩
instance:Inhabited T_lapwingref09_Grid:=⟨d_lapwingref09_Grid⟩
def kS0:ByteArray:=(⟨#[76,32,82,32,65,76,32,69,78,32,69,83,32,69,84,32,65,78,32,67,83,32,78,83,77,32,66,78,32,66,32,83,32,87,83,32,79,78,32,76,82,69,32,76,82,79,32,82,76,69,32,82,76,79,32,80,68,70,32,76,82,73,32,82,76,73,32,70,83,73,32,80,68,73]⟩:ByteArray)
def kS1:ByteArray:=(⟨#[48,45,56,32,66,78,44,32,57,32,83,44,32,65,32,66,44,32,66,32,83,44,32,67,32,87,83,44,32,68,32,66,44,32,69,45,49,66,32,66,78,44,32,49,67,45,49,69,32,66,44,32,49,70,32,83,44,32,50,48,32,87,83,44,10,50,49,45,50,50,32,79,78,44,32,50,51,45,50,53,32,69,84,44,32,50,54,45,50,65,32,79,78,44,32,50,66,32,69,83,44,32,50,67,32,67,83,44,32,50,68,32,69,83,44,32,50,69,45,50,70,32,67,83,44,32,51,48,45,51,57,32,69,78,44,32,51,65,32,67,83,44,32,51,66,45,52,48,32,79,78,44,10,53,66,45,54,48,32,79,78,44,32,55,66,45,55,69,32,79,78,44,32,55,70,45,56,52,32,66,78,44,32,56,53,32,66,44,32,56,54,45,57,70,32,66,78,44,32,65,48,32,67,83,44,32,65,49,32,79,78,44,32,65,50,45,65,53,32,69,84,44,32,65,54,45,65,57,32,79,78,44,32,65,66,45,65,67,32,79,78,44,10,65,68,32,66,78,44,32,65,69,45,65,70,32,79,78,44,32,66,48,45,66,49,32,69,84,44,32,66,50,45,66,51,32,69,78,44,32,66,52,32,79,78,44,32,66,54,45,66,56,32,79,78,44,32,66,57,32,69,78,44,32,66,66,45,66,70,32,79,78,44,32,68,55,32,79,78,44,32,70,55,32,79,78,44,10,51,48,48,45,51,54,70,32,78,83,77,44,32,53,57,48,32,82,44,32,53,57,49,45,53,66,68,32,78,83,77,44,32,53,66,69,32,82,44,32,53,66,70,32,78,83,77,44,32,53,67,48,32,82,44,32,53,67,49,45,53,67,50,32,78,83,77,44,32,53,67,51,32,82,44,32,53,67,52,45,53,67,53,32,78,83,77,44,32,53,67,54,32,82,44,10,53,67,55,32,78,83,77,44,32,53,67,56,45,53,70,70,32,82,44,32,54,48,48,45,54,48,53,32,65,78,44,32,54,48,54,45,54,48,55,32,79,78,44,32,54,48,56,32,65,76,44,32,54,48,57,45,54,48,65,32,69,84,44,32,54,48,66,32,65,76,44,32,54,48,67,32,67,83,44,32,54,48,68,32,65,76,44,32,54,48,69,45,54,48,70,32,79,78,44,10,54,49,48,45,54,49,65,32,78,83,77,44,32,54,49,66,45,54,52,65,32,65,76,44,32,54,52,66,45,54,53,70,32,78,83,77,44,32,54,54,48,45,54,54,57,32,65,78,44,32,54,54,65,32,69,84,44,32,54,54,66,45,54,54,67,32,65,78,44,32,54,54,68,45,54,54,70,32,65,76,44,32,54,55,48,32,78,83,77,44,32,54,55,49,45,54,68,53,32,65,76,44,32,54,68,54,45,54,68,67,32,78,83,77,44,10,54,68,68,32,65,78,44,32,54,68,69,32,79,78,44,32,54,68,70,45,54,69,52,32,78,83,77,44,32,54,69,53,45,54,69,54,32,65,76,44,32,54,69,55,45,54,69,56,32,78,83,77,44,32,54,69,57,32,79,78,44,32,54,69,65,45,54,69,68,32,78,83,77,44,32,54,69,69,45,54,69,70,32,65,76,44,32,54,70,48,45,54,70,57,32,69,78,44,32,54,70,65,45,54,70,70,32,65,76,44,10,50,48,48,48,45,50,48,48,65,32,87,83,44,32,50,48,48,66,45,50,48,48,68,32,66,78,44,32,50,48,48,70,32,82,44,32,50,48,49,48,45,50,48,50,55,32,79,78,44,32,50,48,50,56,32,87,83,44,32,50,48,50,57,32,66,44,32,50,48,50,65,32,76,82,69,44,32,50,48,50,66,32,82,76,69,44,32,50,48,50,67,32,80,68,70,44,32,50,48,50,68,32,76,82,79,44,10,50,48,50,69,32,82,76,79,44,32,50,48,50,70,32,67,83,44,32,50,48,51,48,45,50,48,51,52,32,69,84,44,32,50,48,51,53,45,50,48,52,51,32,79,78,44,32,50,48,52,52,32,67,83,44,32,50,48,52,53,45,50,48,53,69,32,79,78,44,32,50,48,53,70,32,87,83,44,32,50,48,54,48,45,50,48,54,53,32,66,78,44,32,50,48,54,54,32,76,82,73,44,32,50,48,54,55,32,82,76,73,44,10,50,48,54,56,32,70,83,73,44,32,50,48,54,57,32,80,68,73,44,32,50,48,54,65,45,50,48,54,70,32,66,78,44,32,50,49,57,48,45,50,50,49,49,32,79,78,44,32,50,50,49,50,32,69,83,44,32,50,50,49,51,32,69,84,44,32,50,50,49,52,45,50,51,51,53,32,79,78,44,32,50,53,48,48,45,50,53,57,70,32,79,78,44,32,51,48,48,48,32,87,83,44,32,51,48,48,49,45,51,48,48,52,32,79,78,44,10,51,48,48,56,45,51,48,50,48,32,79,78,44,32,70,66,49,68,32,82,44,32,70,66,49,69,32,78,83,77,44,32,70,66,49,70,45,70,66,50,56,32,82,44,32,70,66,50,57,32,69,83,44,32,70,66,50,65,45,70,66,52,70,32,82,44,32,70,66,53,48,45,70,68,67,70,32,65,76,44,32,70,69,55,48,45,70,69,70,69,32,65,76,44,32,70,69,70,70,32,66,78,44,32,70,70,70,57,45,70,70,70,68,32,79,78]⟩:ByteArray)
def kS2:ByteArray:=(⟨#[51,48,48,45,51,54,70,32,48,44,32,53,57,49,45,53,66,68,32,48,44,32,53,66,70,32,48,44,32,53,67,49,45,53,67,50,32,48,44,32,53,67,52,45,53,67,53,32,48,44,32,53,67,55,32,48,44,32,54,49,48,45,54,49,65,32,48,44,32,54,52,66,45,54,53,70,32,48,44,32,54,55,48,32,48,44,32,54,68,54,45,54,68,67,32,48,44,10,54,68,70,45,54,69,52,32,48,44,32,54,69,55,45,54,69,56,32,48,44,32,54,69,65,45,54,69,68,32,48,44,32,49,49,48,48,45,49,49,53,70,32,50,44,32,50,48,48,66,45,50,48,48,70,32,48,44,32,50,48,50,65,45,50,48,50,69,32,48,44,32,50,48,54,48,45,50,48,54,70,32,48,44,32,50,69,56,48,45,51,48,51,69,32,50,44,32,51,48,52,49,45,65,52,67,70,32,50,44,32,65,67,48,48,45,68,55,65,51,32,50,44,10,70,57,48,48,45,70,65,70,70,32,50,44,32,70,66,49,69,32,48,44,32,70,69,51,48,45,70,69,54,70,32,50,44,32,70,69,70,70,32,48,44,32,70,70,48,48,45,70,70,54,48,32,50,44,32,70,70,69,48,45,70,70,69,54,32,50,44,32,49,70,51,48,48,45,49,70,54,52,70,32,50,44,32,49,70,57,48,48,45,49,70,57,70,70,32,50,44,32,50,48,48,48,48,45,51,70,70,70,68,32,50]⟩:ByteArray)
def kS3:ByteArray:=(⟨#[51,48,48,45,51,54,70,32,84,44,32,53,57,49,45,53,66,68,32,84,44,32,53,66,70,32,84,44,32,53,67,49,45,53,67,50,32,84,44,32,53,67,52,45,53,67,53,32,84,44,32,53,67,55,32,84,44,32,54,49,48,45,54,49,65,32,84,44,32,54,50,48,32,68,44,32,54,50,50,45,54,50,53,32,82,44,32,54,50,54,32,68,44,10,54,50,55,32,82,44,32,54,50,56,32,68,44,32,54,50,57,32,82,44,32,54,50,65,45,54,50,69,32,68,44,32,54,50,70,45,54,51,50,32,82,44,32,54,51,51,45,54,51,70,32,68,44,32,54,52,48,32,67,44,32,54,52,49,45,54,52,55,32,68,44,32,54,52,56,45,54,52,57,32,82,44,32,54,52,65,32,68,44,10,54,52,66,45,54,53,70,32,84,44,32,54,54,69,45,54,54,70,32,68,44,32,54,55,48,32,84,44,32,54,55,49,45,54,55,51,32,82,44,32,54,55,53,45,54,55,55,32,82,44,32,54,55,56,45,54,56,55,32,68,44,32,54,56,56,45,54,57,57,32,82,44,32,54,57,65,45,54,66,70,32,68,44,32,54,67,48,32,82,44,32,54,67,49,45,54,67,50,32,68,44,10,54,67,51,45,54,67,66,32,82,44,32,54,67,67,32,68,44,32,54,67,68,32,82,44,32,54,67,69,32,68,44,32,54,67,70,32,82,44,32,54,68,48,45,54,68,49,32,68,44,32,54,68,50,45,54,68,51,32,82,44,32,54,68,53,32,82,44,32,54,68,54,45,54,68,67,32,84,44,32,54,68,70,45,54,69,52,32,84,44,10,54,69,55,45,54,69,56,32,84,44,32,54,69,65,45,54,69,68,32,84,44,32,54,69,69,45,54,69,70,32,82,44,32,54,70,65,45,54,70,67,32,68,44,32,54,70,70,32,68,44,32,50,48,48,66,32,84,44,32,50,48,48,68,32,67,44,32,70,66,49,69,32,84]⟩:ByteArray)
def kS4:ByteArray:=(⟨#[50,56,32,50,57,44,32,51,67,32,51,69,44,32,53,66,32,53,68,44,32,55,66,32,55,68,44,32,65,66,32,66,66,44,32,50,48,51,57,32,50,48,51,65,44,32,50,50,48,56,32,50,50,48,66,44,32,50,50,54,52,32,50,50,54,53,44,32,51,48,48,56,32,51,48,48,57,44,32,51,48,48,65,32,51,48,48,66,44,32,51,48,48,67,32,51,48,48,68,44,32,51,48,48,69,32,51,48,48,70,44,10,51,48,49,48,32,51,48,49,49,44,32,50,53,48,67,32,50,53,49,48,44,32,50,53,48,70,32,50,53,49,51,44,32,50,53,49,52,32,50,53,49,56,44,32,50,53,49,55,32,50,53,49,66,44,32,50,53,49,67,32,50,53,50,52,44,32,50,53,50,51,32,50,53,50,66,44,32,50,53,53,52,32,50,53,53,55,44,32,50,53,53,65,32,50,53,53,68,44,32,50,53,54,48,32,50,53,54,51,44,32,50,53,54,68,32,50,53,54,69,44,32,50,53,55,48,32,50,53,54,70,44,10,50,53,55,49,32,50,53,55,50,44,32,50,53,55,52,32,50,53,55,54,44,32,50,53,56,67,32,50,53,57,48]⟩:ByteArray)
def kS5:ByteArray:=(⟨#[50,56,32,50,57,44,32,53,66,32,53,68,44,32,55,66,32,55,68,44,32,51,48,48,56,32,51,48,48,57,44,32,51,48,48,65,32,51,48,48,66,44,32,51,48,48,67,32,51,48,48,68,44,32,51,48,48,69,32,51,48,48,70,44,32,51,48,49,48,32,51,48,49,49]⟩:ByteArray)
def kS6:ByteArray:=(⟨#[54,50,49,32,70,69,56,48,32,49,44,32,54,50,50,32,70,69,56,49,32,50,44,32,54,50,51,32,70,69,56,51,32,50,44,32,54,50,52,32,70,69,56,53,32,50,44,32,54,50,53,32,70,69,56,55,32,50,44,32,54,50,54,32,70,69,56,57,32,52,44,32,54,50,55,32,70,69,56,68,32,50,44,32,54,50,56,32,70,69,56,70,32,52,44,32,54,50,57,32,70,69,57,51,32,50,44,32,54,50,65,32,70,69,57,53,32,52,44,10,54,50,66,32,70,69,57,57,32,52,44,32,54,50,67,32,70,69,57,68,32,52,44,32,54,50,68,32,70,69,65,49,32,52,44,32,54,50,69,32,70,69,65,53,32,52,44,32,54,50,70,32,70,69,65,57,32,50,44,32,54,51,48,32,70,69,65,66,32,50,44,32,54,51,49,32,70,69,65,68,32,50,44,32,54,51,50,32,70,69,65,70,32,50,44,32,54,51,51,32,70,69,66,49,32,52,44,32,54,51,52,32,70,69,66,53,32,52,44,10,54,51,53,32,70,69,66,57,32,52,44,32,54,51,54,32,70,69,66,68,32,52,44,32,54,51,55,32,70,69,67,49,32,52,44,32,54,51,56,32,70,69,67,53,32,52,44,32,54,51,57,32,70,69,67,57,32,52,44,32,54,51,65,32,70,69,67,68,32,52,44,32,54,52,49,32,70,69,68,49,32,52,44,32,54,52,50,32,70,69,68,53,32,52,44,32,54,52,51,32,70,69,68,57,32,52,44,32,54,52,52,32,70,69,68,68,32,52,44,10,54,52,53,32,70,69,69,49,32,52,44,32,54,52,54,32,70,69,69,53,32,52,44,32,54,52,55,32,70,69,69,57,32,52,44,32,54,52,56,32,70,69,69,68,32,50,44,32,54,52,57,32,70,69,69,70,32,50,44,32,54,52,65,32,70,69,70,49,32,52]⟩:ByteArray)
def bytealg_CountString (s:ByteArray) (c:Int):Option Int:=some (Lib.countByte s.data.toList c.toNat.toUInt8:Nat)
abbrev BPair:Type:={p:T_Arr2_i64 // 0≤p.x0∧p.x0 < 4611686018427387904}
instance:Inhabited BPair:=⟨⟨d_Arr2_i64,by decide,by decide⟩⟩
def bCmp (a b:BPair):Int:=a.1.x0-b.1.x0
open Classical in
noncomputable def sortPairs (x:List T_Arr2_i64) (off n:Int):Option (List T_Arr2_i64):=match x with
 | []=>if off=0∧n=0 then some [] else none
 | a :: q=>if h:off=0∧n=lenL (a :: q)∧lenL (a :: q) < 4611686018427387904∧∀ p∈a :: q,0≤p.x0∧p.x0 < 4611686018427387904 then
   some ((Go.Sort.pdq (Go.Proofs.ltOf bCmp) ((a :: q).attach.map fun p=>(⟨p.1,h.2.2.2 p.1 p.2⟩:BPair)).toArray 0 ((a :: q).attach.map fun p=>(⟨p.1,h.2.2.2 p.1 p.2⟩:BPair)).toArray.size
    (Lib.bitLen ((a :: q).attach.map fun p=>(⟨p.1,h.2.2.2 p.1 p.2⟩:BPair)).toArray.size) true true).toList.map fun b=>b.1)
  else none
def chainUp (l:List T_api_Row):Nat→Int→Int
 | 0,x=>x
 | n+1,x=>if 0≤x-1∧(getL d_api_Row l (x-1)).fWrap=true then chainUp l n (x-1) else x
def chainDown (l:List T_api_Row):Nat→Int→Int
 | 0,x=>x
 | n+1,x=>if x < lenL l∧(getL d_api_Row l (x-1)).fWrap=true then chainDown l n (x+1) else x
def view_chain (l:List T_api_Row) (y:Int):Option (Int × Int):=if 0≤y∧y≤lenL l∧lenL l < 4611686018427387904 then some (chainUp l 31 y,chainDown l 32 (y+1)) else none
def shape_sides:Option (List (Int × Int)):=some [(1,1),(2,3),(3,3)]
def bytealg_IndexByteString (s:ByteArray) (c:Int):Option Int:=some (Lib.indexByte s.data.toList c.toNat.toUInt8)
noncomputable def strconv_lower (c':Int):Option Int :=
 some (borI .u8 c' 32)
noncomputable def stringslite_IndexByte (s:ByteArray) (c':Int):Option Int :=
 bindO (bytealg_IndexByteString s c') fun v =>
 some v
noncomputable def stringslite_Index (s:ByteArray) (substr:ByteArray):Option Int :=
 let n:=(slenS substr)
 iteO (if (n == 0)=true then true else (seqS substr s))
  (some 0)
  (iteO (n == 1)
   (chk ((0:Int)≤0∧(0:Int) < (slenS substr)) <|
    bindO (stringslite_IndexByte s (sidxS substr 0)) fun v =>
    some v)
   (iteO (decide ((slenS s)≤n))
    (some (-1))
    (none)))
noncomputable def strings_Index (s:ByteArray) (substr:ByteArray):Option Int :=
 bindO (stringslite_Index s substr) fun v =>
 some v
noncomputable def strings_Count (s:ByteArray) (substr:ByteArray):Option Int :=
 iteO ((slenS substr) == 0)
  (none)
  (iteO ((slenS substr) == 1)
   (chk ((0:Int)≤0∧(0:Int) < (slenS substr)) <|
    bindO (bytealg_CountString s (sidxS substr 0)) fun v =>
    some v)
   (loopO (fun ((s1,n):ByteArray × Int) =>
    bindO (strings_Index s1 substr) fun v1 =>
    iteO (v1 == (-1))
     (some (.out n))
     (chk (inR .i64 (n+1)) <|
      let n1:=(n+1)
      chk (inR .i64 (v1+(slenS substr))) <|
      chk (0≤(v1+(slenS substr))∧(v1+(slenS substr))≤(slenS s1)∧(slenS s1)≤(slenS s1)) <|
      let s2:=(ssubS s1 (v1+(slenS substr)) (slenS s1))
      some (.go (s2,n1)))) (s,0)))
noncomputable def strings_genSplit (s:ByteArray) (sep:ByteArray) (sepSave:Int) (n:Int):Option (List ByteArray) :=
 iteO (n == 0)
  (some ([]:List ByteArray))
  (iteO (seqS sep (⟨#[]⟩:ByteArray))
   (none)
   (cutO (iteO (decide (n < 0))
     (bindO (strings_Count s sep) fun v1 =>
      chk (inR .i64 (v1+1)) <|
      let n4:=(v1+1)
      some (.go n4))
     (some (.go n))) fun n1 =>
    chk (inR .i64 ((slenS s)+1)) <|
    let n2:=(iminI n1 ((slenS s)+1))
    chk (makeOk 16 n2 n2) <|
    chk (inR .i64 (n2-1)) <|
    let n3:=(n2-1)
    cutO (loopO (fun ((s2,i1,a1):ByteArray × Int × List ByteArray) =>
     iteO (decide (i1 < n3))
      (bindO (strings_Index s2 sep) fun v =>
       iteO (decide (v < 0))
        (some (.out (.go (s2,i1,a1))))
        (chk (inR .i64 (v+sepSave)) <|
         chk ((0:Int)≤0∧(0:Int)≤(v+sepSave)∧(v+sepSave)≤(slenS s2)) <|
         chk (0≤i1∧i1 < n2) <|
         chk (inR .i64 (v+(slenS sep))) <|
         chk (0≤(v+(slenS sep))∧(v+(slenS sep))≤(slenS s2)∧(slenS s2)≤(slenS s2)) <|
         let s3:=(ssubS s2 (v+(slenS sep)) (slenS s2))
         chk (inR .i64 (i1+1)) <|
         let i2:=(i1+1)
         some (.go (s3,i2,(setL a1 i1 (ssubS s2 0 (v+sepSave)))))))
      (some (.out (.go (s2,i1,a1))))) (s,0,(repL n2 ByteArray.empty))) fun (s1,i,a) =>
    chk (0≤i∧i < n2) <|
    chk (inR .i64 (i+1)) <|
    chk ((0:Int)≤0∧(0:Int)≤(i+1)∧(i+1)≤n2) <|
    some (subL (setL a i s1) (0+0) ((0+0)+((i+1)-0)))))
noncomputable def strings_Split (s:ByteArray) (sep:ByteArray):Option (List ByteArray) :=
 bindO (strings_genSplit s sep 0 (-1)) fun v =>
 some v
noncomputable def ucd_words_1 (c':Int):Option Bool :=
 some (if (if (c' == 32)=true then true else (c' == 10))=true then true else (c' == 45))
noncomputable def strings_FieldsFunc_52 (s:ByteArray):Option (List ByteArray) :=
 chk (makeOk 16 0 32) <|
 cutO (loopO (fun ((start1,spans2,pos):Int × List T_strings_span × Int) =>
  iteO (decide (pos < (slenS s)))
   (let rune:=(rdecS s pos)
    bindO (ucd_words_1 rune) fun v1 =>
    iteO v1
     (iteO (decide (0≤start1))
      (chk (growOk 16 ((lenL spans2)+1)) <|
       let start2:=(bxorI .i64 (-1) start1)
       some (.go (start2,(spans2++([(T_strings_span.mk start1 pos)]:List T_strings_span)),(if (decide (pos < (slenS s)))=true then (pos+(rwidS s pos)) else pos))))
      (some (.go (start1,spans2,(if (decide (pos < (slenS s)))=true then (pos+(rwidS s pos)) else pos)))))
     (iteO (decide (start1 < 0))
      (some (.go (pos,spans2,(if (decide (pos < (slenS s)))=true then (pos+(rwidS s pos)) else pos))))
      (some (.go (start1,spans2,(if (decide (pos < (slenS s)))=true then (pos+(rwidS s pos)) else pos))))))
   (some (.out (.go (start1,spans2))))) ((-1),(repL 0 d_strings_span),0)) fun (start,spans) =>
 cutO (iteO (decide (0≤start))
  (chk (growOk 16 ((lenL spans)+1)) <|
   some (.go (spans++([(T_strings_span.mk start (slenS s))]:List T_strings_span))))
  (some (.go spans))) fun spans1 =>
 chk (makeOk 16 (lenL spans1) (lenL spans1)) <|
 cutO (loopO (fun ((v,a1):Int × List ByteArray) =>
  iteO (decide (v < (lenL spans1)))
   (chk (0≤v∧v < (lenL spans1)) <|
    chk (0≤(getL d_strings_span spans1 (0+v)).fstart∧(getL d_strings_span spans1 (0+v)).fstart≤(getL d_strings_span spans1 (0+v)).fend∧(getL d_strings_span spans1 (0+v)).fend≤(slenS s)) <|
    chk (0≤v∧v < (lenL spans1)) <|
    chk (inR .i64 (v+1)) <|
    some (.go ((v+1),(setL a1 v (ssubS s (getL d_strings_span spans1 (0+v)).fstart (getL d_strings_span spans1 (0+v)).fend)))))
   (some (.out (.go a1)))) (0,(repL (lenL spans1) ByteArray.empty))) fun a =>
 some a
noncomputable def ucd_words (e:ByteArray):Option (List ByteArray) :=
 bindO (strings_FieldsFunc_52 e) fun v =>
 some v
def istrconv_underscoreOK (a0:ByteArray):Option Bool:=none
noncomputable def istrconv_ParseUint (s:ByteArray) (base:Int) (bitSize:Int):Option (Int × Unit) :=
 iteO (seqS s (⟨#[]⟩:ByteArray))
  (none)
  (let base0:=(base == 0)
   cutO (iteO (if (decide (2≤base))=true then (decide (base≤36)) else false)
    (some (.go (s,base)))
    (iteO (base == 0)
     (chk ((0:Int)≤0∧(0:Int) < (slenS s)) <|
      iteO ((sidxS s 0) == 48)
       (chk ((decide (3≤(slenS s)))=true→(0:Int)≤1∧(1:Int) < (slenS s)) <|
        bindO (if (decide (3≤(slenS s)))=true then strconv_lower (sidxS s 1) else some 0) fun v4 =>
        iteO (if (decide (3≤(slenS s)))=true then (v4 == 98) else false)
         (chk ((0:Int)≤2∧(2:Int)≤(slenS s)∧(slenS s)≤(slenS s)) <|
          let s2:=(ssubS s 2 (slenS s))
          some (.go (s2,2)))
         (chk ((decide (3≤(slenS s)))=true→(0:Int)≤1∧(1:Int) < (slenS s)) <|
          bindO (if (decide (3≤(slenS s)))=true then strconv_lower (sidxS s 1) else some 0) fun v4 =>
          iteO (if (decide (3≤(slenS s)))=true then (v4 == 111) else false)
           (chk ((0:Int)≤2∧(2:Int)≤(slenS s)∧(slenS s)≤(slenS s)) <|
            let s3:=(ssubS s 2 (slenS s))
            some (.go (s3,8)))
           (chk ((decide (3≤(slenS s)))=true→(0:Int)≤1∧(1:Int) < (slenS s)) <|
            bindO (if (decide (3≤(slenS s)))=true then strconv_lower (sidxS s 1) else some 0) fun v4 =>
            iteO (if (decide (3≤(slenS s)))=true then (v4 == 120) else false)
             (chk ((0:Int)≤2∧(2:Int)≤(slenS s)∧(slenS s)≤(slenS s)) <|
              let s4:=(ssubS s 2 (slenS s))
              some (.go (s4,16)))
             (chk ((0:Int)≤1∧(1:Int)≤(slenS s)∧(slenS s)≤(slenS s)) <|
              let s5:=(ssubS s 1 (slenS s))
              some (.go (s5,8))))))
       (some (.go (s,10))))
     (none))) fun (s1,base1) =>
   cutO (iteO (bitSize == 0)
    (some (.go 64))
    (iteO (if (decide (bitSize < 0))=true then true else (decide (64 < bitSize)))
     (none)
     (some (.go bitSize)))) fun bitSize1 =>
   cutO (iteO (base1 == 10)
    (some (.go 1844674407370955162))
    (iteO (base1 == 16)
     (some (.go 1152921504606846976))
     (chk (((IntKind.wrap .u64 base1):Int)≠0) <|
      chk (inR .u64 (Int.tdiv 18446744073709551615 (IntKind.wrap .u64 base1))) <|
      chk (inR .u64 ((Int.tdiv 18446744073709551615 (IntKind.wrap .u64 base1))+1)) <|
      let cutoff1:=((Int.tdiv 18446744073709551615 (IntKind.wrap .u64 base1))+1)
      some (.go cutoff1)))) fun cutoff =>
   chk ((0:Int)≤(IntKind.wrap .u64 bitSize1)) <|
   chk (inR .u64 ((shlI .u64 1 (IntKind.wrap .u64 bitSize1))-1)) <|
   let maxVal:=((shlI .u64 1 (IntKind.wrap .u64 bitSize1))-1)
   cutO (loopO (fun ((underscores1,n1,v1):Bool × Int × Int) =>
    iteO (decide (v1 < (slenS s1)))
     (cutO (chk (0≤v1∧v1 < (lenL (bytesL s1))) <|
       let c':=(getL 0 (bytesL s1) v1)
       cutO (iteO (if (c' == 95)=true then base0 else false)
        (some (.out (.go (true,n1))))
        (iteO (if (decide (48≤c'))=true then (decide (c'≤57)) else false)
         (chk (inR .u8 (c'-48)) <|
          let d'1:=(c'-48)
          some (.go d'1))
         (bindO (strconv_lower c') fun v2 =>
          bindO (if (decide (97≤v2))=true then strconv_lower c' else some 0) fun v3 =>
          iteO (if (decide (97≤v2))=true then (decide (v3≤122)) else false)
           (bindO (strconv_lower c') fun v2 =>
            chk (inR .u8 (v2-97)) <|
            chk (inR .u8 ((v2-97)+10)) <|
            let d'2:=((v2-97)+10)
            some (.go d'2))
           (none)))) fun d' =>
       iteO (decide ((IntKind.wrap .u8 base1)≤d'))
        (none)
        (iteO (decide (cutoff≤n1))
         (none)
         (chk (inR .u64 (n1*(IntKind.wrap .u64 base1))) <|
          let n3:=(n1*(IntKind.wrap .u64 base1))
          chk (inR .u64 (n3+(IntKind.wrap .u64 d'))) <|
          let n11:=(n3+(IntKind.wrap .u64 d'))
          iteO (if (decide (n11 < n3))=true then true else (decide (maxVal < n11)))
           (none)
           (some (.go (underscores1,n11)))))) fun (underscores2,n2) =>
      chk (inR .i64 (v1+1)) <|
      some (.go (underscores2,n2,(v1+1))))
     (some (.out (.go (underscores1,n1))))) (false,0,0)) fun (underscores,n) =>
   bindO (if underscores=true then istrconv_underscoreOK s else some false) fun v =>
   iteO (if underscores=true then (!v) else false)
    (none)
    (some (n,())))
noncomputable def istrconv_ParseInt (s:ByteArray) (base:Int) (bitSize:Int):Option (Int × Unit) :=
 iteO (seqS s (⟨#[]⟩:ByteArray))
  (none)
  (cutO (chk ((0:Int)≤0∧(0:Int) < (slenS s)) <|
    iteO ((sidxS s 0) == 43)
     (chk ((0:Int)≤1∧(1:Int)≤(slenS s)∧(slenS s)≤(slenS s)) <|
      let s2:=(ssubS s 1 (slenS s))
      some (.go (s2,false)))
     (iteO ((sidxS s 0) == 45)
      (chk ((0:Int)≤1∧(1:Int)≤(slenS s)∧(slenS s)≤(slenS s)) <|
       let s3:=(ssubS s 1 (slenS s))
       some (.go (s3,true)))
      (some (.go (s,false))))) fun (s1,neg) =>
   bindO (istrconv_ParseUint s1 base bitSize) fun v =>
   let un:=v.1
   iteO (if false=true then false else false)
    (some (0,()))
    (iteO (bitSize == 0)
     (chk (inR .i64 (64-1)) <|
      chk ((0:Int)≤(IntKind.wrap .u64 (64-1))) <|
      let cutoff:=(shlI .u64 1 (IntKind.wrap .u64 (64-1)))
      iteO (if (!neg)=true then (decide (cutoff≤un)) else false)
       (none)
       (iteO (if neg=true then (decide (cutoff < un)) else false)
        (none)
        (let n:=(IntKind.wrap .i64 un)
         iteO neg
          (chk (inR .i64 (0-n)) <|
           let n1:=(0-n)
           some (n1,()))
          (some (n,())))))
     (chk (inR .i64 (bitSize-1)) <|
      chk ((0:Int)≤(IntKind.wrap .u64 (bitSize-1))) <|
      let cutoff1:=(shlI .u64 1 (IntKind.wrap .u64 (bitSize-1)))
      iteO (if (!neg)=true then (decide (cutoff1≤un)) else false)
       (none)
       (iteO (if neg=true then (decide (cutoff1 < un)) else false)
        (none)
        (let n2:=(IntKind.wrap .i64 un)
         iteO neg
          (chk (inR .i64 (0-n2)) <|
           let n3:=(0-n2)
           some (n3,()))
          (some (n2,())))))))
noncomputable def strconv_ParseInt (s:ByteArray) (base:Int) (bitSize:Int):Option (Int × Unit) :=
 bindO (istrconv_ParseInt s base bitSize) fun v =>
 let x':=v.1
 some (x',())
noncomputable def ucd_hex (s:ByteArray):Option Int :=
 bindO (strconv_ParseInt s 16 32) fun v =>
 let n:=v.1
 some n
noncomputable def strings_Fields (s:ByteArray):Option (List ByteArray) :=
 cutO (loopO (fun ((n1,wasSpace,setBits1,i9):Int × Int × Int × Int) =>
  iteO (decide (i9 < (slenS s)))
   (chk (0≤i9∧i9 < (slenS s)) <|
    let r':=(sidxS s i9)
    let setBits2:=(borI .u8 setBits1 r')
    chk (0≤r'∧r' < (256:Int)) <|
    let isSpace:=(IntKind.wrap .i64 (gtabS 0 r'))
    chk (inR .i64 (n1+(bndI .i64 wasSpace (bxorI .i64 (-1) isSpace)))) <|
    let n2:=(n1+(bndI .i64 wasSpace (bxorI .i64 (-1) isSpace)))
    chk (inR .i64 (i9+1)) <|
    let i10:=(i9+1)
    some (.go (n2,isSpace,setBits2,i10)))
   (some (.out (.go (n1,setBits1))))) (0,1,0,0)) fun (n,setBits) =>
 iteO (decide (128≤setBits))
  (none)
  (chk (makeOk 16 n n) <|
   cutO (loopO (fun (i7:Int) =>
    chk ((decide (i7 < (slenS s)))=true→0≤i7∧i7 < (slenS s)) <|
    chk ((decide (i7 < (slenS s)))=true→0≤(sidxS s i7)∧(sidxS s i7) < (256:Int)) <|
    iteO (if (decide (i7 < (slenS s)))=true then (!((gtabS 0 (sidxS s i7)) == 0)) else false)
     (chk (inR .i64 (i7+1)) <|
      let i8:=(i7+1)
      some (.go i8))
     (some (.out (.go i7)))) 0) fun i =>
   cutO (loopO (fun ((na1,fieldStart1,i1,a1):Int × Int × Int × List ByteArray) =>
    iteO (decide (i1 < (slenS s)))
     (chk (0≤i1∧i1 < (slenS s)) <|
      chk (0≤(sidxS s i1)∧(sidxS s i1) < (256:Int)) <|
      iteO ((gtabS 0 (sidxS s i1)) == 0)
       (chk (inR .i64 (i1+1)) <|
        let i2:=(i1+1)
        some (.go (na1,fieldStart1,i2,a1)))
       (chk (0≤fieldStart1∧fieldStart1≤i1∧i1≤(slenS s)) <|
        chk (0≤na1∧na1 < n) <|
        chk (inR .i64 (na1+1)) <|
        let na2:=(na1+1)
        chk (inR .i64 (i1+1)) <|
        let i3:=(i1+1)
        cutO (loopO (fun (i5:Int) =>
         chk ((decide (i5 < (slenS s)))=true→0≤i5∧i5 < (slenS s)) <|
         chk ((decide (i5 < (slenS s)))=true→0≤(sidxS s i5)∧(sidxS s i5) < (256:Int)) <|
         iteO (if (decide (i5 < (slenS s)))=true then (!((gtabS 0 (sidxS s i5)) == 0)) else false)
          (chk (inR .i64 (i5+1)) <|
           let i6:=(i5+1)
           some (.go i6))
          (some (.out (.go i5)))) i3) fun i4 =>
        some (.go (na2,i4,i4,(setL a1 na1 (ssubS s fieldStart1 i1))))))
     (some (.out (.go (na1,fieldStart1,a1))))) (0,i,i,(repL n ByteArray.empty))) fun (na,fieldStart,a) =>
   iteO (decide (fieldStart < (slenS s)))
    (chk (0≤fieldStart∧fieldStart≤(slenS s)∧(slenS s)≤(slenS s)) <|
     chk (0≤na∧na < n) <|
     some (setL a na (ssubS s fieldStart (slenS s))))
    (some a))
noncomputable def ucd_className (s:ByteArray):Option Int :=
 cutO (bindO (strings_Fields kS0) fun v =>
  loopO (fun (v1:Int) =>
   iteO (decide (v1 < (lenL v)))
    (chk (0≤v1∧v1 < (lenL v)) <|
     let n:=(getL ByteArray.empty v (0+v1))
     iteO (seqS n s)
      (chk (inR .i64 (v1+1)) <|
       some (.out (.out (v1+1))))
      (chk (inR .i64 (v1+1)) <|
       some (.go (v1+1))))
    (some (.out (.go ())))) 0) fun (_:Unit) =>
 some 0
noncomputable def ucd_wideName (s:ByteArray):Option Int :=
 bindO (ucd_hex s) fun v =>
 chk (inR .i64 (v+1)) <|
 some (v+1)
noncomputable def ucd_joinName (s:ByteArray):Option Int :=
 iteO (seqS s (⟨#[82]⟩:ByteArray))
  (some 1)
  (iteO (seqS s (⟨#[68]⟩:ByteArray))
   (some 2)
   (iteO (seqS s (⟨#[67]⟩:ByteArray))
    (some 3)
    (iteO (seqS s (⟨#[84]⟩:ByteArray))
     (some 4)
     (some 0))))
noncomputable def ucd_table_class (text:ByteArray):Option T_ranges_Table :=
 cutO (bindO (strings_Split text (⟨#[44]⟩:ByteArray)) fun v =>
  loopO (fun ((v1,o1):Int × List T_ranges_Row) =>
   iteO (decide (v1 < (lenL v)))
    (cutO (chk (0≤v1∧v1 < (lenL v)) <|
      let e:=(getL ByteArray.empty v (0+v1))
      bindO (ucd_words e) fun v2 =>
      cutO (cutO (iteO ((lenL v2) == 3)
        (chk ((0:Int)≤1∧(1:Int) < (lenL v2)) <|
         bindO (ucd_hex (getL ByteArray.empty v2 (0+1))) fun v5 =>
         some (.go v5))
        (iteO ((lenL v2) == 2)
         (some (.go 0))
         (some (.out (.go (0,0,0)))))) fun b9_11 =>
       chk ((0:Int)≤0∧(0:Int) < (lenL v2)) <|
       bindO (ucd_hex (getL ByteArray.empty v2 (0+0))) fun v3 =>
       chk (inR .i64 ((lenL v2)-1)) <|
       chk (0≤((lenL v2)-1)∧((lenL v2)-1) < (lenL v2)) <|
       bindO (ucd_className (getL ByteArray.empty v2 (0+((lenL v2)-1)))) fun v4 =>
       some (.go (v3,b9_11,v4))) fun (b9_0,b9_1,b9_2) =>
      chk (growOk 24 ((lenL o1)+1)) <|
      some (.go (o1++([(T_ranges_Row.mk b9_0 (imaxI b9_0 b9_1) b9_2)]:List T_ranges_Row)))) fun o2 =>
     chk (inR .i64 (v1+1)) <|
     some (.go ((v1+1),o2)))
    (some (.out (.go o1)))) (0,([]:List T_ranges_Row))) fun o =>
 some (T_ranges_Table.mk o)
noncomputable def ucd_table_wide (text:ByteArray):Option T_ranges_Table :=
 cutO (bindO (strings_Split text (⟨#[44]⟩:ByteArray)) fun v =>
  loopO (fun ((v1,o1):Int × List T_ranges_Row) =>
   iteO (decide (v1 < (lenL v)))
    (cutO (chk (0≤v1∧v1 < (lenL v)) <|
      let e:=(getL ByteArray.empty v (0+v1))
      bindO (ucd_words e) fun v2 =>
      cutO (cutO (iteO ((lenL v2) == 3)
        (chk ((0:Int)≤1∧(1:Int) < (lenL v2)) <|
         bindO (ucd_hex (getL ByteArray.empty v2 (0+1))) fun v5 =>
         some (.go v5))
        (iteO ((lenL v2) == 2)
         (some (.go 0))
         (some (.out (.go (0,0,0)))))) fun b9_11 =>
       chk ((0:Int)≤0∧(0:Int) < (lenL v2)) <|
       bindO (ucd_hex (getL ByteArray.empty v2 (0+0))) fun v3 =>
       chk (inR .i64 ((lenL v2)-1)) <|
       chk (0≤((lenL v2)-1)∧((lenL v2)-1) < (lenL v2)) <|
       bindO (ucd_wideName (getL ByteArray.empty v2 (0+((lenL v2)-1)))) fun v4 =>
       some (.go (v3,b9_11,v4))) fun (b9_0,b9_1,b9_2) =>
      chk (growOk 24 ((lenL o1)+1)) <|
      some (.go (o1++([(T_ranges_Row.mk b9_0 (imaxI b9_0 b9_1) b9_2)]:List T_ranges_Row)))) fun o2 =>
     chk (inR .i64 (v1+1)) <|
     some (.go ((v1+1),o2)))
    (some (.out (.go o1)))) (0,([]:List T_ranges_Row))) fun o =>
 some (T_ranges_Table.mk o)
noncomputable def ucd_table_join (text:ByteArray):Option T_ranges_Table :=
 cutO (bindO (strings_Split text (⟨#[44]⟩:ByteArray)) fun v =>
  loopO (fun ((v1,o1):Int × List T_ranges_Row) =>
   iteO (decide (v1 < (lenL v)))
    (cutO (chk (0≤v1∧v1 < (lenL v)) <|
      let e:=(getL ByteArray.empty v (0+v1))
      bindO (ucd_words e) fun v2 =>
      cutO (cutO (iteO ((lenL v2) == 3)
        (chk ((0:Int)≤1∧(1:Int) < (lenL v2)) <|
         bindO (ucd_hex (getL ByteArray.empty v2 (0+1))) fun v5 =>
         some (.go v5))
        (iteO ((lenL v2) == 2)
         (some (.go 0))
         (some (.out (.go (0,0,0)))))) fun b9_11 =>
       chk ((0:Int)≤0∧(0:Int) < (lenL v2)) <|
       bindO (ucd_hex (getL ByteArray.empty v2 (0+0))) fun v3 =>
       chk (inR .i64 ((lenL v2)-1)) <|
       chk (0≤((lenL v2)-1)∧((lenL v2)-1) < (lenL v2)) <|
       bindO (ucd_joinName (getL ByteArray.empty v2 (0+((lenL v2)-1)))) fun v4 =>
       some (.go (v3,b9_11,v4))) fun (b9_0,b9_1,b9_2) =>
      chk (growOk 24 ((lenL o1)+1)) <|
      some (.go (o1++([(T_ranges_Row.mk b9_0 (imaxI b9_0 b9_1) b9_2)]:List T_ranges_Row)))) fun o2 =>
     chk (inR .i64 (v1+1)) <|
     some (.go ((v1+1),o2)))
    (some (.out (.go o1)))) (0,([]:List T_ranges_Row))) fun o =>
 some (T_ranges_Table.mk o)
noncomputable def ucd_pairs (text:ByteArray):Option (List T_ucd_Pair) :=
 cutO (bindO (strings_Split text (⟨#[44]⟩:ByteArray)) fun v =>
  loopO (fun ((v1,l'1):Int × List T_ucd_Pair) =>
   iteO (decide (v1 < (lenL v)))
    (chk (0≤v1∧v1 < (lenL v)) <|
     let e:=(getL ByteArray.empty v (0+v1))
     bindO (ucd_words e) fun v2 =>
     iteO ((lenL v2) == 2)
      (chk ((0:Int)≤0∧(0:Int) < (lenL v2)) <|
       bindO (ucd_hex (getL ByteArray.empty v2 (0+0))) fun v3 =>
       chk ((0:Int)≤1∧(1:Int) < (lenL v2)) <|
       bindO (ucd_hex (getL ByteArray.empty v2 (0+1))) fun v4 =>
       chk (growOk 16 ((lenL l'1)+1)) <|
       chk (inR .i64 (v1+1)) <|
       some (.go ((v1+1),(l'1++([(T_ucd_Pair.mk v3 v4)]:List T_ucd_Pair)))))
      (chk (inR .i64 (v1+1)) <|
       some (.go ((v1+1),l'1))))
    (some (.out (.go l'1)))) (0,([]:List T_ucd_Pair))) fun l' =>
 some l'
noncomputable def ucd_forms (text:ByteArray):Option (List T_ucd_Form) :=
 cutO (bindO (strings_Split text (⟨#[44]⟩:ByteArray)) fun v =>
  loopO (fun ((v1,l'1):Int × List T_ucd_Form) =>
   iteO (decide (v1 < (lenL v)))
    (chk (0≤v1∧v1 < (lenL v)) <|
     let e:=(getL ByteArray.empty v (0+v1))
     bindO (ucd_words e) fun v2 =>
     iteO ((lenL v2) == 3)
      (chk ((0:Int)≤0∧(0:Int) < (lenL v2)) <|
       bindO (ucd_hex (getL ByteArray.empty v2 (0+0))) fun v3 =>
       chk ((0:Int)≤1∧(1:Int) < (lenL v2)) <|
       bindO (ucd_hex (getL ByteArray.empty v2 (0+1))) fun v4 =>
       chk ((0:Int)≤2∧(2:Int) < (lenL v2)) <|
       bindO (ucd_hex (getL ByteArray.empty v2 (0+2))) fun v5 =>
       chk (growOk 24 ((lenL l'1)+1)) <|
       chk (inR .i64 (v1+1)) <|
       some (.go ((v1+1),(l'1++([(T_ucd_Form.mk v3 v4 v5)]:List T_ucd_Form)))))
      (chk (inR .i64 (v1+1)) <|
       some (.go ((v1+1),l'1))))
    (some (.out (.go l'1)))) (0,([]:List T_ucd_Form))) fun l' =>
 some l'
noncomputable def ucd_Load  : Option T_ucd_Data :=
 bindO (ucd_table_class kS1) fun v =>
 bindO (ucd_table_wide kS2) fun v1 =>
 bindO (ucd_table_join kS3) fun v2 =>
 bindO (ucd_pairs kS4) fun v3 =>
 bindO (ucd_pairs kS5) fun v4 =>
 bindO (ucd_forms kS6) fun v5 =>
 some (T_ucd_Data.mk v v1 v2 v3 v4 v5)
noncomputable def ranges_Get (t':T_ranges_Table) (r':Int):Option Int :=
 cutO (loopO (fun (v:Int) =>
  iteO (decide (v < (lenL t'.fL)))
   (chk (0≤v∧v < (lenL t'.fL)) <|
    iteO (if (decide ((getL d_ranges_Row t'.fL v).fLo≤r'))=true then (decide (r'≤(getL d_ranges_Row t'.fL v).fHi)) else false)
     (some (.out (.out (getL d_ranges_Row t'.fL v).fV)))
     (chk (inR .i64 (v+1)) <|
      some (.go (v+1))))
   (some (.out (.go ())))) 0) fun (_:Unit) =>
 some 0
noncomputable def ucd_Bracket (d':T_ucd_Data) (r':Int):Option (Int × Int) :=
 cutO (loopO (fun (v:Int) =>
  iteO (decide (v < (lenL d'.fBrackets)))
   (chk (0≤v∧v < (lenL d'.fBrackets)) <|
    iteO (r' == (getL d_ucd_Pair d'.fBrackets v).fA)
     (some (.out (.out ((getL d_ucd_Pair d'.fBrackets v).fB,1))))
     (iteO (r' == (getL d_ucd_Pair d'.fBrackets v).fB)
      (some (.out (.out ((getL d_ucd_Pair d'.fBrackets v).fA,2))))
      (chk (inR .i64 (v+1)) <|
       some (.go (v+1)))))
   (some (.out (.go ())))) 0) fun (_:Unit) =>
 some (0,0)
noncomputable def ucd_Class (d':T_ucd_Data) (r':Int):Option Int :=
 bindO (ranges_Get d'.fClass r') fun v =>
 iteO (decide (0 < v))
  (some v)
  (some 1)
noncomputable def si_push (s:T_embed_stack_int_) (x':Int):Option (T_embed_stack_int_) :=
 chk (growOk 8 ((lenL s.fl)+1)) <|
 some (T_embed_stack_int_.mk (s.fl++([x']:List Int)))
noncomputable def si_size (s:T_embed_stack_int_):Option Int :=
 some (lenL s.fl)
noncomputable def si_last (s:T_embed_stack_int_):Option Int :=
 chk (inR .i64 ((lenL s.fl)-1)) <|
 chk (0≤((lenL s.fl)-1)∧((lenL s.fl)-1) < (lenL s.fl)) <|
 some (getL 0 s.fl ((lenL s.fl)-1))
noncomputable def si_pop (s:T_embed_stack_int_):Option (T_embed_stack_int_) :=
 chk (inR .i64 ((lenL s.fl)-1)) <|
 chk ((0:Int)≤0∧(0:Int)≤((lenL s.fl)-1)∧((lenL s.fl)-1)≤(lenL s.fl)) <|
 some (T_embed_stack_int_.mk (subL s.fl (0+0) ((0+0)+(((lenL s.fl)-1)-0))))
noncomputable def embed_known (l':(List Int)):Option (List Int) :=
 chk (makeOk 8 (lenL l') (lenL l')) <|
 cutO (loopO (fun ((v,out1):Int × List Int) =>
  iteO (decide (v < (lenL l')))
   (chk (0≤v∧v < (lenL l')) <|
    let c':=(getL 0 l' v)
    iteO (if (decide (c' < 1))=true then true else (decide (23 < c')))
     (chk (0≤v∧v < (lenL l')) <|
      chk (inR .i64 (v+1)) <|
      some (.go ((v+1),(setL out1 v 14))))
     (chk (0≤v∧v < (lenL l')) <|
      chk (inR .i64 (v+1)) <|
      some (.go ((v+1),(setL out1 v c')))))
   (some (.out (.go out1)))) (0,(repL (lenL l') 0))) fun out =>
 some out
noncomputable def embed_parity (base:Int):Option Int :=
 chk ((2:Int)≠0) <|
 some (Int.tmod (imaxI base 0) 2)
noncomputable def ss_push (s:T_embed_status_) (x':T_embed_status):Option (T_embed_status_) :=
 chk (growOk 24 ((lenL s.fl)+1)) <|
 some (T_embed_status_.mk (s.fl++([x']:List T_embed_status)))
noncomputable def ss_last (s:T_embed_status_):Option T_embed_status :=
 chk (inR .i64 ((lenL s.fl)-1)) <|
 chk (0≤((lenL s.fl)-1)∧((lenL s.fl)-1) < (lenL s.fl)) <|
 some (getL d_embed_status s.fl ((lenL s.fl)-1))
noncomputable def ss_pop (s:T_embed_status_):Option (T_embed_status_) :=
 chk (inR .i64 ((lenL s.fl)-1)) <|
 chk ((0:Int)≤0∧(0:Int)≤((lenL s.fl)-1)∧((lenL s.fl)-1)≤(lenL s.fl)) <|
 some (T_embed_status_.mk (subL s.fl (0+0) ((0+0)+(((lenL s.fl)-1)-0))))
noncomputable def ss_size (s:T_embed_status_):Option Int :=
 some (lenL s.fl)
noncomputable def embed_isolate (c':Int):Option Bool :=
 some (if (if (c' == 20)=true then true else (c' == 21))=true then true else (c' == 22))
noncomputable def embed_side (level:Int):Option Int :=
 iteO ((bndI .i64 level 1) == 1)
  (some 2)
  (some 1)
noncomputable def embed_base_ (l':(List Int)) (match':(List Int)) (from':Int) (to:Int):Option Int :=
 cutO (loopO (fun (i:Int) =>
  iteO (decide (i < to))
   (cutO (chk (0≤i∧i < (lenL l')) <|
     cutO (iteO ((getL 0 l' i) == 1)
      (some (.go ((getL 0 l' i) == 1)))
      (some (.go ((getL 0 l' i) == 11)))) fun v =>
     iteO v
      (some (.out (.out (.out 0))))
      (cutO (iteO ((getL 0 l' i) == 2)
        (some (.go ((getL 0 l' i) == 2)))
        (some (.go ((getL 0 l' i) == 3)))) fun v1 =>
       iteO v1
        (some (.out (.out (.out 1))))
        (iteO ((getL 0 l' i) == 20)
         (iteO ((getL 0 l' i) == 20)
          (chk (0≤i∧i < (lenL match')) <|
           let i3:=(getL 0 match' i)
           some (.go i3))
          (some (.go i)))
         (iteO ((getL 0 l' i) == 21)
          (iteO ((getL 0 l' i) == 21)
           (chk (0≤i∧i < (lenL match')) <|
            let i4:=(getL 0 match' i)
            some (.go i4))
           (some (.go i)))
          (iteO ((getL 0 l' i) == 22)
           (chk (0≤i∧i < (lenL match')) <|
            let i5:=(getL 0 match' i)
            some (.go i5))
           (some (.go i))))))) fun i1 =>
    chk (inR .i64 (i1+1)) <|
    let i2:=(i1+1)
    some (.go i2))
   (some (.out (.go ())))) from') fun (_:Unit) =>
 some 0
noncomputable def embed_Match (l':(List Int)):Option (List Int) :=
 chk (makeOk 8 (lenL l') (lenL l')) <|
 cutO (loopO (fun ((v,out1,o):Int × List Int × List Int) =>
  iteO (decide (v < (lenL l')))
   (cutO (chk (0≤v∧v < (lenL l')) <|
     let c':=(getL 0 l' v)
     chk (0≤v∧v < (lenL l')) <|
     cutO (iteO (c' == 20)
      (some (.go (c' == 20)))
      (iteO (c' == 21)
       (some (.go (c' == 21)))
       (some (.go (c' == 22))))) fun v1 =>
     iteO v1
      (chk (0≤v∧v < (lenL l')) <|
       bindO (si_push (T_embed_stack_int_.mk o) v) fun v2 =>
       some (.go ((setL (setL out1 v (-1)) v (lenL l')),v2.fl)))
      (iteO (c' == 23)
       (bindO (si_size (T_embed_stack_int_.mk o)) fun v3 =>
        iteO (decide (0 < v3))
         (bindO (si_last (T_embed_stack_int_.mk o)) fun v4 =>
          chk (0≤v∧v < (lenL l')) <|
          bindO (si_last (T_embed_stack_int_.mk o)) fun v4 =>
          chk (0≤v4∧v4 < (lenL l')) <|
          bindO (si_pop (T_embed_stack_int_.mk o)) fun v5 =>
          some (.go ((setL (setL (setL out1 v (-1)) v v4) v4 v),v5.fl)))
         (some (.go ((setL out1 v (-1)),o))))
       (iteO (c' == 11)
        (some (.go ((setL out1 v (-1)),([]:List Int))))
        (some (.go ((setL out1 v (-1)),o)))))) fun (out2,o1) =>
    chk (inR .i64 (v+1)) <|
    some (.go ((v+1),out2,o1)))
   (some (.out (.go out1)))) (0,(repL (lenL l') 0),([]:List Int))) fun out =>
 some out
noncomputable def embed_Base (l':(List Int)):Option Int :=
 bindO (embed_Match l') fun v =>
 bindO (embed_base_ l' v 0 (lenL l')) fun v1 =>
 some v1
noncomputable def embed_fits (l':(List Int)) (r':T_embed_Run):Option Bool :=
 some (if (if ((lenL r'.fLevels) == (lenL l'))=true then ((lenL r'.fClasses) == (lenL l')) else false)=true then ((lenL r'.fRemoved) == (lenL l')) else false)
noncomputable def m_next (m:T_embed_machine) (odd:Bool):Option (Int × Bool) :=
 bindO (ss_last m.fopen) fun v =>
 chk (inR .i64 (v.flevel+1)) <|
 let level:=(v.flevel+1)
 chk ((2:Int)≠0) <|
 iteO (!(((Int.tmod level 2) == 1) == odd))
  (chk (inR .i64 (level+1)) <|
   let level1:=(level+1)
   some (level1,(if (if (decide (level1≤125))=true then (m.fisolates == 0) else false)=true then (m.fembeddings == 0) else false)))
  (some (level,(if (if (decide (level≤125))=true then (m.fisolates == 0) else false)=true then (m.fembeddings == 0) else false)))
noncomputable def m_take (m:T_embed_machine) (i:Int):Option (T_embed_machine) :=
 bindO (ss_last m.fopen) fun v =>
 chk (0≤i∧i < (lenL m.frun.fLevels)) <|
 iteO (!(v.foverride == 14))
  (chk (0≤i∧i < (lenL m.frun.fClasses)) <|
   some (T_embed_machine.mk m.fl m.fmatch m.fbase (T_embed_Run.mk (setL m.frun.fLevels i v.flevel) (setL m.frun.fClasses i v.foverride) m.frun.fRemoved) m.fopen m.fisolates m.fembeddings m.fvalid))
  (some (T_embed_machine.mk m.fl m.fmatch m.fbase (T_embed_Run.mk (setL m.frun.fLevels i v.flevel) m.frun.fClasses m.frun.fRemoved) m.fopen m.fisolates m.fembeddings m.fvalid))
noncomputable def m_remove (m:T_embed_machine) (i:Int):Option (T_embed_machine) :=
 bindO (ss_last m.fopen) fun v =>
 chk (0≤i∧i < (lenL m.frun.fLevels)) <|
 chk (0≤i∧i < (lenL m.frun.fRemoved)) <|
 some (T_embed_machine.mk m.fl m.fmatch m.fbase (T_embed_Run.mk (setL m.frun.fLevels i v.flevel) m.frun.fClasses (setL m.frun.fRemoved i true)) m.fopen m.fisolates m.fembeddings m.fvalid)
noncomputable def m_embed (m:T_embed_machine) (i:Int) (c':Int):Option (T_embed_machine) :=
 bindO (m_remove m i) fun v =>
 bindO (m_next v (if (c' == 17)=true then true else (c' == 18))) fun v1 =>
 let level:=v1.1
 let may:=v1.2
 iteO (!may)
  (iteO (v.fisolates == 0)
   (chk (inR .i64 (v.fembeddings+1)) <|
    some (T_embed_machine.mk v.fl v.fmatch v.fbase v.frun v.fopen v.fisolates (v.fembeddings+1) v.fvalid))
   (some v))
  (cutO (iteO (c' == 18)
    (some (.go 2))
    (iteO (c' == 16)
     (some (.go 1))
     (some (.go 14)))) fun override =>
   bindO (ss_push v.fopen (T_embed_status.mk level override false)) fun v2 =>
   some (T_embed_machine.mk v.fl v.fmatch v.fbase v.frun v2 v.fisolates v.fembeddings v.fvalid))
noncomputable def m_isolate (m:T_embed_machine) (i:Int) (c':Int):Option (T_embed_machine) :=
 let odd:=(c' == 21)
 cutO (iteO (c' == 22)
  (chk (inR .i64 (i+1)) <|
   chk (0≤i∧i < (lenL m.fmatch)) <|
   bindO (embed_base_ m.fl m.fmatch (i+1) (getL 0 m.fmatch i)) fun v3 =>
   let odd2:=(v3 == 1)
   some (.go odd2))
  (some (.go odd))) fun odd1 =>
 bindO (m_take m i) fun v =>
 bindO (m_next v odd1) fun v1 =>
 let level:=v1.1
 let may:=v1.2
 iteO (!may)
  (chk (inR .i64 (v.fisolates+1)) <|
   some (T_embed_machine.mk v.fl v.fmatch v.fbase v.frun v.fopen (v.fisolates+1) v.fembeddings v.fvalid))
  (chk (inR .i64 (v.fvalid+1)) <|
   bindO (ss_push v.fopen (T_embed_status.mk level 14 true)) fun v2 =>
   some (T_embed_machine.mk v.fl v.fmatch v.fbase v.frun v2 v.fisolates v.fembeddings (v.fvalid+1)))
noncomputable def m_endIsolate (m:T_embed_machine):Option (T_embed_machine) :=
 iteO (decide (0 < m.fisolates))
  (chk (inR .i64 (m.fisolates-1)) <|
   some (T_embed_machine.mk m.fl m.fmatch m.fbase m.frun m.fopen (m.fisolates-1) m.fembeddings m.fvalid))
  (iteO (m.fvalid == 0)
   (some m)
   (cutO (loopO (fun (o1:List T_embed_status) =>
     bindO (ss_last (T_embed_status_.mk o1)) fun v1 =>
     iteO (!v1.fisolate)
      (bindO (ss_pop (T_embed_status_.mk o1)) fun v2 =>
       some (.go v2.fl))
      (some (.out (.go o1)))) m.fopen.fl) fun o =>
    bindO (ss_pop (T_embed_status_.mk o)) fun v =>
    chk (inR .i64 (m.fvalid-1)) <|
    some (T_embed_machine.mk m.fl m.fmatch m.fbase m.frun v m.fisolates 0 (m.fvalid-1))))
noncomputable def m_endEmbedding (m:T_embed_machine):Option (T_embed_machine) :=
 iteO (decide (0 < m.fisolates))
  (some m)
  (iteO (decide (0 < m.fembeddings))
   (chk (inR .i64 (m.fembeddings-1)) <|
    some (T_embed_machine.mk m.fl m.fmatch m.fbase m.frun m.fopen m.fisolates (m.fembeddings-1) m.fvalid))
   (bindO (ss_last m.fopen) fun v =>
    bindO (if (!v.fisolate)=true then ss_size m.fopen else some 0) fun v1 =>
    iteO (if (!v.fisolate)=true then (decide (2≤v1)) else false)
     (bindO (ss_pop m.fopen) fun v2 =>
      some (T_embed_machine.mk m.fl m.fmatch m.fbase m.frun v2 m.fisolates m.fembeddings m.fvalid))
     (some m)))
noncomputable def embed_Explicit (l':(List Int)) (base:Int):Option T_embed_Run :=
 cutO (bindO (embed_known l') fun v11 =>
  bindO (embed_Match v11) fun v12 =>
  bindO (embed_parity base) fun v13 =>
  chk (makeOk 8 (lenL v11) (lenL v11)) <|
  chk (growOk 8 (lenL v11)) <|
  chk (makeOk 1 (lenL v11) (lenL v11)) <|
  some (.go (v11,v11,v12,v13,(repL (lenL v11) 0),v11,(repL (lenL v11) false),([]:List T_embed_status)))) fun (l'1,b5_0,b5_1,b5_2,o,o1,o2,o3) =>
 bindO (ss_push (T_embed_status_.mk o3) (T_embed_status.mk b5_2 14 false)) fun v =>
 cutO (loopO (fun ((v1,b5_02,b5_12,b5_22,b5_71,b5_81,b5_91,o8,o9,o10,o11):Int × List Int × List Int × Int × Int × Int × Int × List Int × List Int × List Bool × List T_embed_status) =>
  iteO (decide (v1 < (lenL l'1)))
   (cutO (chk (0≤v1∧v1 < (lenL l'1)) <|
     let c':=(getL 0 l'1 v1)
     cutO (iteO (c' == 17)
      (some (.go (c' == 17)))
      (iteO (c' == 15)
       (some (.go (c' == 15)))
       (iteO (c' == 18)
        (some (.go (c' == 18)))
        (some (.go (c' == 16)))))) fun v2 =>
     iteO v2
      (bindO (m_embed (T_embed_machine.mk b5_02 b5_12 b5_22 (T_embed_Run.mk o8 o9 o10) (T_embed_status_.mk o11) b5_71 b5_81 b5_91) v1 c') fun v3 =>
       some (.go (v3.fl,v3.fmatch,v3.fbase,v3.fisolates,v3.fembeddings,v3.fvalid,v3.frun.fLevels,v3.frun.fClasses,v3.frun.fRemoved,v3.fopen.fl)))
      (cutO (iteO (c' == 21)
        (some (.go (c' == 21)))
        (iteO (c' == 20)
         (some (.go (c' == 20)))
         (some (.go (c' == 22))))) fun v4 =>
       iteO v4
        (bindO (m_isolate (T_embed_machine.mk b5_02 b5_12 b5_22 (T_embed_Run.mk o8 o9 o10) (T_embed_status_.mk o11) b5_71 b5_81 b5_91) v1 c') fun v5 =>
         some (.go (v5.fl,v5.fmatch,v5.fbase,v5.fisolates,v5.fembeddings,v5.fvalid,v5.frun.fLevels,v5.frun.fClasses,v5.frun.fRemoved,v5.fopen.fl)))
        (iteO (c' == 23)
         (bindO (m_endIsolate (T_embed_machine.mk b5_02 b5_12 b5_22 (T_embed_Run.mk o8 o9 o10) (T_embed_status_.mk o11) b5_71 b5_81 b5_91)) fun v6 =>
          bindO (m_take v6 v1) fun v7 =>
          some (.go (v7.fl,v7.fmatch,v7.fbase,v7.fisolates,v7.fembeddings,v7.fvalid,v7.frun.fLevels,v7.frun.fClasses,v7.frun.fRemoved,v7.fopen.fl)))
         (iteO (c' == 19)
          (bindO (m_remove (T_embed_machine.mk b5_02 b5_12 b5_22 (T_embed_Run.mk o8 o9 o10) (T_embed_status_.mk o11) b5_71 b5_81 b5_91) v1) fun v8 =>
           bindO (m_endEmbedding v8) fun v9 =>
           some (.go (v9.fl,v9.fmatch,v9.fbase,v9.fisolates,v9.fembeddings,v9.fvalid,v9.frun.fLevels,v9.frun.fClasses,v9.frun.fRemoved,v9.fopen.fl)))
          (iteO (c' == 11)
           (chk (0≤v1∧v1 < (lenL o8)) <|
            some (.go (b5_02,b5_12,b5_22,b5_71,b5_81,b5_91,(setL o8 v1 b5_22),o9,o10,o11)))
           (iteO (c' == 10)
            (bindO (m_remove (T_embed_machine.mk b5_02 b5_12 b5_22 (T_embed_Run.mk o8 o9 o10) (T_embed_status_.mk o11) b5_71 b5_81 b5_91) v1) fun v8 =>
             some (.go (v8.fl,v8.fmatch,v8.fbase,v8.fisolates,v8.fembeddings,v8.fvalid,v8.frun.fLevels,v8.frun.fClasses,v8.frun.fRemoved,v8.fopen.fl)))
            (bindO (m_take (T_embed_machine.mk b5_02 b5_12 b5_22 (T_embed_Run.mk o8 o9 o10) (T_embed_status_.mk o11) b5_71 b5_81 b5_91) v1) fun v10 =>
             some (.go (v10.fl,v10.fmatch,v10.fbase,v10.fisolates,v10.fembeddings,v10.fvalid,v10.frun.fLevels,v10.frun.fClasses,v10.frun.fRemoved,v10.fopen.fl))))))))) fun (b5_03,b5_13,b5_23,b5_72,b5_82,b5_92,o12,o13,o14,o15) =>
    chk (inR .i64 (v1+1)) <|
    some (.go ((v1+1),b5_03,b5_13,b5_23,b5_72,b5_82,b5_92,o12,o13,o14,o15)))
   (some (.out (.go (b5_02,b5_12,b5_22,b5_71,b5_81,b5_91,o8,o9,o10,o11))))) (0,b5_0,b5_1,b5_2,0,0,0,o,o1,o2,v.fl)) fun (b5_01,b5_11,b5_21,b5_7,b5_8,b5_9,o4,o5,o6,o7) =>
 some (T_embed_Run.mk o4 o5 o6)
noncomputable def embed_runs (r':T_embed_Run):Option (List (List Int)) :=
 cutO (loopO (fun ((v,out1):Int × List (List Int)) =>
  iteO (decide (v < (lenL r'.fRemoved)))
   (chk (0≤v∧v < (lenL r'.fRemoved)) <|
    let gone:=(getL false r'.fRemoved v)
    iteO gone
     (chk (inR .i64 (v+1)) <|
      some (.go ((v+1),out1)))
     (let n:=(lenL out1)
      chk ((!(n == 0))=true→inR .i64 (n-1)) <|
      chk ((!(n == 0))=true→0≤(n-1)∧(n-1) < (lenL out1)) <|
      chk ((!(n == 0))=true→(0:Int)≤0∧(0:Int) < (lenL (getL [] out1 ((lenL out1)-1)))) <|
      chk ((!(n == 0))=true→0≤(getL 0 (getL [] out1 ((lenL out1)-1)) (0+0))∧(getL 0 (getL [] out1 ((lenL out1)-1)) (0+0)) < (lenL r'.fLevels)) <|
      chk ((!(n == 0))=true→0≤v∧v < (lenL r'.fLevels)) <|
      iteO (if (n == 0)=true then true else (!((getL 0 r'.fLevels (getL 0 (getL [] out1 ((lenL out1)-1)) (0+0))) == (getL 0 r'.fLevels v))))
       (chk (growOk 24 ((lenL out1)+1)) <|
        chk (inR .i64 (v+1)) <|
        some (.go ((v+1),(out1++([([v]:List Int)]:List (List Int))))))
       (chk (inR .i64 (n-1)) <|
        chk (inR .i64 (n-1)) <|
        chk (0≤(n-1)∧(n-1) < (lenL out1)) <|
        chk (growOk 8 ((lenL (getL [] out1 ((lenL out1)-1)))+1)) <|
        chk (0≤(n-1)∧(n-1) < (lenL out1)) <|
        chk (inR .i64 (v+1)) <|
        some (.go ((v+1),(setL out1 (n-1) ((getL [] out1 ((lenL out1)-1))++([v]:List Int))))))))
   (some (.out (.go out1)))) (0,([]:List (List Int)))) fun out =>
 some out
noncomputable def embed_Sequences (l':(List Int)) (r':T_embed_Run) (base:Int):Option (List (List Int)) :=
 bindO (embed_fits l' r') fun v =>
 iteO (!v)
  (some ([]:List (List Int)))
  (bindO (embed_Match l') fun v1 =>
   bindO (embed_runs r') fun v2 =>
   chk (inR .i64 ((lenL l')+1)) <|
   chk (makeOk 8 ((lenL l')+1) ((lenL l')+1)) <|
   cutO (loopO (fun ((v7,heads3):Int × List Int) =>
    iteO (decide (v7 < ((lenL l')+1)))
     (chk (0≤v7∧v7 < ((lenL l')+1)) <|
      chk (inR .i64 (v7+1)) <|
      some (.go ((v7+1),(setL heads3 v7 (-1)))))
     (some (.out (.go heads3)))) (0,(repL ((lenL l')+1) 0))) fun heads =>
   cutO (loopO (fun ((v6,heads2):Int × List Int) =>
    iteO (decide (v6 < (lenL v2)))
     (chk (0≤v6∧v6 < (lenL v2)) <|
      chk ((0:Int)≤0∧(0:Int) < (lenL (getL [] v2 (0+v6)))) <|
      chk (0≤(getL 0 (getL [] v2 (0+v6)) 0)∧(getL 0 (getL [] v2 (0+v6)) 0) < ((lenL l')+1)) <|
      chk (inR .i64 (v6+1)) <|
      some (.go ((v6+1),(setL heads2 (getL 0 (getL [] v2 (0+v6)) 0) v6))))
     (some (.out (.go heads2)))) (0,heads)) fun heads1 =>
   chk (makeOk 8 (lenL v2) (lenL v2)) <|
   chk (makeOk 1 (lenL v2) (lenL v2)) <|
   cutO (loopO (fun ((v4,behind1,joined1):Int × List Int × List Bool) =>
    iteO (decide (v4 < (lenL v2)))
     (chk (0≤v4∧v4 < (lenL v2)) <|
      chk (0≤v4∧v4 < (lenL v2)) <|
      chk (inR .i64 ((lenL (getL [] v2 (0+v4)))-1)) <|
      chk (0≤((lenL (getL [] v2 (0+v4)))-1)∧((lenL (getL [] v2 (0+v4)))-1) < (lenL (getL [] v2 (0+v4)))) <|
      let end':=(getL 0 (getL [] v2 (0+v4)) ((lenL (getL [] v2 (0+v4)))-1))
      chk (0≤end'∧end' < (lenL l')) <|
      bindO (embed_isolate (getL 0 l' end')) fun v5 =>
      iteO (!v5)
       (chk (inR .i64 (v4+1)) <|
        some (.go ((v4+1),(setL behind1 v4 (-1)),joined1)))
       (chk (0≤end'∧end' < (lenL v1)) <|
        chk (0≤(getL 0 v1 (0+end'))∧(getL 0 v1 (0+end')) < ((lenL l')+1)) <|
        let to:=(getL 0 heads1 (0+(getL 0 v1 (0+end'))))
        iteO (decide (0≤to))
         (chk (0≤v4∧v4 < (lenL v2)) <|
          chk (0≤to∧to < (lenL v2)) <|
          chk (inR .i64 (v4+1)) <|
          some (.go ((v4+1),(setL (setL behind1 v4 (-1)) v4 to),(setL joined1 to true))))
         (chk (inR .i64 (v4+1)) <|
          some (.go ((v4+1),(setL behind1 v4 (-1)),joined1)))))
     (some (.out (.go (behind1,joined1))))) (0,(repL (lenL v2) 0),(repL (lenL v2) false))) fun (behind,joined) =>
   cutO (loopO (fun ((v3,out1):Int × List (List Int)) =>
    iteO (decide (v3 < (lenL v2)))
     (cutO (chk (0≤v3∧v3 < (lenL v2)) <|
       iteO (getL false joined (0+v3))
        (some (.go out1))
        (cutO (loopO (fun ((at',seq1):Int × List Int) =>
          iteO (decide (0≤at'))
           (chk (0≤at'∧at' < (lenL v2)) <|
            chk (growOk 8 ((lenL seq1)+(lenL (getL [] v2 (0+at'))))) <|
            chk (0≤at'∧at' < (lenL v2)) <|
            let at'1:=(getL 0 behind (0+at'))
            some (.go (at'1,(seq1++(getL [] v2 (0+at'))))))
           (some (.out (.go seq1)))) (v3,([]:List Int))) fun seq =>
         chk (growOk 24 ((lenL out1)+1)) <|
         some (.go (out1++([seq]:List (List Int)))))) fun out2 =>
      chk (inR .i64 (v3+1)) <|
      some (.go ((v3+1),out2)))
     (some (.out (.go out1)))) (0,([]:List (List Int)))) fun out =>
   some out)
noncomputable def embed_Edges (l':(List Int)) (r':T_embed_Run) (base:Int) (seq:(List Int)):Option (Int × Int) :=
 bindO (embed_fits l' r') fun v =>
 iteO (if (!v)=true then true else ((lenL seq) == 0))
  (some (0,0))
  (cutO (loopO (fun (v6:Int) =>
    iteO (decide (v6 < (lenL seq)))
     (chk (0≤v6∧v6 < (lenL seq)) <|
      let at':=(getL 0 seq v6)
      iteO (if (decide (at' < 0))=true then true else (decide ((lenL l')≤at')))
       (some (.out (.out (0,0))))
       (chk (inR .i64 (v6+1)) <|
        some (.go (v6+1))))
     (some (.out (.go ())))) 0) fun (_:Unit) =>
   chk ((0:Int)≤0∧(0:Int) < (lenL seq)) <|
   chk (inR .i64 ((lenL seq)-1)) <|
   chk (0≤((lenL seq)-1)∧((lenL seq)-1) < (lenL seq)) <|
   let first:=(getL 0 seq 0)
   let last:=(getL 0 seq ((lenL seq)-1))
   bindO (embed_parity base) fun v1 =>
   bindO (embed_parity base) fun v1 =>
   cutO (chk (inR .i64 (first-1)) <|
    let i3:=(first-1)
    loopO (fun (i4:Int) =>
     iteO (decide (0≤i4))
      (chk (0≤i4∧i4 < (lenL r'.fRemoved)) <|
       iteO (!(getL false r'.fRemoved i4))
        (chk (0≤i4∧i4 < (lenL r'.fLevels)) <|
         let ahead1:=(getL 0 r'.fLevels i4)
         some (.out (.go ahead1)))
        (chk (inR .i64 (i4-1)) <|
         let i5:=(i4-1)
         some (.go i5)))
      (some (.out (.go v1)))) i3) fun ahead =>
   cutO (chk (0≤last∧last < (lenL l')) <|
    bindO (embed_isolate (getL 0 l' last)) fun v4 =>
    bindO (if (!(!v4))=true then embed_Match l' else some []) fun v5 =>
    chk ((!(!v4))=true→0≤last∧last < (lenL v5)) <|
    iteO (if (!v4)=true then true else (decide ((getL 0 v5 last) < (lenL l'))))
     (chk (inR .i64 (last+1)) <|
      let i:=(last+1)
      loopO (fun (i1:Int) =>
       iteO (decide (i1 < (lenL l')))
        (chk (0≤i1∧i1 < (lenL r'.fRemoved)) <|
         iteO (!(getL false r'.fRemoved i1))
          (chk (0≤i1∧i1 < (lenL r'.fLevels)) <|
           let behind1:=(getL 0 r'.fLevels i1)
           some (.out (.go behind1)))
          (chk (inR .i64 (i1+1)) <|
           let i2:=(i1+1)
           some (.go i2)))
        (some (.out (.go v1)))) i)
     (some (.go v1))) fun behind =>
   chk (0≤first∧first < (lenL r'.fLevels)) <|
   let level:=(getL 0 r'.fLevels first)
   bindO (embed_side (imaxI level ahead)) fun v2 =>
   bindO (embed_side (imaxI level behind)) fun v3 =>
   some (v2,v3))
noncomputable def lapwingref03_Ints (a:(List Int)) (b:(List Int)):Option Bool :=
 iteO (!((lenL a) == (lenL b)))
  (some false)
  (cutO (loopO (fun (i:Int) =>
    iteO (decide (i < (lenL a)))
     (chk (0≤i∧i < (lenL a)) <|
      chk (0≤i∧i < (lenL b)) <|
      iteO (!((getL 0 a i) == (getL 0 b i)))
       (some (.out (.out false)))
       (chk (inR .i64 (i+1)) <|
        let i1:=(i+1)
        some (.go i1)))
     (some (.out (.go ())))) 0) fun (_:Unit) =>
   some true)
noncomputable def weak_neutral (c':Int):Option Bool :=
 cutO (cutO (iteO (c' == 11)
   (some (.go (c' == 11)))
   (iteO (c' == 12)
    (some (.go (c' == 12)))
    (iteO (c' == 13)
     (some (.go (c' == 13)))
     (iteO (c' == 14)
      (some (.go (c' == 14)))
      (iteO (c' == 20)
       (some (.go (c' == 20)))
       (iteO (c' == 21)
        (some (.go (c' == 21)))
        (iteO (c' == 22)
         (some (.go (c' == 22)))
         (some (.go (c' == 23)))))))))) fun v =>
  iteO v
   (some (.out true))
   (some (.go ()))) fun (_:Unit) =>
 some false
noncomputable def weak_strong (c':Int):Option Int :=
 iteO (c' == 1)
  (some 1)
  (iteO (c' == 2)
   (iteO (c' == 2)
    (some 2)
    (some 0))
   (iteO (c' == 4)
    (iteO (c' == 4)
     (some 2)
     (some 0))
    (iteO (c' == 7)
     (some 2)
     (some 0))))
noncomputable def weak_Implicit (c':Int) (level:Int):Option Int :=
 let odd:=((bndI .i64 level 1) == 1)
 iteO (if odd=true then (if (if (c' == 1)=true then true else (c' == 4))=true then true else (c' == 7)) else false)
  (chk (inR .i64 (level+1)) <|
   some (level+1))
  (iteO (if (!odd)=true then (c' == 2) else false)
   (chk (inR .i64 (level+1)) <|
    some (level+1))
   (iteO (if (!odd)=true then (if (c' == 4)=true then true else (c' == 7)) else false)
    (chk (inR .i64 (level+2)) <|
     some (level+2))
    (some level)))
noncomputable def weak_classes (d':T_ucd_Data) (r':(List Int)):Option (List Int) :=
 chk (makeOk 8 (lenL r') (lenL r')) <|
 cutO (loopO (fun ((v,out1):Int × List Int) =>
  iteO (decide (v < (lenL r')))
   (chk (0≤v∧v < (lenL r')) <|
    let x':=(getL 0 r' v)
    bindO (ucd_Class d' x') fun v1 =>
    chk (0≤v∧v < (lenL r')) <|
    chk (inR .i64 (v+1)) <|
    some (.go ((v+1),(setL out1 v v1))))
   (some (.out (.go out1)))) (0,(repL (lenL r') 0))) fun out =>
 some out
noncomputable def weak_pick (l':(List Int)) (seq:(List Int)):Option (List Int) :=
 chk (makeOk 8 (lenL seq) (lenL seq)) <|
 cutO (loopO (fun ((v,out1):Int × List Int) =>
  iteO (decide (v < (lenL seq)))
   (chk (0≤v∧v < (lenL seq)) <|
    let at':=(getL 0 seq v)
    chk (0≤at'∧at' < (lenL l')) <|
    chk (0≤v∧v < (lenL seq)) <|
    chk (inR .i64 (v+1)) <|
    some (.go ((v+1),(setL out1 v (getL 0 l' at')))))
   (some (.out (.go out1)))) (0,(repL (lenL seq) 0))) fun out =>
 some out
noncomputable def weak_text__at (t':T_weak_text) (i:Int):Option Int :=
 iteO (if (decide (i < 0))=true then true else (decide ((lenL t'.fl)≤i)))
  (some 0)
  (chk (0≤i∧i < (lenL t'.fl)) <|
   some (getL 0 t'.fl i))
noncomputable def slices_Clone___int_int_ (s:(List Int)):Option (List Int) :=
 nilO (lenL s)
  (cutO (some (.out ([]:List Int))) fun (_:Unit) =>
   chk (growOk 8 (lenL s)) <|
   some s)
  (cutO (some (.go ())) fun (_:Unit) =>
   chk (growOk 8 (lenL s)) <|
   some s)
noncomputable def w1 (t':T_weak_text):Option (List Int) :=
 let ahead:=t'.fsos
 loopO (fun ((ahead1,v,o):Int × Int × List Int) =>
  iteO (decide (v < (lenL t'.fl)))
   (cutO (chk (0≤v∧v < (lenL t'.fl)) <|
     let c':=(getL 0 o (0+v))
     cutO (iteO (c' == 9)
      (chk (0≤v∧v < (lenL t'.fl)) <|
       some (.go (setL o v ahead1)))
      (some (.go o))) fun o2 =>
     chk (0≤v∧v < (lenL t'.fl)) <|
     let ahead3:=(getL 0 o2 (0+v))
     iteO (ahead3 == 20)
      (iteO (ahead3 == 20)
       (some (.go (14,o2)))
       (some (.go (ahead3,o2))))
      (iteO (ahead3 == 21)
       (iteO (ahead3 == 21)
        (some (.go (14,o2)))
        (some (.go (ahead3,o2))))
       (iteO (ahead3 == 22)
        (iteO (ahead3 == 22)
         (some (.go (14,o2)))
         (some (.go (ahead3,o2))))
        (iteO (ahead3 == 23)
         (some (.go (14,o2)))
         (some (.go (ahead3,o2))))))) fun (ahead2,o1) =>
    chk (inR .i64 (v+1)) <|
    some (.go (ahead2,(v+1),o1)))
   (some (.out o))) (ahead,0,t'.fl)
noncomputable def w2 (t':T_weak_text):Option (List Int) :=
 let last:=t'.fsos
 loopO (fun ((last1,v,o):Int × Int × List Int) =>
  iteO (decide (v < (lenL t'.fl)))
   (cutO (chk (0≤v∧v < (lenL t'.fl)) <|
     let c':=(getL 0 o (0+v))
     cutO (iteO (c' == 2)
      (some (.go (c' == 2)))
      (iteO (c' == 1)
       (some (.go (c' == 1)))
       (some (.go (c' == 3))))) fun v1 =>
     iteO v1
      (some (.go (c',o)))
      (iteO (c' == 4)
       (iteO (last1 == 3)
        (chk (0≤v∧v < (lenL t'.fl)) <|
         some (.go (last1,(setL o v 7))))
        (some (.go (last1,o))))
       (some (.go (last1,o))))) fun (last2,o1) =>
    chk (inR .i64 (v+1)) <|
    some (.go (last2,(v+1),o1)))
   (some (.out o))) (last,0,t'.fl)
noncomputable def w3 (t':T_weak_text):Option (List Int) :=
 loopO (fun ((v,o):Int × List Int) =>
  iteO (decide (v < (lenL t'.fl)))
   (chk (0≤v∧v < (lenL t'.fl)) <|
    let c':=(getL 0 o (0+v))
    iteO (c' == 3)
     (chk (0≤v∧v < (lenL t'.fl)) <|
      chk (inR .i64 (v+1)) <|
      some (.go ((v+1),(setL o v 2))))
     (chk (inR .i64 (v+1)) <|
      some (.go ((v+1),o))))
   (some (.out o))) (0,t'.fl)
noncomputable def w4 (t':T_weak_text):Option (List Int) :=
 loopO (fun ((v,o):Int × List Int) =>
  iteO (decide (v < (lenL t'.fl)))
   (chk (0≤v∧v < (lenL t'.fl)) <|
    let c':=(getL 0 o (0+v))
    chk (inR .i64 (v-1)) <|
    bindO (weak_text__at (T_weak_text.mk o t'.fsos) (v-1)) fun v1 =>
    chk (inR .i64 (v+1)) <|
    bindO (weak_text__at (T_weak_text.mk o t'.fsos) (v+1)) fun v2 =>
    iteO (!(v1 == v2))
     (chk (inR .i64 (v+1)) <|
      some (.go ((v+1),o)))
     (iteO (if (if (v1 == 4)=true then (if (c' == 5)=true then true else (c' == 8)) else false)=true then true else (if (v1 == 7)=true then (c' == 8) else false))
      (chk (0≤v∧v < (lenL t'.fl)) <|
       chk (inR .i64 (v+1)) <|
       some (.go ((v+1),(setL o v v1))))
      (chk (inR .i64 (v+1)) <|
       some (.go ((v+1),o)))))
   (some (.out o))) (0,t'.fl)
noncomputable def w5 (t':T_weak_text):Option (List Int) :=
 loopO (fun ((i,o):Int × List Int) =>
  iteO (decide (i < (lenL t'.fl)))
   (chk (0≤i∧i < (lenL t'.fl)) <|
    iteO (!((getL 0 o (0+i)) == 6))
     (chk (inR .i64 (i+1)) <|
      let i1:=(i+1)
      some (.go (i1,o)))
     (cutO (loopO (fun (end'1:Int) =>
       bindO (weak_text__at (T_weak_text.mk o t'.fsos) end'1) fun v2 =>
       iteO (v2 == 6)
        (chk (inR .i64 (end'1+1)) <|
         let end'2:=(end'1+1)
         some (.go end'2))
        (some (.out (.go end'1)))) i) fun end' =>
      cutO (chk (inR .i64 (i-1)) <|
       bindO (weak_text__at (T_weak_text.mk o t'.fsos) (i-1)) fun v =>
       bindO (if (!(v == 4))=true then weak_text__at (T_weak_text.mk o t'.fsos) end' else some 0) fun v1 =>
       iteO (if (v == 4)=true then true else (v1 == 4))
        (loopO (fun ((j,o2):Int × List Int) =>
         iteO (decide (j < end'))
          (chk (0≤j∧j < (lenL t'.fl)) <|
           chk (inR .i64 (j+1)) <|
           let j1:=(j+1)
           some (.go (j1,(setL o2 j 4))))
          (some (.out (.go o2)))) (i,o))
        (some (.go o))) fun o1 =>
      some (.go (end',o1))))
   (some (.out o))) (0,t'.fl)
noncomputable def w6 (t':T_weak_text):Option (List Int) :=
 loopO (fun ((v,o):Int × List Int) =>
  iteO (decide (v < (lenL t'.fl)))
   (chk (0≤v∧v < (lenL t'.fl)) <|
    let c':=(getL 0 o (0+v))
    iteO (c' == 5)
     (iteO (c' == 5)
      (chk (0≤v∧v < (lenL t'.fl)) <|
       chk (inR .i64 (v+1)) <|
       some (.go ((v+1),(setL o v 14))))
      (chk (inR .i64 (v+1)) <|
       some (.go ((v+1),o))))
     (iteO (c' == 6)
      (iteO (c' == 6)
       (chk (0≤v∧v < (lenL t'.fl)) <|
        chk (inR .i64 (v+1)) <|
        some (.go ((v+1),(setL o v 14))))
       (chk (inR .i64 (v+1)) <|
        some (.go ((v+1),o))))
      (iteO (c' == 8)
       (chk (0≤v∧v < (lenL t'.fl)) <|
        chk (inR .i64 (v+1)) <|
        some (.go ((v+1),(setL o v 14))))
       (chk (inR .i64 (v+1)) <|
        some (.go ((v+1),o))))))
   (some (.out o))) (0,t'.fl)
noncomputable def w7 (t':T_weak_text):Option (List Int) :=
 let last:=t'.fsos
 loopO (fun ((last1,v,o):Int × Int × List Int) =>
  iteO (decide (v < (lenL t'.fl)))
   (chk (0≤v∧v < (lenL t'.fl)) <|
    let c':=(getL 0 o (0+v))
    iteO (c' == 2)
     (iteO (c' == 2)
      (chk (inR .i64 (v+1)) <|
       some (.go (c',(v+1),o)))
      (iteO (c' == 4)
       (iteO (last1 == 1)
        (chk (0≤v∧v < (lenL t'.fl)) <|
         chk (inR .i64 (v+1)) <|
         some (.go (last1,(v+1),(setL o v 1))))
        (chk (inR .i64 (v+1)) <|
         some (.go (last1,(v+1),o))))
       (chk (inR .i64 (v+1)) <|
        some (.go (last1,(v+1),o)))))
     (iteO (c' == 1)
      (chk (inR .i64 (v+1)) <|
       some (.go (c',(v+1),o)))
      (iteO (c' == 4)
       (iteO (last1 == 1)
        (chk (0≤v∧v < (lenL t'.fl)) <|
         chk (inR .i64 (v+1)) <|
         some (.go (last1,(v+1),(setL o v 1))))
        (chk (inR .i64 (v+1)) <|
         some (.go (last1,(v+1),o))))
       (chk (inR .i64 (v+1)) <|
        some (.go (last1,(v+1),o))))))
   (some (.out o))) (last,0,t'.fl)
noncomputable def weak_Weak (l':(List Int)) (sos:Int):Option (List Int) :=
 bindO (slices_Clone___int_int_ l') fun v =>
 cutO (cutO (cutO (cutO (chk ((0:Int)≤0∧(0:Int) < 7) <|
     some (.go ())) fun (_:Unit) =>
    bindO (w1 (T_weak_text.mk v sos)) fun v7 =>
    chk (lenL v7=lenL v) <|
    some (.go v7)) fun o14 =>
   chk (inR .i64 (0+1)) <|
   some (.go o14)) fun o1 =>
  cutO (cutO (cutO (chk ((0:Int)≤1∧(1:Int) < 7) <|
     some (.go ())) fun (_:Unit) =>
    bindO (w2 (T_weak_text.mk o1 sos)) fun v6 =>
    chk (lenL v6=lenL o1) <|
    some (.go v6)) fun o13 =>
   chk (inR .i64 (1+1)) <|
   some (.go o13)) fun o2 =>
  cutO (cutO (cutO (chk ((0:Int)≤2∧(2:Int) < 7) <|
     some (.go ())) fun (_:Unit) =>
    bindO (w3 (T_weak_text.mk o2 sos)) fun v5 =>
    chk (lenL v5=lenL o2) <|
    some (.go v5)) fun o12 =>
   chk (inR .i64 (2+1)) <|
   some (.go o12)) fun o3 =>
  cutO (cutO (cutO (chk ((0:Int)≤3∧(3:Int) < 7) <|
     some (.go ())) fun (_:Unit) =>
    bindO (w4 (T_weak_text.mk o3 sos)) fun v4 =>
    chk (lenL v4=lenL o3) <|
    some (.go v4)) fun o11 =>
   chk (inR .i64 (3+1)) <|
   some (.go o11)) fun o4 =>
  cutO (cutO (cutO (chk ((0:Int)≤4∧(4:Int) < 7) <|
     some (.go ())) fun (_:Unit) =>
    bindO (w5 (T_weak_text.mk o4 sos)) fun v3 =>
    chk (lenL v3=lenL o4) <|
    some (.go v3)) fun o10 =>
   chk (inR .i64 (4+1)) <|
   some (.go o10)) fun o5 =>
  cutO (cutO (cutO (chk ((0:Int)≤5∧(5:Int) < 7) <|
     some (.go ())) fun (_:Unit) =>
    bindO (w6 (T_weak_text.mk o5 sos)) fun v2 =>
    chk (lenL v2=lenL o5) <|
    some (.go v2)) fun o9 =>
   chk (inR .i64 (5+1)) <|
   some (.go o9)) fun o6 =>
  cutO (cutO (cutO (chk ((0:Int)≤6∧(6:Int) < 7) <|
     some (.go ())) fun (_:Unit) =>
    bindO (w7 (T_weak_text.mk o6 sos)) fun v1 =>
    chk (lenL v1=lenL o6) <|
    some (.go v1)) fun o8 =>
   chk (inR .i64 (6+1)) <|
   some (.go o8)) fun o7 =>
  some (.go o7)) fun o =>
 some o
noncomputable def weak_line__direction (x':T_weak_line) (p':T_Arr2_i64):Option Int :=
 cutO (chk (inR .i64 (p'.x0+1)) <|
  chk (0≤(p'.x0+1)∧(p'.x0+1)≤p'.x1∧p'.x1≤(lenL x'.fl)) <|
  loopO (fun ((found1,v1):Bool × Int) =>
   iteO (decide (v1 < (p'.x1-(p'.x0+1))))
    (chk (0≤v1∧v1 < (lenL (subL x'.fl (p'.x0+1) p'.x1))) <|
     let c':=(getL 0 (subL x'.fl (p'.x0+1) p'.x1) v1)
     bindO (weak_strong c') fun v2 =>
     iteO (v2 == x'.fdir)
      (some (.out (.out x'.fdir)))
      (iteO (v2 == x'.fagainst)
       (chk (inR .i64 (v1+1)) <|
        some (.go (true,(v1+1))))
       (chk (inR .i64 (v1+1)) <|
        some (.go (found1,(v1+1))))))
    (some (.out (.go found1)))) (false,0)) fun found =>
 iteO (!found)
  (some 0)
  (let last:=x'.fsos
   cutO (chk (inR .i64 (p'.x0-1)) <|
    let i:=(p'.x0-1)
    loopO (fun (i1:Int) =>
     iteO (decide (0≤i1))
      (chk (0≤i1∧i1 < (lenL x'.fl)) <|
       bindO (weak_strong (getL 0 x'.fl i1)) fun v =>
       iteO (!(v == 0))
        (some (.out (.go v)))
        (chk (inR .i64 (i1-1)) <|
         let i2:=(i1-1)
         some (.go i2)))
      (some (.out (.go last)))) i) fun last1 =>
   iteO (last1 == x'.fagainst)
    (some x'.fagainst)
    (some x'.fdir))
noncomputable def weak_Pairs (d':T_ucd_Data) (r':(List Int)) (l':(List Int)):Option (List T_Arr2_i64) :=
 iteO (!((lenL r') == (lenL l')))
  (some ([]:List T_Arr2_i64))
  (cutO (loopO (fun ((open_off,open_n,v1,open',out1):Int × Int × Int × List Int × List T_Arr2_i64) =>
    iteO (decide (v1 < (lenL l')))
     (cutO (chk (0≤v1∧v1 < (lenL l')) <|
       let c':=(getL 0 l' v1)
       iteO (!(c' == 14))
        (some (.go (open_off,open_n,open',out1)))
        (chk (0≤v1∧v1 < (lenL r')) <|
         bindO (ucd_Bracket d' (getL 0 r' v1)) fun v2 =>
         let other:=v2.1
         let kind:=v2.2
         iteO (kind == 1)
          (iteO (open_n == 63)
           (some (.out (.out (.out ([]:List T_Arr2_i64)))))
           (chk (0≤open_off∧0≤open_n∧open_off+open_n≤lenL open') <|
            chk (growOk 8 (open_n+1)) <|
            some (.go (0,(open_n+1),((subL open' open_off (open_off+open_n))++([v1]:List Int)),out1))))
          (iteO (kind == 2)
           (chk (inR .i64 (open_n-1)) <|
            let n:=(open_n-1)
            loopO (fun (n1:Int) =>
             iteO (decide (0≤n1))
              (chk (0≤n1∧n1 < open_n) <|
               chk (0≤(getL 0 open' (open_off+n1))∧(getL 0 open' (open_off+n1)) < (lenL r')) <|
               iteO ((getL 0 r' (getL 0 open' (open_off+n1))) == other)
                (chk (0≤n1∧n1 < open_n) <|
                 chk (growOk 16 ((lenL out1)+1)) <|
                 chk ((0:Int)≤0∧(0:Int)≤n1∧n1≤open_n) <|
                 some (.out (.go ((open_off+0),(n1-0),open',(out1++([(T_Arr2_i64.mk (getL 0 open' (open_off+n1)) v1)]:List T_Arr2_i64))))))
                (chk (inR .i64 (n1-1)) <|
                 let n2:=(n1-1)
                 some (.go n2)))
              (some (.out (.go (open_off,open_n,open',out1))))) n)
           (some (.go (open_off,open_n,open',out1)))))) fun (open_off1,open_n1,open'1,out2) =>
      chk (inR .i64 (v1+1)) <|
      some (.go (open_off1,open_n1,(v1+1),open'1,out2)))
     (some (.out (.go out1)))) (0,0,0,([]:List Int),([]:List T_Arr2_i64))) fun out =>
   bindO (sortPairs out 0 (lenL out)) fun v =>
   chk (lenL v=lenL out) <|
   some v)
noncomputable def n0 (x':T_weak_line):Option (List Int) :=
 loopO (fun ((v,o):Int × List Int) =>
  iteO (decide (v < (lenL x'.fpairs)))
   (cutO (chk (0≤v∧v < (lenL x'.fpairs)) <|
     bindO (weak_line__direction (T_weak_line.mk o x'.fwas x'.fsos x'.feos x'.fdir x'.fagainst x'.fpairs) (getL d_Arr2_i64 x'.fpairs v)) fun v1 =>
     iteO (v1 == 0)
      (some (.go o))
      (cutO (cutO (let at'1:=(getL d_Arr2_i64 x'.fpairs v).x0
         chk (0≤at'1∧at'1 < (lenL x'.fl)) <|
         chk (inR .i64 (at'1+1)) <|
         let j3:=(at'1+1)
         loopO (fun ((j4,o7):Int × List Int) =>
          chk ((decide (j4 < (lenL x'.fl)))=true→0≤j4∧j4 < (lenL x'.fwas)) <|
          iteO (if (decide (j4 < (lenL x'.fl)))=true then ((getL 0 x'.fwas j4) == 9) else false)
           (chk (0≤j4∧j4 < (lenL x'.fl)) <|
            chk (inR .i64 (j4+1)) <|
            let j5:=(j4+1)
            some (.go (j5,(setL o7 j4 v1))))
           (some (.out (.go o7)))) (j3,(setL o at'1 v1))) fun o6 =>
        chk (inR .i64 (0+1)) <|
        some (.go o6)) fun o2 =>
       cutO (cutO (let at':=(getL d_Arr2_i64 x'.fpairs v).x1
         chk (0≤at'∧at' < (lenL x'.fl)) <|
         chk (inR .i64 (at'+1)) <|
         let j:=(at'+1)
         loopO (fun ((j1,o5):Int × List Int) =>
          chk ((decide (j1 < (lenL x'.fl)))=true→0≤j1∧j1 < (lenL x'.fwas)) <|
          iteO (if (decide (j1 < (lenL x'.fl)))=true then ((getL 0 x'.fwas j1) == 9) else false)
           (chk (0≤j1∧j1 < (lenL x'.fl)) <|
            chk (inR .i64 (j1+1)) <|
            let j2:=(j1+1)
            some (.go (j2,(setL o5 j1 v1))))
           (some (.out (.go o5)))) (j,(setL o2 at' v1))) fun o4 =>
        chk (inR .i64 (1+1)) <|
        some (.go o4)) fun o3 =>
       some (.go o3))) fun o1 =>
    chk (inR .i64 (v+1)) <|
    some (.go ((v+1),o1)))
   (some (.out o))) (0,x'.fl)
noncomputable def n12 (x':T_weak_line):Option (List Int) :=
 loopO (fun ((i,o):Int × List Int) =>
  iteO (decide (i < (lenL x'.fl)))
   (chk (0≤i∧i < (lenL x'.fl)) <|
    bindO (weak_neutral (getL 0 o (0+i))) fun v =>
    iteO (!v)
     (chk (inR .i64 (i+1)) <|
      let i1:=(i+1)
      some (.go (i1,o)))
     (cutO (loopO (fun (end'1:Int) =>
       chk ((decide (end'1 < (lenL x'.fl)))=true→0≤end'1∧end'1 < (lenL x'.fl)) <|
       bindO (if (decide (end'1 < (lenL x'.fl)))=true then weak_neutral (getL 0 o (0+end'1)) else some false) fun v3 =>
       iteO (if (decide (end'1 < (lenL x'.fl)))=true then v3 else false)
        (chk (inR .i64 (end'1+1)) <|
         let end'2:=(end'1+1)
         some (.go end'2))
        (some (.out (.go end'1)))) i) fun end' =>
      let ahead:=x'.fsos
      let behind:=x'.feos
      cutO (iteO (decide (0 < i))
       (chk (inR .i64 (i-1)) <|
        chk (0≤(i-1)∧(i-1) < (lenL x'.fl)) <|
        bindO (weak_strong (getL 0 o (0+(i-1)))) fun v2 =>
        some (.go v2))
       (some (.go ahead))) fun ahead1 =>
      cutO (iteO (decide (end' < (lenL x'.fl)))
       (chk (0≤end'∧end' < (lenL x'.fl)) <|
        bindO (weak_strong (getL 0 o (0+end'))) fun v1 =>
        some (.go v1))
       (some (.go behind))) fun behind1 =>
      let c':=x'.fdir
      cutO (iteO (if (ahead1 == behind1)=true then (!(ahead1 == 0)) else false)
       (some (.go ahead1))
       (some (.go c'))) fun c'1 =>
      loopO (fun ((i2,o1):Int × List Int) =>
       iteO (decide (i2 < end'))
        (chk (0≤i2∧i2 < (lenL x'.fl)) <|
         chk (inR .i64 (i2+1)) <|
         let i3:=(i2+1)
         some (.go (i3,(setL o1 i2 c'1))))
        (some (.out (.go (i2,o1))))) (i,o)))
   (some (.out o))) (0,x'.fl)
noncomputable def weak_Neutral (d':T_ucd_Data) (r':(List Int)) (was:(List Int)) (l':(List Int)) (level:Int) (sos:Int) (eos:Int):Option (List Int) :=
 bindO (slices_Clone___int_int_ l') fun v =>
 iteO (if (!((lenL r') == (lenL l')))=true then true else (!((lenL was) == (lenL l'))))
  (some v)
  (bindO (weak_Pairs d' r' l') fun v1 =>
   cutO (iteO ((bndI .i64 level 1) == 1)
    (some (.go (2,1)))
    (some (.go (1,2)))) fun (b16_4,b16_5) =>
   cutO (cutO (cutO (cutO (chk ((0:Int)≤0∧(0:Int) < 2) <|
       some (.go ())) fun (_:Unit) =>
      bindO (n0 (T_weak_line.mk v was sos eos b16_4 b16_5 v1)) fun v3 =>
      chk (lenL v3=lenL v) <|
      some (.go v3)) fun out4 =>
     chk (inR .i64 (0+1)) <|
     some (.go out4)) fun out1 =>
    cutO (cutO (cutO (chk ((0:Int)≤1∧(1:Int) < 2) <|
       some (.go ())) fun (_:Unit) =>
      bindO (n12 (T_weak_line.mk out1 was sos eos b16_4 b16_5 v1)) fun v2 =>
      chk (lenL v2=lenL out1) <|
      some (.go v2)) fun out3 =>
     chk (inR .i64 (1+1)) <|
     some (.go out3)) fun out2 =>
    some (.go out2)) fun out =>
   some out)
noncomputable def weak_levels (d':T_ucd_Data) (r':(List Int)) (l':(List Int)) (base:Int):Option (List Int) :=
 bindO (embed_Explicit l' base) fun v =>
 bindO (slices_Clone___int_int_ v.fLevels) fun v1 =>
 cutO (bindO (embed_Sequences l' v base) fun v3 =>
  loopO (fun ((v4,out5):Int × List Int) =>
   iteO (decide (v4 < (lenL v3)))
    (cutO (chk (0≤v4∧v4 < (lenL v3)) <|
      bindO (weak_pick v.fClasses (getL [] v3 (0+v4))) fun v5 =>
      chk ((0:Int)≤0∧(0:Int) < (lenL (getL [] v3 (0+v4)))) <|
      chk (0≤(getL 0 (getL [] v3 (0+v4)) 0)∧(getL 0 (getL [] v3 (0+v4)) 0) < (lenL v.fLevels)) <|
      let level:=(getL 0 v.fLevels (getL 0 (getL [] v3 (0+v4)) 0))
      bindO (embed_Edges l' v base (getL [] v3 (0+v4))) fun v6 =>
      let sos:=v6.1
      let eos:=v6.2
      bindO (weak_pick r' (getL [] v3 (0+v4))) fun v7 =>
      bindO (weak_Weak v5 sos) fun v8 =>
      bindO (weak_Neutral d' v7 v5 v8 level sos eos) fun v9 =>
      loopO (fun ((v10,out7):Int × List Int) =>
       iteO (decide (v10 < (lenL (getL [] v3 (0+v4)))))
        (chk (0≤v10∧v10 < (lenL (getL [] v3 (0+v4)))) <|
         let at':=(getL 0 (getL [] v3 (0+v4)) v10)
         chk (0≤v10∧v10 < (lenL v9)) <|
         bindO (weak_Implicit (getL 0 v9 (0+v10)) level) fun v11 =>
         chk (0≤at'∧at' < (lenL v1)) <|
         chk (inR .i64 (v10+1)) <|
         some (.go ((v10+1),(setL out7 at' v11))))
        (some (.out (.go out7)))) (0,out5)) fun out6 =>
     chk (inR .i64 (v4+1)) <|
     some (.go ((v4+1),out6)))
    (some (.out (.go out5)))) (0,v1)) fun out =>
 chk ((2:Int)≠0) <|
 let ahead:=(Int.tmod (imaxI base 0) 2)
 cutO (loopO (fun ((ahead1,v2,out2):Int × Int × List Int) =>
  iteO (decide (v2 < (lenL v.fRemoved)))
   (cutO (chk (0≤v2∧v2 < (lenL v.fRemoved)) <|
     let gone:=(getL false v.fRemoved v2)
     cutO (iteO gone
      (chk (0≤v2∧v2 < (lenL v1)) <|
       some (.go (setL out2 v2 ahead1)))
      (some (.go out2))) fun out4 =>
     chk (0≤v2∧v2 < (lenL v1)) <|
     let ahead3:=(getL 0 out4 (0+v2))
     some (.go (ahead3,out4))) fun (ahead2,out3) =>
    chk (inR .i64 (v2+1)) <|
    some (.go (ahead2,(v2+1),out3)))
   (some (.out (.go out2)))) (ahead,0,out)) fun out1 =>
 some out1
noncomputable def weak_Paragraph (d':T_ucd_Data) (r':(List Int)) (dir:Int):Option ((List Int) × Int) :=
 bindO (weak_classes d' r') fun v =>
 cutO (iteO (if (!(dir == 0))=true then (!(dir == 1)) else false)
  (bindO (embed_Base v) fun v2 =>
   some (.go v2))
  (some (.go dir))) fun base =>
 bindO (weak_levels d' r' v base) fun v1 =>
 some (v1,base)
noncomputable def pen_isColour (c':Int):Option Bool :=
 some (if (if (decide (0≤c'))=true then (decide (c'≤256)) else false)=true then true else (if (decide (16777216≤c'))=true then (decide (c' < 33554432)) else false))
noncomputable def pen_Sane (p':T_api_Pen):Option Bool :=
 bindO (pen_isColour p'.fFg) fun v =>
 bindO (if v=true then pen_isColour p'.fBg else some false) fun v1 =>
 some (if (if (if v=true then v1 else false)=true then (decide (0≤p'.fFlags)) else false)=true then (decide (p'.fFlags≤511)) else false)
noncomputable def row_fits (c':T_api_Cell):Option Bool :=
 cutO (cutO (let m1:=c'.fM.x0
   iteO (if (if (decide (m1 < 0))=true then true else (decide (1114111 < m1)))=true then true else (if (!(m1 == 0))=true then (c'.fR == 0) else false))
    (some (.out (.out false)))
    (chk (inR .i64 (0+1)) <|
     some (.go ()))) fun (_:Unit) =>
  cutO (let m:=c'.fM.x1
   iteO (if (if (decide (m < 0))=true then true else (decide (1114111 < m)))=true then true else (if (!(m == 0))=true then (c'.fR == 0) else false))
    (some (.out (.out false)))
    (chk (inR .i64 (1+1)) <|
     some (.go ()))) fun (_:Unit) =>
  some (.go ())) fun (_:Unit) =>
 bindO (if (!(if (if (decide (c'.fR < 0))=true then true else (decide (1114111 < c'.fR)))=true then true else (if (c'.fM.x0 == 0)=true then (!(c'.fM.x1 == 0)) else false)))=true then pen_Sane c'.fPen else some false) fun v =>
 iteO (if (if (if (decide (c'.fR < 0))=true then true else (decide (1114111 < c'.fR)))=true then true else (if (c'.fM.x0 == 0)=true then (!(c'.fM.x1 == 0)) else false))=true then true else (!v))
  (some false)
  (iteO (c'.fW == 0)
   (some (c'.fR == 0))
   (iteO (c'.fW == 1)
    (some true)
    (iteO (c'.fW == 2)
     (some (!(c'.fR == 0)))
     (some false))))
noncomputable def row_lost (l':(List T_api_Cell)) (i:Int):Option Bool :=
 chk (0≤i∧i < (lenL l')) <|
 iteO ((getL d_api_Cell l' i).fW == 0)
  (chk ((!(i == 0))=true→inR .i64 (i-1)) <|
   chk ((!(i == 0))=true→0≤(i-1)∧(i-1) < (lenL l')) <|
   some (if (i == 0)=true then true else (!((getL d_api_Cell l' (i-1)).fW == 2))))
  (iteO ((getL d_api_Cell l' i).fW == 2)
   (chk (inR .i64 (i+1)) <|
    chk ((!((i+1) == (lenL l')))=true→inR .i64 (i+1)) <|
    chk ((!((i+1) == (lenL l')))=true→0≤(i+1)∧(i+1) < (lenL l')) <|
    some (if ((i+1) == (lenL l'))=true then true else (!((getL d_api_Cell l' (i+1)).fW == 0))))
   (some false))
noncomputable def row_Sane (r':T_api_Row):Option Bool :=
 iteO (if (if (if (decide ((lenL r'.fCells) < 1))=true then true else (decide (4096 < (lenL r'.fCells))))=true then true else (decide (r'.fDir < 0)))=true then true else (decide (2 < r'.fDir)))
  (some false)
  (cutO (loopO (fun (v:Int) =>
    iteO (decide (v < (lenL r'.fCells)))
     (chk (0≤v∧v < (lenL r'.fCells)) <|
      bindO (row_fits (getL d_api_Cell r'.fCells v)) fun v1 =>
      bindO (if (!(!v1))=true then row_lost r'.fCells v else some false) fun v2 =>
      iteO (if (!v1)=true then true else v2)
       (some (.out (.out false)))
       (chk (inR .i64 (v+1)) <|
        some (.go (v+1))))
     (some (.out (.go ())))) 0) fun (_:Unit) =>
   some true)
noncomputable def view_sane (l':(List T_api_Row)):Option Bool :=
 cutO (loopO (fun (v:Int) =>
  iteO (decide (v < (lenL l')))
   (chk (0≤v∧v < (lenL l')) <|
    bindO (row_Sane (getL d_api_Row l' v)) fun v1 =>
    iteO (!v1)
     (some (.out (.out false)))
     (chk (inR .i64 (v+1)) <|
      some (.go (v+1))))
   (some (.out (.go ())))) 0) fun (_:Unit) =>
 some true
noncomputable def view_letters (r':T_api_Row):Option ((List Int) × (List Int)) :=
 cutO (loopO (fun ((v,out1,widths1):Int × List Int × List Int) =>
  iteO (decide (v < (lenL r'.fCells)))
   (chk (0≤v∧v < (lenL r'.fCells)) <|
    iteO ((getL d_api_Cell r'.fCells v).fW == 0)
     (chk (inR .i64 (v+1)) <|
      some (.go ((v+1),out1,widths1)))
     (let x':=(getL d_api_Cell r'.fCells v).fR
      iteO (x' == 0)
       (chk (growOk 8 ((lenL out1)+1)) <|
        chk (growOk 8 ((lenL widths1)+1)) <|
        chk (inR .i64 (v+1)) <|
        some (.go ((v+1),(out1++([32]:List Int)),(widths1++([(getL d_api_Cell r'.fCells v).fW]:List Int)))))
       (chk (growOk 8 ((lenL out1)+1)) <|
        chk (growOk 8 ((lenL widths1)+1)) <|
        chk (inR .i64 (v+1)) <|
        some (.go ((v+1),(out1++([x']:List Int)),(widths1++([(getL d_api_Cell r'.fCells v).fW]:List Int)))))))
   (some (.out (.go (out1,widths1))))) (0,([]:List Int),([]:List Int))) fun (out,widths) =>
 some (out,widths)
noncomputable def view_gather (l':(List T_api_Row)):Option (List Int) :=
 cutO (loopO (fun ((v,out1):Int × List Int) =>
  iteO (decide (v < (lenL l')))
   (chk (0≤v∧v < (lenL l')) <|
    bindO (view_letters (getL d_api_Row l' v)) fun v1 =>
    chk (growOk 8 ((lenL out1)+(lenL v1.1))) <|
    chk (inR .i64 (v+1)) <|
    some (.go ((v+1),(out1++v1.1))))
   (some (.out (.go out1)))) (0,([]:List Int))) fun out =>
 some out
noncomputable def view_place (l':(List Int)) (at':Int):Option Int :=
 iteO ((lenL l') == 0)
  (some 0)
  (chk (inR .i64 ((lenL l')-1)) <|
   chk (0≤(imaxI 0 (iminI at' ((lenL l')-1)))∧(imaxI 0 (iminI at' ((lenL l')-1))) < (lenL l')) <|
   some (getL 0 l' (imaxI 0 (iminI at' ((lenL l')-1)))))
noncomputable def slices_Reverse___int_int_ (s:List Int) (s_off:Int) (s_n:Int):Option (List Int) :=
 chk (0≤s_off∧0≤s_n∧s_off+s_n≤lenL s) <|
 chk (inR .i64 (s_n-1)) <|
 let j:=(s_n-1)
 loopO (fun ((i,j1,s1):Int × Int × List Int) =>
  iteO (decide (i < j1))
   (chk (0≤j1∧j1 < s_n) <|
    chk (0≤i∧i < s_n) <|
    chk (0≤i∧i < s_n) <|
    chk (0≤j1∧j1 < s_n) <|
    chk (inR .i64 (i+1)) <|
    chk (inR .i64 (j1-1)) <|
    let i1:=(i+1)
    let j2:=(j1-1)
    some (.go (i1,j2,(setL (setL s1 (s_off+i) (getL 0 s1 (s_off+j1))) (s_off+j1) (getL 0 s1 (s_off+i))))))
   (some (.out s1))) (0,j,s)
noncomputable def order_Visual (levels:(List Int)):Option (List Int) :=
 chk (makeOk 8 (lenL levels) (lenL levels)) <|
 chk (makeOk 8 (lenL levels) (lenL levels)) <|
 cutO (loopO (fun ((most1,least1,v1,l'1,out5):Int × Int × Int × List Int × List Int) =>
  iteO (decide (v1 < (lenL levels)))
   (chk (0≤v1∧v1 < (lenL levels)) <|
    let x':=(getL 0 levels v1)
    let x'1:=(imaxI 0 (iminI x' 127))
    chk (0≤v1∧v1 < (lenL levels)) <|
    chk (0≤v1∧v1 < (lenL levels)) <|
    let most2:=(imaxI most1 x'1)
    chk ((2:Int)≠0) <|
    iteO ((Int.tmod x'1 2) == 1)
     (let least2:=(iminI least1 x'1)
      chk (inR .i64 (v1+1)) <|
      some (.go (most2,least2,(v1+1),(setL l'1 v1 x'1),(setL out5 v1 v1))))
     (chk (inR .i64 (v1+1)) <|
      some (.go (most2,least1,(v1+1),(setL l'1 v1 x'1),(setL out5 v1 v1)))))
   (some (.out (.go (most1,least1,l'1,out5))))) (0,128,0,(repL (lenL levels) 0),(repL (lenL levels) 0))) fun (most,least,l',out) =>
 cutO (loopO (fun ((level,out2):Int × List Int) =>
  iteO (decide (least≤level))
   (cutO (loopO (fun ((from',out4):Int × List Int) =>
     iteO (decide (from' < (lenL levels)))
      (cutO (loopO (fun (to1:Int) =>
        chk ((decide (to1 < (lenL levels)))=true→0≤to1∧to1 < (lenL levels)) <|
        iteO (if (decide (to1 < (lenL levels)))=true then (decide (level≤(getL 0 l' (0+to1)))) else false)
         (chk (inR .i64 (to1+1)) <|
          let to2:=(to1+1)
          some (.go to2))
         (some (.out (.go to1)))) from') fun to =>
       chk (0≤from'∧from'≤to∧to≤(lenL levels)) <|
       bindO (slices_Reverse___int_int_ out4 (0+from') (to-from')) fun v =>
       chk (lenL v=lenL out4) <|
       chk (inR .i64 (to+1)) <|
       let from'1:=(to+1)
       some (.go (from'1,v)))
      (some (.out (.go out4)))) (0,out2)) fun out3 =>
    chk (inR .i64 (level-1)) <|
    let level1:=(level-1)
    some (.go (level1,out3)))
   (some (.out (.go out2)))) (most,out)) fun out1 =>
 some out1
noncomputable def order_passed (c':Int):Option Bool :=
 cutO (cutO (iteO (c' == 13)
   (some (.go (c' == 13)))
   (iteO (c' == 10)
    (some (.go (c' == 10)))
    (iteO (c' == 15)
     (some (.go (c' == 15)))
     (iteO (c' == 16)
      (some (.go (c' == 16)))
      (iteO (c' == 17)
       (some (.go (c' == 17)))
       (iteO (c' == 18)
        (some (.go (c' == 18)))
        (iteO (c' == 19)
         (some (.go (c' == 19)))
         (iteO (c' == 20)
          (some (.go (c' == 20)))
          (iteO (c' == 21)
           (some (.go (c' == 21)))
           (iteO (c' == 22)
            (some (.go (c' == 22)))
            (some (.go (c' == 23))))))))))))) fun v =>
  iteO v
   (some (.out true))
   (some (.go ()))) fun (_:Unit) =>
 some false
noncomputable def order_Cells (levels:(List Int)) (widths:(List Int)):Option ((List Int) × Bool) :=
 iteO (!((lenL levels) == (lenL widths)))
  (some (([]:List Int),false))
  (chk (makeOk 8 (lenL widths) (lenL widths)) <|
   cutO (loopO (fun ((n1,v3,starts1):Int × Int × List Int) =>
    iteO (decide (v3 < (lenL widths)))
     (chk (0≤v3∧v3 < (lenL widths)) <|
      let w:=(getL 0 widths v3)
      iteO (if (!(w == 1))=true then (!(w == 2)) else false)
       (some (.out (.out (([]:List Int),false))))
       (chk (0≤v3∧v3 < (lenL widths)) <|
        chk (inR .i64 (n1+w)) <|
        let n2:=(n1+w)
        chk (inR .i64 (v3+1)) <|
        some (.go (n2,(v3+1),(setL starts1 v3 n1)))))
     (some (.out (.go (n1,starts1))))) (0,0,(repL (lenL widths) 0))) fun (n,starts) =>
   chk (makeOk 8 0 n) <|
   cutO (bindO (order_Visual levels) fun v =>
    loopO (fun ((v1,out1):Int × List Int) =>
     iteO (decide (v1 < (lenL v)))
      (cutO (chk (0≤v1∧v1 < (lenL v)) <|
        let i:=(getL 0 v (0+v1))
        chk (0≤i∧i < (lenL widths)) <|
        loopO (fun ((v2,out3):Int × List Int) =>
         iteO (decide (v2 < (getL 0 widths i)))
          (chk (0≤i∧i < (lenL widths)) <|
           chk (inR .i64 ((getL 0 starts (0+i))+v2)) <|
           chk (growOk 8 ((lenL out3)+1)) <|
           chk (inR .i64 (v2+1)) <|
           some (.go ((v2+1),(out3++([((getL 0 starts (0+i))+v2)]:List Int)))))
          (some (.out (.go out3)))) (0,out1)) fun out2 =>
       chk (inR .i64 (v1+1)) <|
       some (.go ((v1+1),out2)))
      (some (.out (.go out1)))) (0,(repL 0 0))) fun out =>
   some (out,true))
noncomputable def order_Invert (l':(List Int)):Option ((List Int) × Bool) :=
 chk (makeOk 8 (lenL l') (lenL l')) <|
 cutO (loopO (fun ((v1,out3):Int × List Int) =>
  iteO (decide (v1 < (lenL l')))
   (chk (0≤v1∧v1 < (lenL l')) <|
    chk (inR .i64 (v1+1)) <|
    some (.go ((v1+1),(setL out3 v1 (-1)))))
   (some (.out (.go out3)))) (0,(repL (lenL l') 0))) fun out =>
 cutO (loopO (fun ((v,out2):Int × List Int) =>
  iteO (decide (v < (lenL l')))
   (chk (0≤v∧v < (lenL l')) <|
    let x':=(getL 0 l' v)
    chk ((!(if (decide (x' < 0))=true then true else (decide ((lenL l')≤x'))))=true→0≤x'∧x' < (lenL l')) <|
    iteO (if (if (decide (x' < 0))=true then true else (decide ((lenL l')≤x')))=true then true else (decide (0≤(getL 0 out2 (0+x')))))
     (some (.out (.out (([]:List Int),false))))
     (chk (0≤x'∧x' < (lenL l')) <|
      chk (inR .i64 (v+1)) <|
      some (.go ((v+1),(setL out2 x' v)))))
   (some (.out (.go out2)))) (0,out)) fun out1 =>
 some (out1,true)
noncomputable def view_lay (cells:(List T_api_Cell)) (levels:(List Int)) (widths:(List Int)) (base:Int):Option T_view_Line :=
 bindO (order_Cells levels widths) fun v =>
 bindO (order_Invert v.1) fun v1 =>
 chk (makeOk 56 (lenL v.1) (lenL v.1)) <|
 cutO (loopO (fun ((v2,o1):Int × List T_api_Cell) =>
  iteO (decide (v2 < (lenL v.1)))
   (chk (0≤v2∧v2 < (lenL v.1)) <|
    let at':=(getL 0 v.1 v2)
    chk (0≤at'∧at' < (lenL cells)) <|
    chk (0≤v2∧v2 < (lenL v.1)) <|
    chk (inR .i64 (v2+1)) <|
    some (.go ((v2+1),(setL o1 v2 (getL d_api_Cell cells at')))))
   (some (.out (.go o1)))) (0,(repL (lenL v.1) d_api_Cell))) fun o =>
 some (T_view_Line.mk v.1 v1.1 o base)
noncomputable def view_fixed (r':T_api_Row):Option T_view_Line :=
 bindO (view_letters r') fun v =>
 chk (makeOk 8 (lenL v.1) (lenL v.1)) <|
 iteO (!(r'.fDir == 1))
  (bindO (view_lay r'.fCells (repL (lenL v.1) 0) v.2 0) fun v1 =>
   some v1)
  (cutO (loopO (fun ((v3,levels1):Int × List Int) =>
    iteO (decide (v3 < (lenL v.1)))
     (chk (0≤v3∧v3 < (lenL v.1)) <|
      chk (inR .i64 (v3+1)) <|
      some (.go ((v3+1),(setL levels1 v3 1))))
     (some (.out (.go levels1)))) (0,(repL (lenL v.1) 0))) fun levels =>
   bindO (view_lay r'.fCells levels v.2 1) fun v2 =>
   some v2)
noncomputable def order_Reset (d':T_ucd_Data) (r':(List Int)) (levels:(List Int)) (base:Int):Option (List Int) :=
 bindO (slices_Clone___int_int_ levels) fun v =>
 iteO (!((lenL r') == (lenL levels)))
  (some v)
  (cutO (chk (inR .i64 ((lenL r')-1)) <|
    let i:=((lenL r')-1)
    loopO (fun ((end',i1,out1):Bool × Int × List Int) =>
     iteO (decide (0≤i1))
      (chk (0≤i1∧i1 < (lenL r')) <|
       bindO (ucd_Class d' (getL 0 r' i1)) fun v1 =>
       iteO (if (v1 == 11)=true then true else (v1 == 12))
        (chk (0≤i1∧i1 < (lenL v)) <|
         chk (inR .i64 (i1-1)) <|
         let i2:=(i1-1)
         some (.go (true,i2,(setL out1 i1 base))))
        (bindO (order_passed v1) fun v2 =>
         iteO (!v2)
          (chk (inR .i64 (i1-1)) <|
           let i3:=(i1-1)
           some (.go (false,i3,out1)))
          (iteO end'
           (chk (0≤i1∧i1 < (lenL v)) <|
            chk (inR .i64 (i1-1)) <|
            let i4:=(i1-1)
            some (.go (end',i4,(setL out1 i1 base))))
           (chk (inR .i64 (i1-1)) <|
            let i5:=(i1-1)
            some (.go (end',i5,out1))))))
      (some (.out (.go out1)))) (true,i,v)) fun out =>
   some out)
noncomputable def ucd_Mirror (d':T_ucd_Data) (r':Int):Option Int :=
 cutO (loopO (fun (v:Int) =>
  iteO (decide (v < (lenL d'.fMirror)))
   (chk (0≤v∧v < (lenL d'.fMirror)) <|
    iteO (r' == (getL d_ucd_Pair d'.fMirror v).fA)
     (some (.out (.out (getL d_ucd_Pair d'.fMirror v).fB)))
     (iteO (r' == (getL d_ucd_Pair d'.fMirror v).fB)
      (some (.out (.out (getL d_ucd_Pair d'.fMirror v).fA)))
      (chk (inR .i64 (v+1)) <|
       some (.go (v+1)))))
   (some (.out (.go ())))) 0) fun (_:Unit) =>
 some r'
noncomputable def ucd_Ligature (lam:Int) (alef:Int) (final:Bool):Option (Int × Bool) :=
 iteO (!(lam == 1604))
  (some (0,false))
  (iteO (alef == 1570)
   (iteO final
    (chk (inR .i64 (65269+1)) <|
     let r':=(65269+1)
     some (r',true))
    (some (65269,true)))
   (iteO (alef == 1571)
    (iteO final
     (chk (inR .i64 (65271+1)) <|
      let r'1:=(65271+1)
      some (r'1,true))
     (some (65271,true)))
    (iteO (alef == 1573)
     (iteO final
      (chk (inR .i64 (65273+1)) <|
       let r'2:=(65273+1)
       some (r'2,true))
      (some (65273,true)))
     (iteO (alef == 1575)
      (iteO final
       (chk (inR .i64 (65275+1)) <|
        let r'3:=(65275+1)
        some (r'3,true))
       (some (65275,true)))
      (some (0,false))))))
noncomputable def ucd_Shape (d':T_ucd_Data) (r':Int) (which:Int):Option Int :=
 iteO (if (decide (which < 0))=true then true else (decide (3 < which)))
  (some r')
  (cutO (loopO (fun (v:Int) =>
    iteO (decide (v < (lenL d'.fForms)))
     (chk (0≤v∧v < (lenL d'.fForms)) <|
      iteO (!((getL d_ucd_Form d'.fForms v).fR == r'))
       (chk (inR .i64 (v+1)) <|
        some (.go (v+1)))
       (iteO ((getL d_ucd_Form d'.fForms v).fN == 4)
        (chk (inR .i64 ((getL d_ucd_Form d'.fForms v).fAt+which)) <|
         some (.out (.out ((getL d_ucd_Form d'.fForms v).fAt+which))))
        (iteO (if ((getL d_ucd_Form d'.fForms v).fN == 2)=true then (if (which == 1)=true then true else (which == 3)) else false)
         (chk (inR .i64 ((getL d_ucd_Form d'.fForms v).fAt+1)) <|
          some (.out (.out ((getL d_ucd_Form d'.fForms v).fAt+1))))
         (some (.out (.out (getL d_ucd_Form d'.fForms v).fAt))))))
     (some (.out (.go ())))) 0) fun (_:Unit) =>
   some r')
noncomputable def ucd_Join (d':T_ucd_Data) (r':Int):Option Int :=
 bindO (ranges_Get d'.fJoin r') fun v =>
 some v
noncomputable def shape_Before (d':T_ucd_Data) (r':(List Int)) (at':Int):Option Int :=
 iteO (if (decide (at' < 0))=true then true else (decide ((lenL r')≤at')))
  (some (-1))
  (cutO (chk (inR .i64 (at'-1)) <|
    let i:=(at'-1)
    loopO (fun (i1:Int) =>
     iteO (decide (0≤i1))
      (chk (0≤i1∧i1 < (lenL r')) <|
       bindO (ucd_Join d' (getL 0 r' i1)) fun v =>
       iteO (!(v == 4))
        (some (.out (.out i1)))
        (chk (inR .i64 (i1-1)) <|
         let i2:=(i1-1)
         some (.go i2)))
      (some (.out (.go ())))) i) fun (_:Unit) =>
   some (-1))
noncomputable def shape_After (d':T_ucd_Data) (r':(List Int)) (at':Int):Option Int :=
 iteO (if (decide (at' < 0))=true then true else (decide ((lenL r')≤at')))
  (some (-1))
  (cutO (chk (inR .i64 (at'+1)) <|
    let i:=(at'+1)
    loopO (fun (i1:Int) =>
     iteO (decide (i1 < (lenL r')))
      (chk (0≤i1∧i1 < (lenL r')) <|
       bindO (ucd_Join d' (getL 0 r' i1)) fun v =>
       iteO (!(v == 4))
        (some (.out (.out i1)))
        (chk (inR .i64 (i1+1)) <|
         let i2:=(i1+1)
         some (.go i2)))
      (some (.out (.go ())))) i) fun (_:Unit) =>
   some (-1))
noncomputable def shape_Mirror (d':T_ucd_Data) (r':Int) (level:Int) (boxes:Bool):Option Int :=
 iteO (if ((bndI .i64 level 1) == 0)=true then true else (if (if (decide (9472≤r'))=true then (decide (r'≤9631)) else false)=true then (!boxes) else false))
  (some r')
  (bindO (ucd_Mirror d' r') fun v =>
   some v)
noncomputable def shape_Forms_1 (at':Int) (side:Int) (cap0:(List (Int × Int))) (cap1:T_ucd_Data) (cap2:(List Int)):Option Bool :=
 chk ((decide (0≤at'))=true→0≤at'∧at' < (lenL cap2)) <|
 bindO (if (decide (0≤at'))=true then ucd_Join cap1 (getL 0 cap2 at') else some 0) fun v =>
 some (if (decide (0≤at'))=true then (!((bndI .i64 (mgetI cap0 v) side) == 0)) else false)
noncomputable def shape_Forms (d':T_ucd_Data) (r':(List Int)):Option (List Int) :=
 bindO (shape_sides) fun v =>
 chk (makeOk 8 (lenL r') (lenL r')) <|
 cutO (loopO (fun ((v1,out1):Int × List Int) =>
  iteO (decide (v1 < (lenL r')))
   (bindO (shape_Forms_1 v1 1 v d' r') fun v2 =>
    bindO (if v2=true then shape_Before d' r' v1 else some 0) fun v3 =>
    bindO (if v2=true then shape_Forms_1 v3 2 v d' r' else some false) fun v4 =>
    let first:=(if v2=true then v4 else false)
    bindO (shape_Forms_1 v1 2 v d' r') fun v5 =>
    bindO (if v5=true then shape_After d' r' v1 else some 0) fun v6 =>
    bindO (if v5=true then shape_Forms_1 v6 1 v d' r' else some false) fun v7 =>
    let second:=(if v5=true then v7 else false)
    iteO (if first=true then second else false)
     (chk (0≤v1∧v1 < (lenL r')) <|
      chk (inR .i64 (v1+1)) <|
      some (.go ((v1+1),(setL out1 v1 3))))
     (iteO first
      (chk (0≤v1∧v1 < (lenL r')) <|
       chk (inR .i64 (v1+1)) <|
       some (.go ((v1+1),(setL out1 v1 1))))
      (iteO second
       (chk (0≤v1∧v1 < (lenL r')) <|
        chk (inR .i64 (v1+1)) <|
        some (.go ((v1+1),(setL out1 v1 2))))
       (chk (0≤v1∧v1 < (lenL r')) <|
        chk (inR .i64 (v1+1)) <|
        some (.go ((v1+1),(setL out1 v1 0)))))))
   (some (.out (.go out1)))) (0,(repL (lenL r') 0))) fun out =>
 some out
noncomputable def shape_Glyphs (d':T_ucd_Data) (r':(List Int)) (levels:(List Int)) (boxes:Bool):Option (List Int) :=
 bindO (slices_Clone___int_int_ r') fun v =>
 iteO (!((lenL r') == (lenL levels)))
  (some v)
  (bindO (shape_Forms d' r') fun v1 =>
   cutO (loopO (fun ((v5,out3):Int × List Int) =>
    iteO (decide (v5 < (lenL r')))
     (cutO (cutO (chk (0≤v5∧v5 < (lenL r')) <|
        let x'1:=(getL 0 r' v5)
        chk (0≤v5∧v5 < (lenL v1)) <|
        bindO (ucd_Shape d' x'1 (getL 0 v1 (0+v5))) fun v7 =>
        chk (0≤v5∧v5 < (lenL v)) <|
        some (.go (setL out3 v5 v7))) fun out5 =>
       chk (0≤v5∧v5 < (lenL v)) <|
       iteO ((getL 0 out5 (0+v5)) == (getL 0 r' v5))
        (chk (0≤v5∧v5 < (lenL levels)) <|
         bindO (shape_Mirror d' (getL 0 r' v5) (getL 0 levels v5) boxes) fun v6 =>
         chk (0≤v5∧v5 < (lenL v)) <|
         some (.go (setL out5 v5 v6)))
        (some (.go out5))) fun out4 =>
      chk (inR .i64 (v5+1)) <|
      some (.go ((v5+1),out4)))
     (some (.out (.go out3)))) (0,v)) fun out =>
   cutO (loopO (fun ((v2,out2):Int × List Int) =>
    iteO (decide (v2 < (lenL r')))
     (chk (0≤v2∧v2 < (lenL r')) <|
      let x':=(getL 0 r' v2)
      bindO (shape_After d' r' v2) fun v3 =>
      iteO (if (!(x' == 1604))=true then true else (decide (v3 < 0)))
       (chk (inR .i64 (v2+1)) <|
        some (.go ((v2+1),out2)))
       (chk (0≤v2∧v2 < (lenL v1)) <|
        chk ((!((getL 0 v1 (0+v2)) == 1))=true→0≤v2∧v2 < (lenL v1)) <|
        let final:=(if ((getL 0 v1 (0+v2)) == 1)=true then true else ((getL 0 v1 (0+v2)) == 3))
        chk (0≤v3∧v3 < (lenL r')) <|
        bindO (ucd_Ligature x' (getL 0 r' v3) final) fun v4 =>
        let g':=v4.1
        let ok:=v4.2
        iteO ok
         (chk (0≤v2∧v2 < (lenL v)) <|
          chk (0≤v3∧v3 < (lenL v)) <|
          chk (inR .i64 (v2+1)) <|
          some (.go ((v2+1),(setL (setL out2 v2 g') v3 0))))
         (chk (inR .i64 (v2+1)) <|
          some (.go ((v2+1),out2)))))
     (some (.out (.go out2)))) (0,out)) fun out1 =>
   some out1)
noncomputable def view_read (d':T_ucd_Data) (l':(List T_api_Row)) (from':Int) (to:Int) (boxes:Bool):Option T_view_paragraph :=
 chk (0≤from'∧from'≤to∧to≤(lenL l')) <|
 bindO (view_gather (subL l' from' to)) fun v =>
 chk (0≤from'∧from' < (lenL l')) <|
 bindO (weak_Paragraph d' v (getL d_api_Row l' from').fDir) fun v1 =>
 let base:=v1.2
 bindO (shape_Glyphs d' v v1.1 boxes) fun v2 =>
 some (T_view_paragraph.mk from' to v1.1 v2 base)
noncomputable def view_see (d':T_ucd_Data) (l':(List T_api_Row)) (y':Int) (p':T_view_paragraph):Option T_view_Line :=
 chk (0≤p'.ffrom∧p'.ffrom≤y'∧y'≤(lenL l')) <|
 bindO (view_gather (subL l' p'.ffrom y')) fun v =>
 let start:=(lenL v)
 chk (0≤y'∧y' < (lenL l')) <|
 bindO (view_letters (getL d_api_Row l' y')) fun v1 =>
 chk (inR .i64 (start+(lenL v1.1))) <|
 chk (0≤start∧start≤(start+(lenL v1.1))∧(start+(lenL v1.1))≤(lenL p'.flevels)) <|
 bindO (order_Reset d' v1.1 (subL p'.flevels start (start+(lenL v1.1))) p'.fbase) fun v2 =>
 chk (0≤y'∧y' < (lenL l')) <|
 chk (makeOk 56 (lenL (getL d_api_Row l' y').fCells) (lenL (getL d_api_Row l' y').fCells)) <|
 cutO (chk (0≤y'∧y' < (lenL l')) <|
  loopO (fun ((n,v4,cells1):Int × Int × List T_api_Cell) =>
   iteO (decide (v4 < (lenL (getL d_api_Row l' y').fCells)))
    (chk (0≤v4∧v4 < (lenL (getL d_api_Row l' y').fCells)) <|
     iteO (!((getL d_api_Cell (getL d_api_Row l' y').fCells v4).fW == 0))
      (iteO (!((getL d_api_Cell (getL d_api_Row l' y').fCells v4).fR == 0))
       (chk (0≤n∧n < (lenL p'.fglyphs)) <|
        chk (inR .i64 (n+1)) <|
        let n1:=(n+1)
        chk (0≤v4∧v4 < (lenL (getL d_api_Row l' y').fCells)) <|
        chk (inR .i64 (v4+1)) <|
        some (.go (n1,(v4+1),(setL cells1 v4 (T_api_Cell.mk (getL 0 p'.fglyphs n) (getL d_api_Cell (getL d_api_Row l' y').fCells v4).fM (getL d_api_Cell (getL d_api_Row l' y').fCells v4).fW (getL d_api_Cell (getL d_api_Row l' y').fCells v4).fPen)))))
       (chk (inR .i64 (n+1)) <|
        let n2:=(n+1)
        chk (0≤v4∧v4 < (lenL (getL d_api_Row l' y').fCells)) <|
        chk (inR .i64 (v4+1)) <|
        some (.go (n2,(v4+1),(setL cells1 v4 (getL d_api_Cell (getL d_api_Row l' y').fCells v4))))))
      (chk (0≤v4∧v4 < (lenL (getL d_api_Row l' y').fCells)) <|
       chk (inR .i64 (v4+1)) <|
       some (.go (n,(v4+1),(setL cells1 v4 (getL d_api_Cell (getL d_api_Row l' y').fCells v4))))))
    (some (.out (.go cells1)))) (start,0,(repL (lenL (getL d_api_Row l' y').fCells) d_api_Cell))) fun cells =>
 bindO (view_lay cells v2 v1.2 p'.fbase) fun v3 =>
 some v3
noncomputable def view_Chain (l':(List T_api_Row)) (y':Int):Option (Int × Int × Bool) :=
 bindO (if (!(if (decide (y' < 0))=true then true else (decide ((lenL l')≤y'))))=true then view_sane l' else some false) fun v =>
 iteO (if (if (decide (y' < 0))=true then true else (decide ((lenL l')≤y')))=true then true else (!v))
  (some (0,0,false))
  (bindO (view_chain l' y') fun v1 =>
   let from':=v1.1
   let to:=v1.2
   some (from',to,true))
noncomputable def view_Paragraph (d':T_ucd_Data) (l':(List T_api_Row)) (y':Int):Option ((List Int) × (List Int) × Int) :=
 bindO (view_Chain l' y') fun v =>
 let from':=v.1
 let to:=v.2.1
 let ok:=v.2.2
 iteO (!ok)
  (some (([]:List Int),([]:List Int),0))
  (chk (0≤from'∧from'≤to∧to≤(lenL l')) <|
   bindO (view_gather (subL l' from' to)) fun v1 =>
   chk (0≤from'∧from' < (lenL l')) <|
   bindO (weak_Paragraph d' v1 (getL d_api_Row l' from').fDir) fun v2 =>
   let base:=v2.2
   some (v1,v2.1,base))
noncomputable def view_Map (d':T_ucd_Data) (l':(List T_api_Row)) (y':Int) (boxes:Bool):Option (T_view_Line × Bool) :=
 bindO (if (!(if (decide (y' < 0))=true then true else (decide ((lenL l')≤y'))))=true then view_sane l' else some false) fun v =>
 iteO (if (if (decide (y' < 0))=true then true else (decide ((lenL l')≤y')))=true then true else (!v))
  (some (d_view_Line,false))
  (chk (0≤y'∧y' < (lenL l')) <|
   iteO (getL d_api_Row l' y').fExplicit
    (chk (0≤y'∧y' < (lenL l')) <|
     bindO (view_fixed (getL d_api_Row l' y')) fun v1 =>
     some (v1,true))
    (bindO (view_chain l' y') fun v2 =>
     let from':=v2.1
     let to:=v2.2
     bindO (view_read d' l' from' to boxes) fun v3 =>
     bindO (view_see d' l' y' v3) fun v4 =>
     some (v4,true)))
noncomputable def view_All (d':T_ucd_Data) (l':(List T_api_Row)) (boxes:Bool):Option (List T_view_Line) :=
 bindO (view_sane l') fun v =>
 iteO (!v)
  (some ([]:List T_view_Line))
  (chk (makeOk 80 (lenL l') (lenL l')) <|
   cutO (loopO (fun ((v1,out1,b8_0,b8_1,b8_2,b8_3,b8_4):Int × List T_view_Line × Int × Int × List Int × List Int × Int) =>
    iteO (decide (v1 < (lenL l')))
     (cutO (chk (0≤v1∧v1 < (lenL l')) <|
       iteO (getL d_api_Row l' v1).fExplicit
        (bindO (view_fixed (getL d_api_Row l' v1)) fun v2 =>
         chk (0≤v1∧v1 < (lenL l')) <|
         some (.go ((setL out1 v1 v2),b8_0,b8_1,b8_2,b8_3,b8_4)))
        (cutO (bindO (view_chain l' v1) fun v4 =>
          let from':=v4.1
          let to:=v4.2
          iteO (if (!(from' == b8_0))=true then true else (!(to == b8_1)))
           (bindO (view_read d' l' from' to boxes) fun v5 =>
            some (.go (v5.ffrom,v5.fto,v5.flevels,v5.fglyphs,v5.fbase)))
           (some (.go (b8_0,b8_1,b8_2,b8_3,b8_4)))) fun (b8_02,b8_12,b8_22,b8_32,b8_42) =>
         bindO (view_see d' l' v1 (T_view_paragraph.mk b8_02 b8_12 b8_22 b8_32 b8_42)) fun v3 =>
         chk (0≤v1∧v1 < (lenL l')) <|
         some (.go ((setL out1 v1 v3),b8_02,b8_12,b8_22,b8_32,b8_42)))) fun (out2,b8_01,b8_11,b8_21,b8_31,b8_41) =>
      chk (inR .i64 (v1+1)) <|
      some (.go ((v1+1),out2,b8_01,b8_11,b8_21,b8_31,b8_41)))
     (some (.out (.go out1)))) (0,(repL (lenL l') d_view_Line),0,0,([]:List Int),([]:List Int),0)) fun out =>
   some out)
noncomputable def view_Cursor (x':T_view_Line) (at':Int):Option Int :=
 bindO (view_place x'.fL2V at') fun v =>
 some v
noncomputable def view_Back (x':T_view_Line) (at':Int):Option Int :=
 bindO (view_place x'.fV2L at') fun v =>
 some v
noncomputable def lapwingref07_Parts (c':Int):Option (Int × Int × Int × Int) :=
 iteO (c' == 0)
  (some (0,0,0,0))
  (iteO (if (decide (1≤c'))=true then (decide (c'≤256)) else false)
   (chk (inR .i64 (c'-1)) <|
    some (1,(c'-1),0,0))
   (iteO (if (decide (16777216≤c'))=true then (decide (c' < 33554432)) else false)
    (chk ((65536:Int)≠0) <|
     chk (inR .i64 (Int.tdiv c' 65536)) <|
     chk ((256:Int)≠0) <|
     chk ((256:Int)≠0) <|
     chk (inR .i64 (Int.tdiv c' 256)) <|
     chk ((256:Int)≠0) <|
     chk ((256:Int)≠0) <|
     some (2,(Int.tmod (Int.tdiv c' 65536) 256),(Int.tmod (Int.tdiv c' 256) 256),(Int.tmod c' 256)))
    (some (3,0,0,0))))
noncomputable def lapwingref07_Sane (p':T_api_Pen):Option Bool :=
 bindO (lapwingref07_Parts p'.fFg) fun v =>
 let f':=v.1
 let _:=v.2.1
 let _1:=v.2.2.1
 let _2:=v.2.2.2
 bindO (lapwingref07_Parts p'.fBg) fun v1 =>
 let b:=v1.1
 let _3:=v1.2.1
 let _4:=v1.2.2.1
 let _5:=v1.2.2.2
 some (if (if (if (!(f' == 3))=true then (!(b == 3)) else false)=true then (decide (0≤p'.fFlags)) else false)=true then (decide (p'.fFlags≤511)) else false)
noncomputable def lapwingref08_Blank (p':T_api_Pen):Option T_api_Cell :=
 some (T_api_Cell.mk 0 d_Arr2_i64 1 p')
noncomputable def lapwingref08_letter (r':Int):Option Bool :=
 some (if (decide (0≤r'))=true then (decide (r'≤1114111)) else false)
noncomputable def lapwingref08_with (r':T_api_Row) (l':(List T_api_Cell)):Option T_api_Row :=
 some (T_api_Row.mk l' r'.fWrap r'.fDir r'.fExplicit)
noncomputable def lapwingref08_Cells (a:(List T_api_Cell)) (b:(List T_api_Cell)):Option Bool :=
 iteO (!((lenL a) == (lenL b)))
  (some false)
  (cutO (loopO (fun (i:Int) =>
    iteO (decide (i < (lenL a)))
     (chk (0≤i∧i < (lenL a)) <|
      chk (0≤i∧i < (lenL b)) <|
      iteO (!(((getL d_api_Cell a i).fR == (getL d_api_Cell b i).fR) && (((getL d_api_Cell a i).fM.x0 == (getL d_api_Cell b i).fM.x0) && (((getL d_api_Cell a i).fM.x1 == (getL d_api_Cell b i).fM.x1) && (((getL d_api_Cell a i).fW == (getL d_api_Cell b i).fW) && (((getL d_api_Cell a i).fPen.fFg == (getL d_api_Cell b i).fPen.fFg) && (((getL d_api_Cell a i).fPen.fBg == (getL d_api_Cell b i).fPen.fBg) && (((getL d_api_Cell a i).fPen.fFlags == (getL d_api_Cell b i).fPen.fFlags) && true))))))))
       (some (.out (.out false)))
       (chk (inR .i64 (i+1)) <|
        let i1:=(i+1)
        some (.go i1)))
     (some (.out (.go ())))) 0) fun (_:Unit) =>
   some true)
noncomputable def lapwingref08_Same (a:T_api_Row) (b:T_api_Row):Option Bool :=
 bindO (lapwingref08_Cells a.fCells b.fCells) fun v =>
 some (if (if (if v=true then (a.fWrap == b.fWrap) else false)=true then (a.fDir == b.fDir) else false)=true then (a.fExplicit == b.fExplicit) else false)
noncomputable def lapwingref08_one (c':T_api_Cell):Option Bool :=
 bindO (if (!(if (decide (c'.fW < 0))=true then true else (decide (2 < c'.fW))))=true then lapwingref08_letter c'.fR else some false) fun v =>
 bindO (if (!(if (if (decide (c'.fW < 0))=true then true else (decide (2 < c'.fW)))=true then true else (!v)))=true then lapwingref08_letter c'.fM.x0 else some false) fun v1 =>
 bindO (if (!(if (if (if (decide (c'.fW < 0))=true then true else (decide (2 < c'.fW)))=true then true else (!v))=true then true else (!v1)))=true then lapwingref08_letter c'.fM.x1 else some false) fun v2 =>
 bindO (if (!(if (if (if (if (decide (c'.fW < 0))=true then true else (decide (2 < c'.fW)))=true then true else (!v))=true then true else (!v1))=true then true else (!v2)))=true then lapwingref07_Sane c'.fPen else some false) fun v3 =>
 iteO (if (if (if (if (if (decide (c'.fW < 0))=true then true else (decide (2 < c'.fW)))=true then true else (!v))=true then true else (!v1))=true then true else (!v2))=true then true else (!v3))
  (some false)
  (some (if (if (if (if (!(c'.fM.x0 == 0))=true then true else (c'.fM.x1 == 0))=true then (if (!(c'.fR == 0))=true then true else (c'.fM.x0 == 0)) else false)=true then (if (!(c'.fW == 0))=true then true else (c'.fR == 0)) else false)=true then (if (!(c'.fW == 2))=true then true else (!(c'.fR == 0))) else false))
noncomputable def lapwingref08_Mend (r':T_api_Row):Option T_api_Row :=
 chk (growOk 56 (lenL r'.fCells)) <|
 cutO (loopO (fun ((i,l'1):Int × List T_api_Cell) =>
  iteO (decide (i < (lenL r'.fCells)))
   (chk (0≤i∧i < (lenL r'.fCells)) <|
    chk (((getL d_api_Cell l'1 (0+i)).fW == 2)=true→inR .i64 (i+1)) <|
    chk ((((getL d_api_Cell l'1 (0+i)).fW == 2) && (((getL d_api_Cell l'1 (0+i)).fW == 2) && (!(decide ((lenL r'.fCells)≤(i+1))))))=true→inR .i64 (i+1)) <|
    chk ((((getL d_api_Cell l'1 (0+i)).fW == 2) && (((getL d_api_Cell l'1 (0+i)).fW == 2) && (!(decide ((lenL r'.fCells)≤(i+1))))))=true→0≤(i+1)∧(i+1) < (lenL r'.fCells)) <|
    chk ((!(if ((getL d_api_Cell l'1 (0+i)).fW == 2)=true then (if (decide ((lenL r'.fCells)≤(i+1)))=true then true else (!((getL d_api_Cell l'1 (0+(i+1))).fW == 0))) else false))=true→0≤i∧i < (lenL r'.fCells)) <|
    chk ((((!(if ((getL d_api_Cell l'1 (0+i)).fW == 2)=true then (if (decide ((lenL r'.fCells)≤(i+1)))=true then true else (!((getL d_api_Cell l'1 (0+(i+1))).fW == 0))) else false)) && ((!(if ((getL d_api_Cell l'1 (0+i)).fW == 2)=true then (if (decide ((lenL r'.fCells)≤(i+1)))=true then true else (!((getL d_api_Cell l'1 (0+(i+1))).fW == 0))) else false)) && ((getL d_api_Cell l'1 (0+i)).fW == 0))) && (((!(if ((getL d_api_Cell l'1 (0+i)).fW == 2)=true then (if (decide ((lenL r'.fCells)≤(i+1)))=true then true else (!((getL d_api_Cell l'1 (0+(i+1))).fW == 0))) else false)) && ((!(if ((getL d_api_Cell l'1 (0+i)).fW == 2)=true then (if (decide ((lenL r'.fCells)≤(i+1)))=true then true else (!((getL d_api_Cell l'1 (0+(i+1))).fW == 0))) else false)) && ((getL d_api_Cell l'1 (0+i)).fW == 0))) && (!(i == 0))))=true→inR .i64 (i-1)) <|
    chk ((((!(if ((getL d_api_Cell l'1 (0+i)).fW == 2)=true then (if (decide ((lenL r'.fCells)≤(i+1)))=true then true else (!((getL d_api_Cell l'1 (0+(i+1))).fW == 0))) else false)) && ((!(if ((getL d_api_Cell l'1 (0+i)).fW == 2)=true then (if (decide ((lenL r'.fCells)≤(i+1)))=true then true else (!((getL d_api_Cell l'1 (0+(i+1))).fW == 0))) else false)) && ((getL d_api_Cell l'1 (0+i)).fW == 0))) && (((!(if ((getL d_api_Cell l'1 (0+i)).fW == 2)=true then (if (decide ((lenL r'.fCells)≤(i+1)))=true then true else (!((getL d_api_Cell l'1 (0+(i+1))).fW == 0))) else false)) && ((!(if ((getL d_api_Cell l'1 (0+i)).fW == 2)=true then (if (decide ((lenL r'.fCells)≤(i+1)))=true then true else (!((getL d_api_Cell l'1 (0+(i+1))).fW == 0))) else false)) && ((getL d_api_Cell l'1 (0+i)).fW == 0))) && (!(i == 0))))=true→0≤(i-1)∧(i-1) < (lenL r'.fCells)) <|
    iteO (if (if ((getL d_api_Cell l'1 (0+i)).fW == 2)=true then (if (decide ((lenL r'.fCells)≤(i+1)))=true then true else (!((getL d_api_Cell l'1 (0+(i+1))).fW == 0))) else false)=true then true else (if ((getL d_api_Cell l'1 (0+i)).fW == 0)=true then (if (i == 0)=true then true else (!((getL d_api_Cell l'1 (0+(i-1))).fW == 2))) else false))
     (chk (0≤i∧i < (lenL r'.fCells)) <|
      bindO (lapwingref08_Blank (getL d_api_Cell l'1 (0+i)).fPen) fun v1 =>
      chk (0≤i∧i < (lenL r'.fCells)) <|
      chk (inR .i64 (i+1)) <|
      let i1:=(i+1)
      some (.go (i1,(setL l'1 i v1))))
     (chk (inR .i64 (i+1)) <|
      let i2:=(i+1)
      some (.go (i2,l'1))))
   (some (.out (.go l'1)))) (0,r'.fCells)) fun l' =>
 bindO (lapwingref08_with r' l') fun v =>
 some v
noncomputable def lapwingref08_Sane (r':T_api_Row):Option Bool :=
 cutO (loopO (fun (i:Int) =>
  iteO (decide (i < (lenL r'.fCells)))
   (chk (0≤i∧i < (lenL r'.fCells)) <|
    bindO (lapwingref08_one (getL d_api_Cell r'.fCells i)) fun v2 =>
    iteO (!v2)
     (some (.out (.out false)))
     (chk (inR .i64 (i+1)) <|
      let i1:=(i+1)
      some (.go i1)))
   (some (.out (.go ())))) 0) fun (_:Unit) =>
 bindO (if (if (if (if (decide (1≤(lenL r'.fCells)))=true then (decide ((lenL r'.fCells)≤4096)) else false)=true then (decide (0≤r'.fDir)) else false)=true then (decide (r'.fDir≤2)) else false)=true then lapwingref08_Mend r' else some d_api_Row) fun v =>
 bindO (if (if (if (if (decide (1≤(lenL r'.fCells)))=true then (decide ((lenL r'.fCells)≤4096)) else false)=true then (decide (0≤r'.fDir)) else false)=true then (decide (r'.fDir≤2)) else false)=true then lapwingref08_Same v r' else some false) fun v1 =>
 some (if (if (if (if (decide (1≤(lenL r'.fCells)))=true then (decide ((lenL r'.fCells)≤4096)) else false)=true then (decide (0≤r'.fDir)) else false)=true then (decide (r'.fDir≤2)) else false)=true then v1 else false)
noncomputable def lapwingref09_Sane (g':T_lapwingref09_Grid):Option Bool :=
 cutO (loopO (fun (i:Int) =>
  iteO (decide (i < (lenL g'.fRows)))
   (chk (0≤i∧i < (lenL g'.fRows)) <|
    bindO (lapwingref08_Sane (getL d_api_Row g'.fRows i)) fun v =>
    chk ((!(!v))=true→0≤i∧i < (lenL g'.fRows)) <|
    chk ((!(!v))=true→(0:Int)≤0∧(0:Int) < (lenL g'.fRows)) <|
    iteO (if (!v)=true then true else (!((lenL (getL d_api_Row g'.fRows i).fCells) == (lenL (getL d_api_Row g'.fRows 0).fCells))))
     (some (.out (.out false)))
     (chk (inR .i64 (i+1)) <|
      let i1:=(i+1)
      some (.go i1)))
   (some (.out (.go ())))) 0) fun (_:Unit) =>
 some (if (decide (1≤(lenL g'.fRows)))=true then (decide ((lenL g'.fRows)≤1000)) else false)
noncomputable def lapwingref09_Few (l':(List T_api_Row)):Option Bool :=
 iteO (decide (60 < (lenL l')))
  (some false)
  (cutO (loopO (fun (i:Int) =>
    iteO (decide (i < (lenL l')))
     (chk (0≤i∧i < (lenL l')) <|
      iteO (decide (100 < (lenL (getL d_api_Row l' i).fCells)))
       (some (.out (.out false)))
       (chk (inR .i64 (i+1)) <|
        let i1:=(i+1)
        some (.go i1)))
     (some (.out (.go ())))) 0) fun (_:Unit) =>
   some true)
noncomputable def lapwinglaw21_awake  : Option Bool :=
 bindO (ucd_Load) fun v =>
 bindO (view_Map v ([(T_api_Row.mk ([(T_api_Cell.mk 97 d_Arr2_i64 1 d_api_Pen),(T_api_Cell.mk 1488 d_Arr2_i64 1 d_api_Pen),(T_api_Cell.mk 1489 d_Arr2_i64 1 d_api_Pen),(T_api_Cell.mk 0 d_Arr2_i64 1 d_api_Pen)]:List T_api_Cell) false 0 false)]:List T_api_Row) 0 false) fun v1 =>
 let ok:=v1.2
 bindO (if ok=true then row_Sane (T_api_Row.mk ([(T_api_Cell.mk 97 d_Arr2_i64 1 d_api_Pen),(T_api_Cell.mk 1488 d_Arr2_i64 1 d_api_Pen),(T_api_Cell.mk 1489 d_Arr2_i64 1 d_api_Pen),(T_api_Cell.mk 0 d_Arr2_i64 1 d_api_Pen)]:List T_api_Cell) false 0 false) else some false) fun v2 =>
 bindO (if (if ok=true then v2 else false)=true then lapwingref03_Ints v1.1.fV2L ([0,2,1,3]:List Int) else some false) fun v3 =>
 chk ((if (if (if ok=true then v2 else false)=true then v3 else false)=true then ((lenL v1.1.fCells) == 4) else false)=true→(0:Int)≤1∧(1:Int) < (lenL v1.1.fCells)) <|
 bindO (if (if (if (if (if ok=true then v2 else false)=true then v3 else false)=true then ((lenL v1.1.fCells) == 4) else false)=true then ((getL d_api_Cell v1.1.fCells 1).fR == 1489) else false)=true then view_Cursor v1.1 1 else some 0) fun v4 =>
 some (if (if (if (if (if ok=true then v2 else false)=true then v3 else false)=true then ((lenL v1.1.fCells) == 4) else false)=true then ((getL d_api_Cell v1.1.fCells 1).fR == 1489) else false)=true then (v4 == 2) else false)
noncomputable def lapwinglaw21_ViewChain (l':(List T_api_Row)) (y':Int):Option Bool :=
 bindO (lapwinglaw21_awake) fun v =>
 bindO (lapwingref09_Few l') fun v1 =>
 iteO (!v1)
  (some v)
  (bindO (view_Chain l' y') fun v2 =>
   let a:=v2.1
   let b:=v2.2.1
   let ok:=v2.2.2
   iteO (!ok)
    (some (if (if v=true then (a == 0) else false)=true then (b == 0) else false))
    (chk ((!(if (if (if (decide (a < 0))=true then true else (decide ((lenL l') < b)))=true then true else (decide (y' < a)))=true then true else (decide (b≤y'))))=true→inR .i64 (b-a)) <|
     iteO (if (if (if (if (decide (a < 0))=true then true else (decide ((lenL l') < b)))=true then true else (decide (y' < a)))=true then true else (decide (b≤y')))=true then true else (decide (64 < (b-a))))
      (some false)
      (cutO (loopO (fun (i:Int) =>
        iteO (decide (i < b))
         (chk (inR .i64 (b-1)) <|
          chk ((decide (i < (b-1)))=true→0≤i∧i < (lenL l')) <|
          iteO (if (decide (i < (b-1)))=true then (!(getL d_api_Row l' i).fWrap) else false)
           (some (.out (.out false)))
           (bindO (view_Chain l' i) fun v3 =>
            let c':=v3.1
            let e:=v3.2.1
            let _:=v3.2.2
            chk (inR .i64 (b-a)) <|
            iteO (if (decide ((b-a)≤31))=true then (if (!(c' == a))=true then true else (!(e == b))) else false)
             (some (.out (.out false)))
             (chk (inR .i64 (i+1)) <|
              let i1:=(i+1)
              some (.go i1))))
         (some (.out (.go ())))) a) fun (_:Unit) =>
       some v)))
noncomputable def lapwinglaw21_ViewApart (l':(List T_api_Row)) (y':Int) (boxes:Bool):Option Bool :=
 bindO (lapwinglaw21_awake) fun v =>
 bindO (lapwingref09_Few l') fun v1 =>
 iteO (if (!v1)=true then true else ((lenL l') == 0))
  (some v)
  (bindO (ucd_Load) fun v2 =>
   chk (((lenL l'):Int)≠0) <|
   let k':=(Int.tmod (bndI .i64 y' 65535) (lenL l'))
   chk (0≤k'∧k' < (lenL l')) <|
   chk (((!(getL d_api_Row l' k').fWrap) && ((!(getL d_api_Row l' k').fWrap) && (decide (0 < k'))))=true→inR .i64 (k'-1)) <|
   chk (((!(getL d_api_Row l' k').fWrap) && ((!(getL d_api_Row l' k').fWrap) && (decide (0 < k'))))=true→0≤(k'-1)∧(k'-1) < (lenL l')) <|
   iteO (if (getL d_api_Row l' k').fWrap=true then true else (if (decide (0 < k'))=true then (getL d_api_Row l' (k'-1)).fWrap else false))
    (some v)
    (bindO (view_Map v2 l' k' boxes) fun v3 =>
     let ok:=v3.2
     chk (0≤k'∧k' < (lenL l')) <|
     bindO (view_Map v2 ([(getL d_api_Row l' k')]:List T_api_Row) 0 boxes) fun v4 =>
     let also:=v4.2
     iteO (!ok)
      (some v)
      (bindO (if (if v=true then also else false)=true then lapwingref03_Ints v3.1.fV2L v4.1.fV2L else some false) fun v5 =>
       bindO (if (if (if v=true then also else false)=true then v5 else false)=true then lapwingref08_Cells v3.1.fCells v4.1.fCells else some false) fun v6 =>
       some (if (if (if (if v=true then also else false)=true then v5 else false)=true then v6 else false)=true then (v3.1.fBase == v4.1.fBase) else false))))
noncomputable def lapwinglaw21_ViewInverse (l':(List T_api_Row)) (y':Int) (boxes:Bool):Option Bool :=
 bindO (lapwinglaw21_awake) fun v =>
 bindO (lapwingref09_Few l') fun v1 =>
 iteO (!v1)
  (some v)
  (bindO (ucd_Load) fun v2 =>
   bindO (view_Map v2 l' y' boxes) fun v3 =>
   let ok:=v3.2
   iteO (!ok)
    (some (if v=true then ((lenL v3.1.fV2L) == 0) else false))
    (chk ((!(if (decide (y' < 0))=true then true else (decide ((lenL l')≤y'))))=true→0≤y'∧y' < (lenL l')) <|
     chk ((!(if (if (decide (y' < 0))=true then true else (decide ((lenL l')≤y')))=true then true else (!((lenL v3.1.fV2L) == (lenL (getL d_api_Row l' y').fCells)))))=true→0≤y'∧y' < (lenL l')) <|
     iteO (if (if (if (decide (y' < 0))=true then true else (decide ((lenL l')≤y')))=true then true else (!((lenL v3.1.fV2L) == (lenL (getL d_api_Row l' y').fCells))))=true then true else (!((lenL v3.1.fL2V) == (lenL (getL d_api_Row l' y').fCells))))
      (some false)
      (chk (0≤y'∧y' < (lenL l')) <|
       let w:=(lenL (getL d_api_Row l' y').fCells)
       cutO (loopO (fun (i:Int) =>
        iteO (decide (i < w))
         (chk (0≤i∧i < (lenL v3.1.fL2V)) <|
          let v4:=(getL 0 v3.1.fL2V i)
          chk ((!(if (decide (v4 < 0))=true then true else (decide (w≤v4))))=true→0≤v4∧v4 < (lenL v3.1.fV2L)) <|
          bindO (if (!(if (if (decide (v4 < 0))=true then true else (decide (w≤v4)))=true then true else (!((getL 0 v3.1.fV2L v4) == i))))=true then view_Cursor v3.1 i else some 0) fun v5 =>
          bindO (if (!(if (if (if (decide (v4 < 0))=true then true else (decide (w≤v4)))=true then true else (!((getL 0 v3.1.fV2L v4) == i)))=true then true else (!(v5 == v4))))=true then view_Back v3.1 v4 else some 0) fun v6 =>
          iteO (if (if (if (if (decide (v4 < 0))=true then true else (decide (w≤v4)))=true then true else (!((getL 0 v3.1.fV2L v4) == i)))=true then true else (!(v5 == v4)))=true then true else (!(v6 == i)))
           (some (.out (.out false)))
           (chk (0≤y'∧y' < (lenL l')) <|
            chk (0≤i∧i < (lenL (getL d_api_Row l' y').fCells)) <|
            chk (((getL d_api_Cell (getL d_api_Row l' y').fCells i).fW == 2)=true→inR .i64 (i+1)) <|
            chk (((getL d_api_Cell (getL d_api_Row l' y').fCells i).fW == 2)=true→0≤(i+1)∧(i+1) < (lenL v3.1.fL2V)) <|
            chk (((getL d_api_Cell (getL d_api_Row l' y').fCells i).fW == 2)=true→inR .i64 (v4+1)) <|
            iteO (if ((getL d_api_Cell (getL d_api_Row l' y').fCells i).fW == 2)=true then (!((getL 0 v3.1.fL2V (i+1)) == (v4+1))) else false)
             (some (.out (.out false)))
             (chk (inR .i64 (i+1)) <|
              let i1:=(i+1)
              some (.go i1))))
         (some (.out (.go ())))) 0) fun (_:Unit) =>
       some v)))
noncomputable def lapwinglaw21_ViewPlain (l':(List T_api_Row)) (y':Int) (boxes:Bool):Option Bool :=
 bindO (lapwinglaw21_awake) fun v =>
 bindO (lapwingref09_Few l') fun v1 =>
 iteO (!v1)
  (some v)
  (bindO (ucd_Load) fun v2 =>
   bindO (view_Map v2 l' y' boxes) fun v3 =>
   let ok:=v3.2
   iteO (if (if (!ok)=true then true else (decide (y' < 0)))=true then true else (decide ((lenL l')≤y')))
    (some (if v=true then (!ok) else false))
    (bindO (view_Paragraph v2 l' y') fun v4 =>
     let base:=v4.2.2
     let flat:=(base == 0)
     cutO (loopO (fun ((flat2,i2):Bool × Int) =>
      iteO (decide (i2 < (lenL v4.2.1)))
       (chk (flat2=true→0≤i2∧i2 < (lenL v4.2.1)) <|
        let flat3:=(if flat2=true then ((getL 0 v4.2.1 i2) == 0) else false)
        chk (inR .i64 (i2+1)) <|
        let i3:=(i2+1)
        some (.go (flat3,i3)))
       (some (.out (.go flat2)))) (flat,0)) fun flat1 =>
     chk (0≤y'∧y' < (lenL l')) <|
     chk ((getL d_api_Row l' y').fExplicit=true→0≤y'∧y' < (lenL l')) <|
     let turned:=(if (getL d_api_Row l' y').fExplicit=true then ((getL d_api_Row l' y').fDir == 1) else false)
     chk (0≤y'∧y' < (lenL l')) <|
     chk ((getL d_api_Row l' y').fExplicit=true→0≤y'∧y' < (lenL l')) <|
     chk ((!(if (getL d_api_Row l' y').fExplicit=true then (!((getL d_api_Row l' y').fDir == 1)) else false))=true→0≤y'∧y' < (lenL l')) <|
     let still:=(if (if (getL d_api_Row l' y').fExplicit=true then (!((getL d_api_Row l' y').fDir == 1)) else false)=true then true else (if (!(getL d_api_Row l' y').fExplicit)=true then flat1 else false))
     cutO (loopO (fun (i:Int) =>
      iteO (decide (i < (lenL v3.1.fV2L)))
       (cutO (chk (still=true→0≤i∧i < (lenL v3.1.fV2L)) <|
         iteO (if still=true then (!((getL 0 v3.1.fV2L i) == i)) else false)
          (some (.out (.out (.out false))))
          (chk (turned=true→0≤y'∧y' < (lenL l')) <|
           chk (turned=true→0≤i∧i < (lenL (getL d_api_Row l' y').fCells)) <|
           chk (((if turned=true then ((getL d_api_Cell (getL d_api_Row l' y').fCells i).fW == 1) else false) && ((if turned=true then ((getL d_api_Cell (getL d_api_Row l' y').fCells i).fW == 1) else false) && (!(decide ((lenL v3.1.fL2V)≤i)))))=true→0≤i∧i < (lenL v3.1.fL2V)) <|
           chk (((if turned=true then ((getL d_api_Cell (getL d_api_Row l' y').fCells i).fW == 1) else false) && ((if turned=true then ((getL d_api_Cell (getL d_api_Row l' y').fCells i).fW == 1) else false) && (!(decide ((lenL v3.1.fL2V)≤i)))))=true→inR .i64 ((lenL v3.1.fL2V)-1)) <|
           chk (((if turned=true then ((getL d_api_Cell (getL d_api_Row l' y').fCells i).fW == 1) else false) && ((if turned=true then ((getL d_api_Cell (getL d_api_Row l' y').fCells i).fW == 1) else false) && (!(decide ((lenL v3.1.fL2V)≤i)))))=true→inR .i64 (((lenL v3.1.fL2V)-1)-i)) <|
           iteO (if (if turned=true then ((getL d_api_Cell (getL d_api_Row l' y').fCells i).fW == 1) else false)=true then (if (decide ((lenL v3.1.fL2V)≤i))=true then true else (!((getL 0 v3.1.fL2V i) == (((lenL v3.1.fL2V)-1)-i)))) else false)
            (some (.out (.out (.out false))))
            (some (.go ())))) fun (_:Unit) =>
        chk (inR .i64 (i+1)) <|
        let i1:=(i+1)
        some (.go i1))
       (some (.out (.go ())))) 0) fun (_:Unit) =>
     bindO (weak_Paragraph v2 v4.1 base) fun v5 =>
     let _:=v5.2
     some (if (if v=true then ((lenL v4.2.1) == (lenL v4.1)) else false)=true then ((lenL v5.1) == (lenL v4.2.1)) else false)))
noncomputable def lapwinglaw21_ViewAll (l':(List T_api_Row)) (boxes:Bool):Option Bool :=
 bindO (lapwinglaw21_awake) fun v =>
 bindO (lapwingref09_Few l') fun v1 =>
 iteO (!v1)
  (some v)
  (bindO (ucd_Load) fun v2 =>
   bindO (view_All v2 l' boxes) fun v3 =>
   bindO (lapwingref09_Sane (T_lapwingref09_Grid.mk l')) fun v4 =>
   iteO (!v4)
    (some v)
    (iteO (!((lenL v3) == (lenL l')))
     (some false)
     (cutO (loopO (fun (y':Int) =>
       iteO (decide (y' < (lenL l')))
        (bindO (view_Map v2 l' y' boxes) fun v5 =>
         let ok:=v5.2
         chk ((!(!ok))=true→0≤y'∧y' < (lenL v3)) <|
         bindO (if (!(!ok))=true then lapwingref03_Ints v5.1.fV2L (getL d_view_Line v3 (0+y')).fV2L else some false) fun v6 =>
         chk ((!(if (!ok)=true then true else (!v6)))=true→0≤y'∧y' < (lenL v3)) <|
         bindO (if (!(if (!ok)=true then true else (!v6)))=true then lapwingref08_Cells v5.1.fCells (getL d_view_Line v3 (0+y')).fCells else some false) fun v7 =>
         chk ((!(if (if (!ok)=true then true else (!v6))=true then true else (!v7)))=true→0≤y'∧y' < (lenL v3)) <|
         iteO (if (if (if (!ok)=true then true else (!v6))=true then true else (!v7))=true then true else (!(v5.1.fBase == (getL d_view_Line v3 (0+y')).fBase)))
          (some (.out (.out false)))
          (chk (inR .i64 (y'+1)) <|
           let y'1:=(y'+1)
           some (.go y'1)))
        (some (.out (.go ())))) 0) fun (_:Unit) =>
      some v)))
end Go.Vx
