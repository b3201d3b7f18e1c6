/- Lifted functions, by program (lift.py). -/
import Derived.Test.YtkjmcemgncalgaaGreatDoorVxRnd
import Derived.Lib.Bytealg
import Derived.Shelf.SlSortCmp.NoneTotal
set_option linter.all false
namespace Go.Vx
structure T_strings_span where
 fstart:Int
 fend:Int
def d_strings_span:T_strings_span:=⟨0,0⟩
structure T_ranges_Row where
 fLo:Int
 fHi:Int
 fV:Int
def d_ranges_Row:T_ranges_Row:=⟨0,0,0⟩
structure T_ranges_Table where
 fL:(List T_ranges_Row)
def d_ranges_Table:T_ranges_Table:=⟨[]⟩
structure T_ucd_Pair where
 fA:Int
 fB:Int
def d_ucd_Pair:T_ucd_Pair:=⟨0,0⟩
structure T_ucd_Form where
 fR:Int
 fAt:Int
 fN:Int
def d_ucd_Form:T_ucd_Form:=⟨0,0,0⟩
structure T_ucd_Data where
 fClass:T_ranges_Table
 fWide:T_ranges_Table
 fJoin:T_ranges_Table
 fMirror:(List T_ucd_Pair)
 fBrackets:(List T_ucd_Pair)
 fForms:(List T_ucd_Form)
def d_ucd_Data:T_ucd_Data:=⟨d_ranges_Table,d_ranges_Table,d_ranges_Table,[],[],[]⟩
structure T_embed_stack_int_ where
 fl:(List Int)
def d_embed_stack_int_:T_embed_stack_int_:=⟨[]⟩
structure T_embed_status where
 flevel:Int
 foverride:Int
 fisolate:Bool
def d_embed_status:T_embed_status:=⟨0,0,false⟩
structure T_embed_status_ where
 fl:(List T_embed_status)
def d_embed_status_:T_embed_status_:=⟨[]⟩
structure T_embed_Run where
 fLevels:(List Int)
 fClasses:(List Int)
 fRemoved:(List Bool)
def d_embed_Run:T_embed_Run:=⟨[],[],[]⟩
structure T_embed_machine where
 fl:(List Int)
 fmatch:(List Int)
 fbase:Int
 frun:T_embed_Run
 fopen:T_embed_status_
 fisolates:Int
 fembeddings:Int
 fvalid:Int
def d_embed_machine:T_embed_machine:=⟨[],[],0,d_embed_Run,d_embed_status_,0,0,0⟩
structure T_weak_text where
 fl:(List Int)
 fsos:Int
structure T_Arr2_i64 where
 x0:Int
 x1:Int
def d_Arr2_i64:T_Arr2_i64:=⟨0,0⟩
structure T_weak_line where
 fl:(List Int)
 fwas:(List Int)
 fsos:Int
 feos:Int
 fdir:Int
 fagainst:Int
 fpairs:(List T_Arr2_i64)
def kS0:ByteArray:=(⟨#[76,32,82,32,65,76,32,69,78,32,69,83,32,69,84,32,65,78,32,67,83,32,78,83,77,32,66,78,32,66,32,83,32,87,83,32,79,78,32,76,82,69,32,76,82,79,32,82,76,69,32,82,76,79,32,80,68,70,32,76,82,73,32,82,76,73,32,70,83,73,32,80,68,73]⟩:ByteArray)
def kS1:ByteArray:=(⟨#[48,45,56,32,66,78,44,32,57,32,83,44,32,65,32,66,44,32,66,32,83,44,32,67,32,87,83,44,32,68,32,66,44,32,69,45,49,66,32,66,78,44,32,49,67,45,49,69,32,66,44,32,49,70,32,83,44,32,50,48,32,87,83,44,10,50,49,45,50,50,32,79,78,44,32,50,51,45,50,53,32,69,84,44,32,50,54,45,50,65,32,79,78,44,32,50,66,32,69,83,44,32,50,67,32,67,83,44,32,50,68,32,69,83,44,32,50,69,45,50,70,32,67,83,44,32,51,48,45,51,57,32,69,78,44,32,51,65,32,67,83,44,32,51,66,45,52,48,32,79,78,44,10,53,66,45,54,48,32,79,78,44,32,55,66,45,55,69,32,79,78,44,32,55,70,45,56,52,32,66,78,44,32,56,53,32,66,44,32,56,54,45,57,70,32,66,78,44,32,65,48,32,67,83,44,32,65,49,32,79,78,44,32,65,50,45,65,53,32,69,84,44,32,65,54,45,65,57,32,79,78,44,32,65,66,45,65,67,32,79,78,44,10,65,68,32,66,78,44,32,65,69,45,65,70,32,79,78,44,32,66,48,45,66,49,32,69,84,44,32,66,50,45,66,51,32,69,78,44,32,66,52,32,79,78,44,32,66,54,45,66,56,32,79,78,44,32,66,57,32,69,78,44,32,66,66,45,66,70,32,79,78,44,32,68,55,32,79,78,44,32,70,55,32,79,78,44,10,51,48,48,45,51,54,70,32,78,83,77,44,32,53,57,48,32,82,44,32,53,57,49,45,53,66,68,32,78,83,77,44,32,53,66,69,32,82,44,32,53,66,70,32,78,83,77,44,32,53,67,48,32,82,44,32,53,67,49,45,53,67,50,32,78,83,77,44,32,53,67,51,32,82,44,32,53,67,52,45,53,67,53,32,78,83,77,44,32,53,67,54,32,82,44,10,53,67,55,32,78,83,77,44,32,53,67,56,45,53,70,70,32,82,44,32,54,48,48,45,54,48,53,32,65,78,44,32,54,48,54,45,54,48,55,32,79,78,44,32,54,48,56,32,65,76,44,32,54,48,57,45,54,48,65,32,69,84,44,32,54,48,66,32,65,76,44,32,54,48,67,32,67,83,44,32,54,48,68,32,65,76,44,32,54,48,69,45,54,48,70,32,79,78,44,10,54,49,48,45,54,49,65,32,78,83,77,44,32,54,49,66,45,54,52,65,32,65,76,44,32,54,52,66,45,54,53,70,32,78,83,77,44,32,54,54,48,45,54,54,57,32,65,78,44,32,54,54,65,32,69,84,44,32,54,54,66,45,54,54,67,32,65,78,44,32,54,54,68,45,54,54,70,32,65,76,44,32,54,55,48,32,78,83,77,44,32,54,55,49,45,54,68,53,32,65,76,44,32,54,68,54,45,54,68,67,32,78,83,77,44,10,54,68,68,32,65,78,44,32,54,68,69,32,79,78,44,32,54,68,70,45,54,69,52,32,78,83,77,44,32,54,69,53,45,54,69,54,32,65,76,44,32,54,69,55,45,54,69,56,32,78,83,77,44,32,54,69,57,32,79,78,44,32,54,69,65,45,54,69,68,32,78,83,77,44,32,54,69,69,45,54,69,70,32,65,76,44,32,54,70,48,45,54,70,57,32,69,78,44,32,54,70,65,45,54,70,70,32,65,76,44,10,50,48,48,48,45,50,48,48,65,32,87,83,44,32,50,48,48,66,45,50,48,48,68,32,66,78,44,32,50,48,48,70,32,82,44,32,50,48,49,48,45,50,48,50,55,32,79,78,44,32,50,48,50,56,32,87,83,44,32,50,48,50,57,32,66,44,32,50,48,50,65,32,76,82,69,44,32,50,48,50,66,32,82,76,69,44,32,50,48,50,67,32,80,68,70,44,32,50,48,50,68,32,76,82,79,44,10,50,48,50,69,32,82,76,79,44,32,50,48,50,70,32,67,83,44,32,50,48,51,48,45,50,48,51,52,32,69,84,44,32,50,48,51,53,45,50,48,52,51,32,79,78,44,32,50,48,52,52,32,67,83,44,32,50,48,52,53,45,50,48,53,69,32,79,78,44,32,50,48,53,70,32,87,83,44,32,50,48,54,48,45,50,48,54,53,32,66,78,44,32,50,48,54,54,32,76,82,73,44,32,50,48,54,55,32,82,76,73,44,10,50,48,54,56,32,70,83,73,44,32,50,48,54,57,32,80,68,73,44,32,50,48,54,65,45,50,48,54,70,32,66,78,44,32,50,49,57,48,45,50,50,49,49,32,79,78,44,32,50,50,49,50,32,69,83,44,32,50,50,49,51,32,69,84,44,32,50,50,49,52,45,50,51,51,53,32,79,78,44,32,50,53,48,48,45,50,53,57,70,32,79,78,44,32,51,48,48,48,32,87,83,44,32,51,48,48,49,45,51,48,48,52,32,79,78,44,10,51,48,48,56,45,51,48,50,48,32,79,78,44,32,70,66,49,68,32,82,44,32,70,66,49,69,32,78,83,77,44,32,70,66,49,70,45,70,66,50,56,32,82,44,32,70,66,50,57,32,69,83,44,32,70,66,50,65,45,70,66,52,70,32,82,44,32,70,66,53,48,45,70,68,67,70,32,65,76,44,32,70,69,55,48,45,70,69,70,69,32,65,76,44,32,70,69,70,70,32,66,78,44,32,70,70,70,57,45,70,70,70,68,32,79,78]⟩:ByteArray)
def kS2:ByteArray:=(⟨#[51,48,48,45,51,54,70,32,48,44,32,53,57,49,45,53,66,68,32,48,44,32,53,66,70,32,48,44,32,53,67,49,45,53,67,50,32,48,44,32,53,67,52,45,53,67,53,32,48,44,32,53,67,55,32,48,44,32,54,49,48,45,54,49,65,32,48,44,32,54,52,66,45,54,53,70,32,48,44,32,54,55,48,32,48,44,32,54,68,54,45,54,68,67,32,48,44,10,54,68,70,45,54,69,52,32,48,44,32,54,69,55,45,54,69,56,32,48,44,32,54,69,65,45,54,69,68,32,48,44,32,49,49,48,48,45,49,49,53,70,32,50,44,32,50,48,48,66,45,50,48,48,70,32,48,44,32,50,48,50,65,45,50,48,50,69,32,48,44,32,50,48,54,48,45,50,48,54,70,32,48,44,32,50,69,56,48,45,51,48,51,69,32,50,44,32,51,48,52,49,45,65,52,67,70,32,50,44,32,65,67,48,48,45,68,55,65,51,32,50,44,10,70,57,48,48,45,70,65,70,70,32,50,44,32,70,66,49,69,32,48,44,32,70,69,51,48,45,70,69,54,70,32,50,44,32,70,69,70,70,32,48,44,32,70,70,48,48,45,70,70,54,48,32,50,44,32,70,70,69,48,45,70,70,69,54,32,50,44,32,49,70,51,48,48,45,49,70,54,52,70,32,50,44,32,49,70,57,48,48,45,49,70,57,70,70,32,50,44,32,50,48,48,48,48,45,51,70,70,70,68,32,50]⟩:ByteArray)
def kS3:ByteArray:=(⟨#[51,48,48,45,51,54,70,32,84,44,32,53,57,49,45,53,66,68,32,84,44,32,53,66,70,32,84,44,32,53,67,49,45,53,67,50,32,84,44,32,53,67,52,45,53,67,53,32,84,44,32,53,67,55,32,84,44,32,54,49,48,45,54,49,65,32,84,44,32,54,50,48,32,68,44,32,54,50,50,45,54,50,53,32,82,44,32,54,50,54,32,68,44,10,54,50,55,32,82,44,32,54,50,56,32,68,44,32,54,50,57,32,82,44,32,54,50,65,45,54,50,69,32,68,44,32,54,50,70,45,54,51,50,32,82,44,32,54,51,51,45,54,51,70,32,68,44,32,54,52,48,32,67,44,32,54,52,49,45,54,52,55,32,68,44,32,54,52,56,45,54,52,57,32,82,44,32,54,52,65,32,68,44,10,54,52,66,45,54,53,70,32,84,44,32,54,54,69,45,54,54,70,32,68,44,32,54,55,48,32,84,44,32,54,55,49,45,54,55,51,32,82,44,32,54,55,53,45,54,55,55,32,82,44,32,54,55,56,45,54,56,55,32,68,44,32,54,56,56,45,54,57,57,32,82,44,32,54,57,65,45,54,66,70,32,68,44,32,54,67,48,32,82,44,32,54,67,49,45,54,67,50,32,68,44,10,54,67,51,45,54,67,66,32,82,44,32,54,67,67,32,68,44,32,54,67,68,32,82,44,32,54,67,69,32,68,44,32,54,67,70,32,82,44,32,54,68,48,45,54,68,49,32,68,44,32,54,68,50,45,54,68,51,32,82,44,32,54,68,53,32,82,44,32,54,68,54,45,54,68,67,32,84,44,32,54,68,70,45,54,69,52,32,84,44,10,54,69,55,45,54,69,56,32,84,44,32,54,69,65,45,54,69,68,32,84,44,32,54,69,69,45,54,69,70,32,82,44,32,54,70,65,45,54,70,67,32,68,44,32,54,70,70,32,68,44,32,50,48,48,66,32,84,44,32,50,48,48,68,32,67,44,32,70,66,49,69,32,84]⟩:ByteArray)
def kS4:ByteArray:=(⟨#[50,56,32,50,57,44,32,51,67,32,51,69,44,32,53,66,32,53,68,44,32,55,66,32,55,68,44,32,65,66,32,66,66,44,32,50,48,51,57,32,50,48,51,65,44,32,50,50,48,56,32,50,50,48,66,44,32,50,50,54,52,32,50,50,54,53,44,32,51,48,48,56,32,51,48,48,57,44,32,51,48,48,65,32,51,48,48,66,44,32,51,48,48,67,32,51,48,48,68,44,32,51,48,48,69,32,51,48,48,70,44,10,51,48,49,48,32,51,48,49,49,44,32,50,53,48,67,32,50,53,49,48,44,32,50,53,48,70,32,50,53,49,51,44,32,50,53,49,52,32,50,53,49,56,44,32,50,53,49,55,32,50,53,49,66,44,32,50,53,49,67,32,50,53,50,52,44,32,50,53,50,51,32,50,53,50,66,44,32,50,53,53,52,32,50,53,53,55,44,32,50,53,53,65,32,50,53,53,68,44,32,50,53,54,48,32,50,53,54,51,44,32,50,53,54,68,32,50,53,54,69,44,32,50,53,55,48,32,50,53,54,70,44,10,50,53,55,49,32,50,53,55,50,44,32,50,53,55,52,32,50,53,55,54,44,32,50,53,56,67,32,50,53,57,48]⟩:ByteArray)
def kS5:ByteArray:=(⟨#[50,56,32,50,57,44,32,53,66,32,53,68,44,32,55,66,32,55,68,44,32,51,48,48,56,32,51,48,48,57,44,32,51,48,48,65,32,51,48,48,66,44,32,51,48,48,67,32,51,48,48,68,44,32,51,48,48,69,32,51,48,48,70,44,32,51,48,49,48,32,51,48,49,49]⟩:ByteArray)
def kS6:ByteArray:=(⟨#[54,50,49,32,70,69,56,48,32,49,44,32,54,50,50,32,70,69,56,49,32,50,44,32,54,50,51,32,70,69,56,51,32,50,44,32,54,50,52,32,70,69,56,53,32,50,44,32,54,50,53,32,70,69,56,55,32,50,44,32,54,50,54,32,70,69,56,57,32,52,44,32,54,50,55,32,70,69,56,68,32,50,44,32,54,50,56,32,70,69,56,70,32,52,44,32,54,50,57,32,70,69,57,51,32,50,44,32,54,50,65,32,70,69,57,53,32,52,44,10,54,50,66,32,70,69,57,57,32,52,44,32,54,50,67,32,70,69,57,68,32,52,44,32,54,50,68,32,70,69,65,49,32,52,44,32,54,50,69,32,70,69,65,53,32,52,44,32,54,50,70,32,70,69,65,57,32,50,44,32,54,51,48,32,70,69,65,66,32,50,44,32,54,51,49,32,70,69,65,68,32,50,44,32,54,51,50,32,70,69,65,70,32,50,44,32,54,51,51,32,70,69,66,49,32,52,44,32,54,51,52,32,70,69,66,53,32,52,44,10,54,51,53,32,70,69,66,57,32,52,44,32,54,51,54,32,70,69,66,68,32,52,44,32,54,51,55,32,70,69,67,49,32,52,44,32,54,51,56,32,70,69,67,53,32,52,44,32,54,51,57,32,70,69,67,57,32,52,44,32,54,51,65,32,70,69,67,68,32,52,44,32,54,52,49,32,70,69,68,49,32,52,44,32,54,52,50,32,70,69,68,53,32,52,44,32,54,52,51,32,70,69,68,57,32,52,44,32,54,52,52,32,70,69,68,68,32,52,44,10,54,52,53,32,70,69,69,49,32,52,44,32,54,52,54,32,70,69,69,53,32,52,44,32,54,52,55,32,70,69,69,57,32,52,44,32,54,52,56,32,70,69,69,68,32,50,44,32,54,52,57,32,70,69,69,70,32,50,44,32,54,52,65,32,70,69,70,49,32,52]⟩:ByteArray)
def bytealg_CountString (s:ByteArray) (c:Int):Option Int:=some (Lib.countByte s.data.toList c.toNat.toUInt8:Nat)
abbrev BPair:Type:={p:T_Arr2_i64 // 0≤p.x0∧p.x0 < 4611686018427387904}
instance:Inhabited BPair:=⟨⟨d_Arr2_i64,by decide,by decide⟩⟩
def bCmp (a b:BPair):Int:=a.1.x0-b.1.x0
open Classical in
noncomputable def sortPairs (x:List T_Arr2_i64) (off n:Int):Option (List T_Arr2_i64):=match x with
 | []=>if off=0∧n=0 then some [] else none
 | a :: q=>if h:off=0∧n=lenL (a :: q)∧lenL (a :: q) < 4611686018427387904∧∀ p∈a :: q,0≤p.x0∧p.x0 < 4611686018427387904 then
   some ((Go.Sort.pdq (Go.Proofs.ltOf bCmp) ((a :: q).attach.map fun p=>(⟨p.1,h.2.2.2 p.1 p.2⟩:BPair)).toArray 0 ((a :: q).attach.map fun p=>(⟨p.1,h.2.2.2 p.1 p.2⟩:BPair)).toArray.size
    (Lib.bitLen ((a :: q).attach.map fun p=>(⟨p.1,h.2.2.2 p.1 p.2⟩:BPair)).toArray.size) true true).toList.map fun b=>b.1)
  else none
def bytealg_IndexByteString (s:ByteArray) (c:Int):Option Int:=some (Lib.indexByte s.data.toList c.toNat.toUInt8)
noncomputable def strconv_lower (c':Int):Option Int :=
 some (borI .u8 c' 32)
noncomputable def stringslite_IndexByte (s:ByteArray) (c':Int):Option Int :=
 bindO (bytealg_IndexByteString s c') fun v =>
 some v
noncomputable def stringslite_Index (s:ByteArray) (substr:ByteArray):Option Int :=
 let n:=(slenS substr)
 iteO (if (n == 0)=true then true else (seqS substr s))
  (some 0)
  (iteO (n == 1)
   (chk ((0:Int)≤0∧(0:Int) < (slenS substr)) <|
    bindO (stringslite_IndexByte s (sidxS substr 0)) fun v =>
    some v)
   (iteO (decide ((slenS s)≤n))
    (some (-1))
    (none)))
noncomputable def strings_Index (s:ByteArray) (substr:ByteArray):Option Int :=
 bindO (stringslite_Index s substr) fun v =>
 some v
noncomputable def strings_Count (s:ByteArray) (substr:ByteArray):Option Int :=
 iteO ((slenS substr) == 0)
  (none)
  (iteO ((slenS substr) == 1)
   (chk ((0:Int)≤0∧(0:Int) < (slenS substr)) <|
    bindO (bytealg_CountString s (sidxS substr 0)) fun v =>
    some v)
   (loopO (fun ((s1,n):ByteArray × Int) =>
    bindO (strings_Index s1 substr) fun v1 =>
    iteO (v1 == (-1))
     (some (.out n))
     (chk (inR .i64 (n+1)) <|
      let n1:=(n+1)
      chk (inR .i64 (v1+(slenS substr))) <|
      chk (0≤(v1+(slenS substr))∧(v1+(slenS substr))≤(slenS s1)∧(slenS s1)≤(slenS s1)) <|
      let s2:=(ssubS s1 (v1+(slenS substr)) (slenS s1))
      some (.go (s2,n1)))) (s,0)))
noncomputable def strings_genSplit (s:ByteArray) (sep:ByteArray) (sepSave:Int) (n:Int):Option (List ByteArray) :=
 iteO (n == 0)
  (some ([]:List ByteArray))
  (iteO (seqS sep (⟨#[]⟩:ByteArray))
   (none)
   (cutO (iteO (decide (n < 0))
     (bindO (strings_Count s sep) fun v1 =>
      chk (inR .i64 (v1+1)) <|
      let n4:=(v1+1)
      some (.go n4))
     (some (.go n))) fun n1 =>
    chk (inR .i64 ((slenS s)+1)) <|
    let n2:=(iminI n1 ((slenS s)+1))
    chk (makeOk 16 n2 n2) <|
    chk (inR .i64 (n2-1)) <|
    let n3:=(n2-1)
    cutO (loopO (fun ((s2,i1,a1):ByteArray × Int × List ByteArray) =>
     iteO (decide (i1 < n3))
      (bindO (strings_Index s2 sep) fun v =>
       iteO (decide (v < 0))
        (some (.out (.go (s2,i1,a1))))
        (chk (inR .i64 (v+sepSave)) <|
         chk ((0:Int)≤0∧(0:Int)≤(v+sepSave)∧(v+sepSave)≤(slenS s2)) <|
         chk (0≤i1∧i1 < n2) <|
         chk (inR .i64 (v+(slenS sep))) <|
         chk (0≤(v+(slenS sep))∧(v+(slenS sep))≤(slenS s2)∧(slenS s2)≤(slenS s2)) <|
         let s3:=(ssubS s2 (v+(slenS sep)) (slenS s2))
         chk (inR .i64 (i1+1)) <|
         let i2:=(i1+1)
         some (.go (s3,i2,(setL a1 i1 (ssubS s2 0 (v+sepSave)))))))
      (some (.out (.go (s2,i1,a1))))) (s,0,(repL n2 ByteArray.empty))) fun (s1,i,a) =>
    chk (0≤i∧i < n2) <|
    chk (inR .i64 (i+1)) <|
    chk ((0:Int)≤0∧(0:Int)≤(i+1)∧(i+1)≤n2) <|
    some (subL (setL a i s1) (0+0) ((0+0)+((i+1)-0)))))
noncomputable def strings_Split (s:ByteArray) (sep:ByteArray):Option (List ByteArray) :=
 bindO (strings_genSplit s sep 0 (-1)) fun v =>
 some v
noncomputable def ucd_words_1 (c':Int):Option Bool :=
 some (if (if (c' == 32)=true then true else (c' == 10))=true then true else (c' == 45))
noncomputable def strings_FieldsFunc_52 (s:ByteArray):Option (List ByteArray) :=
 chk (makeOk 16 0 32) <|
 cutO (loopO (fun ((start1,spans2,pos):Int × List T_strings_span × Int) =>
  iteO (decide (pos < (slenS s)))
   (let rune:=(rdecS s pos)
    bindO (ucd_words_1 rune) fun v1 =>
    iteO v1
     (iteO (decide (0≤start1))
      (chk (growOk 16 ((lenL spans2)+1)) <|
       let start2:=(bxorI .i64 (-1) start1)
       some (.go (start2,(spans2++([(T_strings_span.mk start1 pos)]:List T_strings_span)),(if (decide (pos < (slenS s)))=true then (pos+(rwidS s pos)) else pos))))
      (some (.go (start1,spans2,(if (decide (pos < (slenS s)))=true then (pos+(rwidS s pos)) else pos)))))
     (iteO (decide (start1 < 0))
      (some (.go (pos,spans2,(if (decide (pos < (slenS s)))=true then (pos+(rwidS s pos)) else pos))))
      (some (.go (start1,spans2,(if (decide (pos < (slenS s)))=true then (pos+(rwidS s pos)) else pos))))))
   (some (.out (.go (start1,spans2))))) ((-1),(repL 0 d_strings_span),0)) fun (start,spans) =>
 cutO (iteO (decide (0≤start))
  (chk (growOk 16 ((lenL spans)+1)) <|
   some (.go (spans++([(T_strings_span.mk start (slenS s))]:List T_strings_span))))
  (some (.go spans))) fun spans1 =>
 chk (makeOk 16 (lenL spans1) (lenL spans1)) <|
 cutO (loopO (fun ((v,a1):Int × List ByteArray) =>
  iteO (decide (v < (lenL spans1)))
   (chk (0≤v∧v < (lenL spans1)) <|
    chk (0≤(getL d_strings_span spans1 (0+v)).fstart∧(getL d_strings_span spans1 (0+v)).fstart≤(getL d_strings_span spans1 (0+v)).fend∧(getL d_strings_span spans1 (0+v)).fend≤(slenS s)) <|
    chk (0≤v∧v < (lenL spans1)) <|
    chk (inR .i64 (v+1)) <|
    some (.go ((v+1),(setL a1 v (ssubS s (getL d_strings_span spans1 (0+v)).fstart (getL d_strings_span spans1 (0+v)).fend)))))
   (some (.out (.go a1)))) (0,(repL (lenL spans1) ByteArray.empty))) fun a =>
 some a
noncomputable def ucd_words (e:ByteArray):Option (List ByteArray) :=
 bindO (strings_FieldsFunc_52 e) fun v =>
 some v
def istrconv_underscoreOK (a0:ByteArray):Option Bool:=none
noncomputable def istrconv_ParseUint (s:ByteArray) (base:Int) (bitSize:Int):Option (Int × Unit) :=
 iteO (seqS s (⟨#[]⟩:ByteArray))
  (none)
  (let base0:=(base == 0)
   cutO (iteO (if (decide (2≤base))=true then (decide (base≤36)) else false)
    (some (.go (s,base)))
    (iteO (base == 0)
     (chk ((0:Int)≤0∧(0:Int) < (slenS s)) <|
      iteO ((sidxS s 0) == 48)
       (chk ((decide (3≤(slenS s)))=true→(0:Int)≤1∧(1:Int) < (slenS s)) <|
        bindO (if (decide (3≤(slenS s)))=true then strconv_lower (sidxS s 1) else some 0) fun v5 =>
        iteO (if (decide (3≤(slenS s)))=true then (v5 == 98) else false)
         (chk ((0:Int)≤2∧(2:Int)≤(slenS s)∧(slenS s)≤(slenS s)) <|
          let s2:=(ssubS s 2 (slenS s))
          some (.go (s2,2)))
         (chk ((decide (3≤(slenS s)))=true→(0:Int)≤1∧(1:Int) < (slenS s)) <|
          bindO (if (decide (3≤(slenS s)))=true then strconv_lower (sidxS s 1) else some 0) fun v6 =>
          iteO (if (decide (3≤(slenS s)))=true then (v6 == 111) else false)
           (chk ((0:Int)≤2∧(2:Int)≤(slenS s)∧(slenS s)≤(slenS s)) <|
            let s3:=(ssubS s 2 (slenS s))
            some (.go (s3,8)))
           (chk ((decide (3≤(slenS s)))=true→(0:Int)≤1∧(1:Int) < (slenS s)) <|
            bindO (if (decide (3≤(slenS s)))=true then strconv_lower (sidxS s 1) else some 0) fun v7 =>
            iteO (if (decide (3≤(slenS s)))=true then (v7 == 120) else false)
             (chk ((0:Int)≤2∧(2:Int)≤(slenS s)∧(slenS s)≤(slenS s)) <|
              let s4:=(ssubS s 2 (slenS s))
              some (.go (s4,16)))
             (chk ((0:Int)≤1∧(1:Int)≤(slenS s)∧(slenS s)≤(slenS s)) <|
              let s5:=(ssubS s 1 (slenS s))
              some (.go (s5,8))))))
       (some (.go (s,10))))
     (none))) fun (s1,base1) =>
   cutO (iteO (bitSize == 0)
    (some (.go 64))
    (iteO (if (decide (bitSize < 0))=true then true else (decide (64 < bitSize)))
     (none)
     (some (.go bitSize)))) fun bitSize1 =>
   cutO (iteO (base1 == 10)
    (some (.go 1844674407370955162))
    (iteO (base1 == 16)
     (some (.go 1152921504606846976))
     (chk (((IntKind.wrap .u64 base1):Int)≠0) <|
      chk (inR .u64 (Int.tdiv 18446744073709551615 (IntKind.wrap .u64 base1))) <|
      chk (inR .u64 ((Int.tdiv 18446744073709551615 (IntKind.wrap .u64 base1))+1)) <|
      let cutoff1:=((Int.tdiv 18446744073709551615 (IntKind.wrap .u64 base1))+1)
      some (.go cutoff1)))) fun cutoff =>
   chk ((0:Int)≤(IntKind.wrap .u64 bitSize1)) <|
   chk (inR .u64 ((shlI .u64 1 (IntKind.wrap .u64 bitSize1))-1)) <|
   let maxVal:=((shlI .u64 1 (IntKind.wrap .u64 bitSize1))-1)
   cutO (loopO (fun ((underscores1,n1,v1):Bool × Int × Int) =>
    iteO (decide (v1 < (slenS s1)))
     (cutO (chk (0≤v1∧v1 < (lenL (bytesL s1))) <|
       let c':=(getL 0 (bytesL s1) v1)
       cutO (iteO (if (c' == 95)=true then base0 else false)
        (some (.out (.go (true,n1))))
        (iteO (if (decide (48≤c'))=true then (decide (c'≤57)) else false)
         (chk (inR .u8 (c'-48)) <|
          let d'1:=(c'-48)
          some (.go d'1))
         (bindO (strconv_lower c') fun v2 =>
          bindO (if (decide (97≤v2))=true then strconv_lower c' else some 0) fun v3 =>
          iteO (if (decide (97≤v2))=true then (decide (v3≤122)) else false)
           (bindO (strconv_lower c') fun v4 =>
            chk (inR .u8 (v4-97)) <|
            chk (inR .u8 ((v4-97)+10)) <|
            let d'2:=((v4-97)+10)
            some (.go d'2))
           (none)))) fun d' =>
       iteO (decide ((IntKind.wrap .u8 base1)≤d'))
        (none)
        (iteO (decide (cutoff≤n1))
         (none)
         (chk (inR .u64 (n1*(IntKind.wrap .u64 base1))) <|
          let n3:=(n1*(IntKind.wrap .u64 base1))
          chk (inR .u64 (n3+(IntKind.wrap .u64 d'))) <|
          let n11:=(n3+(IntKind.wrap .u64 d'))
          iteO (if (decide (n11 < n3))=true then true else (decide (maxVal < n11)))
           (none)
           (some (.go (underscores1,n11)))))) fun (underscores2,n2) =>
      chk (inR .i64 (v1+1)) <|
      some (.go (underscores2,n2,(v1+1))))
     (some (.out (.go (underscores1,n1))))) (false,0,0)) fun (underscores,n) =>
   bindO (if underscores=true then istrconv_underscoreOK s else some false) fun v =>
   iteO (if underscores=true then (!v) else false)
    (none)
    (some (n,())))
noncomputable def istrconv_ParseInt (s:ByteArray) (base:Int) (bitSize:Int):Option (Int × Unit) :=
 iteO (seqS s (⟨#[]⟩:ByteArray))
  (none)
  (cutO (chk ((0:Int)≤0∧(0:Int) < (slenS s)) <|
    iteO ((sidxS s 0) == 43)
     (chk ((0:Int)≤1∧(1:Int)≤(slenS s)∧(slenS s)≤(slenS s)) <|
      let s2:=(ssubS s 1 (slenS s))
      some (.go (s2,false)))
     (iteO ((sidxS s 0) == 45)
      (chk ((0:Int)≤1∧(1:Int)≤(slenS s)∧(slenS s)≤(slenS s)) <|
       let s3:=(ssubS s 1 (slenS s))
       some (.go (s3,true)))
      (some (.go (s,false))))) fun (s1,neg) =>
   bindO (istrconv_ParseUint s1 base bitSize) fun v =>
   let un:=v.1
   iteO (if false=true then false else false)
    (some (0,()))
    (iteO (bitSize == 0)
     (chk (inR .i64 (64-1)) <|
      chk ((0:Int)≤(IntKind.wrap .u64 (64-1))) <|
      let cutoff:=(shlI .u64 1 (IntKind.wrap .u64 (64-1)))
      iteO (if (!neg)=true then (decide (cutoff≤un)) else false)
       (none)
       (iteO (if neg=true then (decide (cutoff < un)) else false)
        (none)
        (let n:=(IntKind.wrap .i64 un)
         iteO neg
          (chk (inR .i64 (0-n)) <|
           let n1:=(0-n)
           some (n1,()))
          (some (n,())))))
     (chk (inR .i64 (bitSize-1)) <|
      chk ((0:Int)≤(IntKind.wrap .u64 (bitSize-1))) <|
      let cutoff1:=(shlI .u64 1 (IntKind.wrap .u64 (bitSize-1)))
      iteO (if (!neg)=true then (decide (cutoff1≤un)) else false)
       (none)
       (iteO (if neg=true then (decide (cutoff1 < un)) else false)
        (none)
        (let n2:=(IntKind.wrap .i64 un)
         iteO neg
          (chk (inR .i64 (0-n2)) <|
           let n3:=(0-n2)
           some (n3,()))
          (some (n2,())))))))
noncomputable def strconv_ParseInt (s:ByteArray) (base:Int) (bitSize:Int):Option (Int × Unit) :=
 bindO (istrconv_ParseInt s base bitSize) fun v =>
 let x':=v.1
 some (x',())
noncomputable def ucd_hex (s:ByteArray):Option Int :=
 bindO (strconv_ParseInt s 16 32) fun v =>
 let n:=v.1
 some n
noncomputable def strings_Fields (s:ByteArray):Option (List ByteArray) :=
 cutO (loopO (fun ((n1,wasSpace,setBits1,i9):Int × Int × Int × Int) =>
  iteO (decide (i9 < (slenS s)))
   (chk (0≤i9∧i9 < (slenS s)) <|
    let r':=(sidxS s i9)
    let setBits2:=(borI .u8 setBits1 r')
    chk (0≤r'∧r' < (256:Int)) <|
    let isSpace:=(IntKind.wrap .i64 (gtabS 0 r'))
    chk (inR .i64 (n1+(bndI .i64 wasSpace (bxorI .i64 (-1) isSpace)))) <|
    let n2:=(n1+(bndI .i64 wasSpace (bxorI .i64 (-1) isSpace)))
    chk (inR .i64 (i9+1)) <|
    let i10:=(i9+1)
    some (.go (n2,isSpace,setBits2,i10)))
   (some (.out (.go (n1,setBits1))))) (0,1,0,0)) fun (n,setBits) =>
 iteO (decide (128≤setBits))
  (none)
  (chk (makeOk 16 n n) <|
   cutO (loopO (fun (i7:Int) =>
    chk ((decide (i7 < (slenS s)))=true→0≤i7∧i7 < (slenS s)) <|
    chk ((decide (i7 < (slenS s)))=true→0≤(sidxS s i7)∧(sidxS s i7) < (256:Int)) <|
    iteO (if (decide (i7 < (slenS s)))=true then (!((gtabS 0 (sidxS s i7)) == 0)) else false)
     (chk (inR .i64 (i7+1)) <|
      let i8:=(i7+1)
      some (.go i8))
     (some (.out (.go i7)))) 0) fun i =>
   cutO (loopO (fun ((na1,fieldStart1,i1,a1):Int × Int × Int × List ByteArray) =>
    iteO (decide (i1 < (slenS s)))
     (chk (0≤i1∧i1 < (slenS s)) <|
      chk (0≤(sidxS s i1)∧(sidxS s i1) < (256:Int)) <|
      iteO ((gtabS 0 (sidxS s i1)) == 0)
       (chk (inR .i64 (i1+1)) <|
        let i2:=(i1+1)
        some (.go (na1,fieldStart1,i2,a1)))
       (chk (0≤fieldStart1∧fieldStart1≤i1∧i1≤(slenS s)) <|
        chk (0≤na1∧na1 < n) <|
        chk (inR .i64 (na1+1)) <|
        let na2:=(na1+1)
        chk (inR .i64 (i1+1)) <|
        let i3:=(i1+1)
        cutO (loopO (fun (i5:Int) =>
         chk ((decide (i5 < (slenS s)))=true→0≤i5∧i5 < (slenS s)) <|
         chk ((decide (i5 < (slenS s)))=true→0≤(sidxS s i5)∧(sidxS s i5) < (256:Int)) <|
         iteO (if (decide (i5 < (slenS s)))=true then (!((gtabS 0 (sidxS s i5)) == 0)) else false)
          (chk (inR .i64 (i5+1)) <|
           let i6:=(i5+1)
           some (.go i6))
          (some (.out (.go i5)))) i3) fun i4 =>
        some (.go (na2,i4,i4,(setL a1 na1 (ssubS s fieldStart1 i1))))))
     (some (.out (.go (na1,fieldStart1,a1))))) (0,i,i,(repL n ByteArray.empty))) fun (na,fieldStart,a) =>
   iteO (decide (fieldStart < (slenS s)))
    (chk (0≤fieldStart∧fieldStart≤(slenS s)∧(slenS s)≤(slenS s)) <|
     chk (0≤na∧na < n) <|
     some (setL a na (ssubS s fieldStart (slenS s))))
    (some a))
noncomputable def ucd_className (s:ByteArray):Option Int :=
 cutO (bindO (strings_Fields kS0) fun v =>
  loopO (fun (v1:Int) =>
   iteO (decide (v1 < (lenL v)))
    (chk (0≤v1∧v1 < (lenL v)) <|
     let n:=(getL ByteArray.empty v (0+v1))
     iteO (seqS n s)
      (chk (inR .i64 (v1+1)) <|
       some (.out (.out (v1+1))))
      (chk (inR .i64 (v1+1)) <|
       some (.go (v1+1))))
    (some (.out (.go ())))) 0) fun (_:Unit) =>
 some 0
noncomputable def ucd_wideName (s:ByteArray):Option Int :=
 bindO (ucd_hex s) fun v =>
 chk (inR .i64 (v+1)) <|
 some (v+1)
noncomputable def ucd_joinName (s:ByteArray):Option Int :=
 iteO (seqS s (⟨#[82]⟩:ByteArray))
  (some 1)
  (iteO (seqS s (⟨#[68]⟩:ByteArray))
   (some 2)
   (iteO (seqS s (⟨#[67]⟩:ByteArray))
    (some 3)
    (iteO (seqS s (⟨#[84]⟩:ByteArray))
     (some 4)
     (some 0))))
noncomputable def ucd_table_class (text:ByteArray):Option T_ranges_Table :=
 cutO (bindO (strings_Split text (⟨#[44]⟩:ByteArray)) fun v =>
  loopO (fun ((v1,o1):Int × List T_ranges_Row) =>
   iteO (decide (v1 < (lenL v)))
    (cutO (chk (0≤v1∧v1 < (lenL v)) <|
      let e:=(getL ByteArray.empty v (0+v1))
      bindO (ucd_words e) fun v2 =>
      cutO (cutO (iteO ((lenL v2) == 3)
        (chk ((0:Int)≤1∧(1:Int) < (lenL v2)) <|
         bindO (ucd_hex (getL ByteArray.empty v2 (0+1))) fun v5 =>
         some (.go v5))
        (iteO ((lenL v2) == 2)
         (some (.go 0))
         (some (.out (.go (0,0,0)))))) fun b9_11 =>
       chk ((0:Int)≤0∧(0:Int) < (lenL v2)) <|
       bindO (ucd_hex (getL ByteArray.empty v2 (0+0))) fun v3 =>
       chk (inR .i64 ((lenL v2)-1)) <|
       chk (0≤((lenL v2)-1)∧((lenL v2)-1) < (lenL v2)) <|
       bindO (ucd_className (getL ByteArray.empty v2 (0+((lenL v2)-1)))) fun v4 =>
       some (.go (v3,b9_11,v4))) fun (b9_0,b9_1,b9_2) =>
      chk (growOk 24 ((lenL o1)+1)) <|
      some (.go (o1++([(T_ranges_Row.mk b9_0 (imaxI b9_0 b9_1) b9_2)]:List T_ranges_Row)))) fun o2 =>
     chk (inR .i64 (v1+1)) <|
     some (.go ((v1+1),o2)))
    (some (.out (.go o1)))) (0,([]:List T_ranges_Row))) fun o =>
 some (T_ranges_Table.mk o)
noncomputable def ucd_table_wide (text:ByteArray):Option T_ranges_Table :=
 cutO (bindO (strings_Split text (⟨#[44]⟩:ByteArray)) fun v =>
  loopO (fun ((v1,o1):Int × List T_ranges_Row) =>
   iteO (decide (v1 < (lenL v)))
    (cutO (chk (0≤v1∧v1 < (lenL v)) <|
      let e:=(getL ByteArray.empty v (0+v1))
      bindO (ucd_words e) fun v2 =>
      cutO (cutO (iteO ((lenL v2) == 3)
        (chk ((0:Int)≤1∧(1:Int) < (lenL v2)) <|
         bindO (ucd_hex (getL ByteArray.empty v2 (0+1))) fun v5 =>
         some (.go v5))
        (iteO ((lenL v2) == 2)
         (some (.go 0))
         (some (.out (.go (0,0,0)))))) fun b9_11 =>
       chk ((0:Int)≤0∧(0:Int) < (lenL v2)) <|
       bindO (ucd_hex (getL ByteArray.empty v2 (0+0))) fun v3 =>
       chk (inR .i64 ((lenL v2)-1)) <|
       chk (0≤((lenL v2)-1)∧((lenL v2)-1) < (lenL v2)) <|
       bindO (ucd_wideName (getL ByteArray.empty v2 (0+((lenL v2)-1)))) fun v4 =>
       some (.go (v3,b9_11,v4))) fun (b9_0,b9_1,b9_2) =>
      chk (growOk 24 ((lenL o1)+1)) <|
      some (.go (o1++([(T_ranges_Row.mk b9_0 (imaxI b9_0 b9_1) b9_2)]:List T_ranges_Row)))) fun o2 =>
     chk (inR .i64 (v1+1)) <|
     some (.go ((v1+1),o2)))
    (some (.out (.go o1)))) (0,([]:List T_ranges_Row))) fun o =>
 some (T_ranges_Table.mk o)
noncomputable def ucd_table_join (text:ByteArray):Option T_ranges_Table :=
 cutO (bindO (strings_Split text (⟨#[44]⟩:ByteArray)) fun v =>
  loopO (fun ((v1,o1):Int × List T_ranges_Row) =>
   iteO (decide (v1 < (lenL v)))
    (cutO (chk (0≤v1∧v1 < (lenL v)) <|
      let e:=(getL ByteArray.empty v (0+v1))
      bindO (ucd_words e) fun v2 =>
      cutO (cutO (iteO ((lenL v2) == 3)
        (chk ((0:Int)≤1∧(1:Int) < (lenL v2)) <|
         bindO (ucd_hex (getL ByteArray.empty v2 (0+1))) fun v5 =>
         some (.go v5))
        (iteO ((lenL v2) == 2)
         (some (.go 0))
         (some (.out (.go (0,0,0)))))) fun b9_11 =>
       chk ((0:Int)≤0∧(0:Int) < (lenL v2)) <|
       bindO (ucd_hex (getL ByteArray.empty v2 (0+0))) fun v3 =>
       chk (inR .i64 ((lenL v2)-1)) <|
       chk (0≤((lenL v2)-1)∧((lenL v2)-1) < (lenL v2)) <|
       bindO (ucd_joinName (getL ByteArray.empty v2 (0+((lenL v2)-1)))) fun v4 =>
       some (.go (v3,b9_11,v4))) fun (b9_0,b9_1,b9_2) =>
      chk (growOk 24 ((lenL o1)+1)) <|
      some (.go (o1++([(T_ranges_Row.mk b9_0 (imaxI b9_0 b9_1) b9_2)]:List T_ranges_Row)))) fun o2 =>
     chk (inR .i64 (v1+1)) <|
     some (.go ((v1+1),o2)))
    (some (.out (.go o1)))) (0,([]:List T_ranges_Row))) fun o =>
 some (T_ranges_Table.mk o)
noncomputable def ucd_pairs (text:ByteArray):Option (List T_ucd_Pair) :=
 cutO (bindO (strings_Split text (⟨#[44]⟩:ByteArray)) fun v =>
  loopO (fun ((v1,l'1):Int × List T_ucd_Pair) =>
   iteO (decide (v1 < (lenL v)))
    (chk (0≤v1∧v1 < (lenL v)) <|
     let e:=(getL ByteArray.empty v (0+v1))
     bindO (ucd_words e) fun v2 =>
     iteO ((lenL v2) == 2)
      (chk ((0:Int)≤0∧(0:Int) < (lenL v2)) <|
       bindO (ucd_hex (getL ByteArray.empty v2 (0+0))) fun v3 =>
       chk ((0:Int)≤1∧(1:Int) < (lenL v2)) <|
       bindO (ucd_hex (getL ByteArray.empty v2 (0+1))) fun v4 =>
       chk (growOk 16 ((lenL l'1)+1)) <|
       chk (inR .i64 (v1+1)) <|
       some (.go ((v1+1),(l'1++([(T_ucd_Pair.mk v3 v4)]:List T_ucd_Pair)))))
      (chk (inR .i64 (v1+1)) <|
       some (.go ((v1+1),l'1))))
    (some (.out (.go l'1)))) (0,([]:List T_ucd_Pair))) fun l' =>
 some l'
noncomputable def ucd_forms (text:ByteArray):Option (List T_ucd_Form) :=
 cutO (bindO (strings_Split text (⟨#[44]⟩:ByteArray)) fun v =>
  loopO (fun ((v1,l'1):Int × List T_ucd_Form) =>
   iteO (decide (v1 < (lenL v)))
    (chk (0≤v1∧v1 < (lenL v)) <|
     let e:=(getL ByteArray.empty v (0+v1))
     bindO (ucd_words e) fun v2 =>
     iteO ((lenL v2) == 3)
      (chk ((0:Int)≤0∧(0:Int) < (lenL v2)) <|
       bindO (ucd_hex (getL ByteArray.empty v2 (0+0))) fun v3 =>
       chk ((0:Int)≤1∧(1:Int) < (lenL v2)) <|
       bindO (ucd_hex (getL ByteArray.empty v2 (0+1))) fun v4 =>
       chk ((0:Int)≤2∧(2:Int) < (lenL v2)) <|
       bindO (ucd_hex (getL ByteArray.empty v2 (0+2))) fun v5 =>
       chk (growOk 24 ((lenL l'1)+1)) <|
       chk (inR .i64 (v1+1)) <|
       some (.go ((v1+1),(l'1++([(T_ucd_Form.mk v3 v4 v5)]:List T_ucd_Form)))))
      (chk (inR .i64 (v1+1)) <|
       some (.go ((v1+1),l'1))))
    (some (.out (.go l'1)))) (0,([]:List T_ucd_Form))) fun l' =>
 some l'
noncomputable def ucd_Load  : Option T_ucd_Data :=
 bindO (ucd_table_class kS1) fun v =>
 bindO (ucd_table_wide kS2) fun v1 =>
 bindO (ucd_table_join kS3) fun v2 =>
 bindO (ucd_pairs kS4) fun v3 =>
 bindO (ucd_pairs kS5) fun v4 =>
 bindO (ucd_forms kS6) fun v5 =>
 some (T_ucd_Data.mk v v1 v2 v3 v4 v5)
noncomputable def ranges_Get (t':T_ranges_Table) (r':Int):Option Int :=
 cutO (loopO (fun (v:Int) =>
  iteO (decide (v < (lenL t'.fL)))
   (chk (0≤v∧v < (lenL t'.fL)) <|
    iteO (if (decide ((getL d_ranges_Row t'.fL v).fLo≤r'))=true then (decide (r'≤(getL d_ranges_Row t'.fL v).fHi)) else false)
     (some (.out (.out (getL d_ranges_Row t'.fL v).fV)))
     (chk (inR .i64 (v+1)) <|
      some (.go (v+1))))
   (some (.out (.go ())))) 0) fun (_:Unit) =>
 some 0
noncomputable def ucd_Bracket (d':T_ucd_Data) (r':Int):Option (Int × Int) :=
 cutO (loopO (fun (v:Int) =>
  iteO (decide (v < (lenL d'.fBrackets)))
   (chk (0≤v∧v < (lenL d'.fBrackets)) <|
    iteO (r' == (getL d_ucd_Pair d'.fBrackets v).fA)
     (some (.out (.out ((getL d_ucd_Pair d'.fBrackets v).fB,1))))
     (iteO (r' == (getL d_ucd_Pair d'.fBrackets v).fB)
      (some (.out (.out ((getL d_ucd_Pair d'.fBrackets v).fA,2))))
      (chk (inR .i64 (v+1)) <|
       some (.go (v+1)))))
   (some (.out (.go ())))) 0) fun (_:Unit) =>
 some (0,0)
noncomputable def ucd_Class (d':T_ucd_Data) (r':Int):Option Int :=
 bindO (ranges_Get d'.fClass r') fun v =>
 iteO (decide (0 < v))
  (some v)
  (some 1)
noncomputable def si_push (s:T_embed_stack_int_) (x':Int):Option (T_embed_stack_int_) :=
 chk (growOk 8 ((lenL s.fl)+1)) <|
 some (T_embed_stack_int_.mk (s.fl++([x']:List Int)))
noncomputable def si_size (s:T_embed_stack_int_):Option Int :=
 some (lenL s.fl)
noncomputable def si_last (s:T_embed_stack_int_):Option Int :=
 chk (inR .i64 ((lenL s.fl)-1)) <|
 chk (0≤((lenL s.fl)-1)∧((lenL s.fl)-1) < (lenL s.fl)) <|
 some (getL 0 s.fl ((lenL s.fl)-1))
noncomputable def si_pop (s:T_embed_stack_int_):Option (T_embed_stack_int_) :=
 chk (inR .i64 ((lenL s.fl)-1)) <|
 chk ((0:Int)≤0∧(0:Int)≤((lenL s.fl)-1)∧((lenL s.fl)-1)≤(lenL s.fl)) <|
 some (T_embed_stack_int_.mk (subL s.fl (0+0) ((0+0)+(((lenL s.fl)-1)-0))))
noncomputable def embed_known (l':(List Int)):Option (List Int) :=
 chk (makeOk 8 (lenL l') (lenL l')) <|
 cutO (loopO (fun ((v,out1):Int × List Int) =>
  iteO (decide (v < (lenL l')))
   (chk (0≤v∧v < (lenL l')) <|
    let c':=(getL 0 l' v)
    iteO (if (decide (c' < 1))=true then true else (decide (23 < c')))
     (chk (0≤v∧v < (lenL l')) <|
      chk (inR .i64 (v+1)) <|
      some (.go ((v+1),(setL out1 v 14))))
     (chk (0≤v∧v < (lenL l')) <|
      chk (inR .i64 (v+1)) <|
      some (.go ((v+1),(setL out1 v c')))))
   (some (.out (.go out1)))) (0,(repL (lenL l') 0))) fun out =>
 some out
noncomputable def embed_parity (base:Int):Option Int :=
 chk ((2:Int)≠0) <|
 some (Int.tmod (imaxI base 0) 2)
noncomputable def ss_push (s:T_embed_status_) (x':T_embed_status):Option (T_embed_status_) :=
 chk (growOk 24 ((lenL s.fl)+1)) <|
 some (T_embed_status_.mk (s.fl++([x']:List T_embed_status)))
noncomputable def ss_last (s:T_embed_status_):Option T_embed_status :=
 chk (inR .i64 ((lenL s.fl)-1)) <|
 chk (0≤((lenL s.fl)-1)∧((lenL s.fl)-1) < (lenL s.fl)) <|
 some (getL d_embed_status s.fl ((lenL s.fl)-1))
noncomputable def ss_pop (s:T_embed_status_):Option (T_embed_status_) :=
 chk (inR .i64 ((lenL s.fl)-1)) <|
 chk ((0:Int)≤0∧(0:Int)≤((lenL s.fl)-1)∧((lenL s.fl)-1)≤(lenL s.fl)) <|
 some (T_embed_status_.mk (subL s.fl (0+0) ((0+0)+(((lenL s.fl)-1)-0))))
noncomputable def ss_size (s:T_embed_status_):Option Int :=
 some (lenL s.fl)
noncomputable def embed_isolate (c':Int):Option Bool :=
 some (if (if (c' == 20)=true then true else (c' == 21))=true then true else (c' == 22))
noncomputable def embed_side (level:Int):Option Int :=
 iteO ((bndI .i64 level 1) == 1)
  (some 2)
  (some 1)
noncomputable def embed_base_ (l':(List Int)) (match':(List Int)) (from':Int) (to:Int):Option Int :=
 cutO (loopO (fun (i:Int) =>
  iteO (decide (i < to))
   (cutO (chk (0≤i∧i < (lenL l')) <|
     cutO (iteO ((getL 0 l' i) == 1)
      (some (.go ((getL 0 l' i) == 1)))
      (some (.go ((getL 0 l' i) == 11)))) fun v =>
     iteO v
      (some (.out (.out (.out 0))))
      (cutO (iteO ((getL 0 l' i) == 2)
        (some (.go ((getL 0 l' i) == 2)))
        (some (.go ((getL 0 l' i) == 3)))) fun v1 =>
       iteO v1
        (some (.out (.out (.out 1))))
        (iteO ((getL 0 l' i) == 20)
         (iteO ((getL 0 l' i) == 20)
          (chk (0≤i∧i < (lenL match')) <|
           let i3:=(getL 0 match' i)
           some (.go i3))
          (some (.go i)))
         (iteO ((getL 0 l' i) == 21)
          (iteO ((getL 0 l' i) == 21)
           (chk (0≤i∧i < (lenL match')) <|
            let i4:=(getL 0 match' i)
            some (.go i4))
           (some (.go i)))
          (iteO ((getL 0 l' i) == 22)
           (chk (0≤i∧i < (lenL match')) <|
            let i5:=(getL 0 match' i)
            some (.go i5))
           (some (.go i))))))) fun i1 =>
    chk (inR .i64 (i1+1)) <|
    let i2:=(i1+1)
    some (.go i2))
   (some (.out (.go ())))) from') fun (_:Unit) =>
 some 0
noncomputable def embed_Match (l':(List Int)):Option (List Int) :=
 chk (makeOk 8 (lenL l') (lenL l')) <|
 cutO (loopO (fun ((v,out1,o):Int × List Int × List Int) =>
  iteO (decide (v < (lenL l')))
   (cutO (chk (0≤v∧v < (lenL l')) <|
     let c':=(getL 0 l' v)
     chk (0≤v∧v < (lenL l')) <|
     cutO (iteO (c' == 20)
      (some (.go (c' == 20)))
      (iteO (c' == 21)
       (some (.go (c' == 21)))
       (some (.go (c' == 22))))) fun v1 =>
     iteO v1
      (chk (0≤v∧v < (lenL l')) <|
       bindO (si_push (T_embed_stack_int_.mk o) v) fun v2 =>
       some (.go ((setL (setL out1 v (-1)) v (lenL l')),v2.fl)))
      (iteO (c' == 23)
       (bindO (si_size (T_embed_stack_int_.mk o)) fun v3 =>
        iteO (decide (0 < v3))
         (bindO (si_last (T_embed_stack_int_.mk o)) fun v4 =>
          chk (0≤v∧v < (lenL l')) <|
          bindO (si_last (T_embed_stack_int_.mk o)) fun v5 =>
          chk (0≤v5∧v5 < (lenL l')) <|
          bindO (si_pop (T_embed_stack_int_.mk o)) fun v6 =>
          some (.go ((setL (setL (setL out1 v (-1)) v v4) v5 v),v6.fl)))
         (some (.go ((setL out1 v (-1)),o))))
       (iteO (c' == 11)
        (some (.go ((setL out1 v (-1)),([]:List Int))))
        (some (.go ((setL out1 v (-1)),o)))))) fun (out2,o1) =>
    chk (inR .i64 (v+1)) <|
    some (.go ((v+1),out2,o1)))
   (some (.out (.go out1)))) (0,(repL (lenL l') 0),([]:List Int))) fun out =>
 some out
noncomputable def embed_Base (l':(List Int)):Option Int :=
 bindO (embed_Match l') fun v =>
 bindO (embed_base_ l' v 0 (lenL l')) fun v1 =>
 some v1
noncomputable def embed_fits (l':(List Int)) (r':T_embed_Run):Option Bool :=
 some (if (if ((lenL r'.fLevels) == (lenL l'))=true then ((lenL r'.fClasses) == (lenL l')) else false)=true then ((lenL r'.fRemoved) == (lenL l')) else false)
noncomputable def m_next (m:T_embed_machine) (odd:Bool):Option (Int × Bool) :=
 bindO (ss_last m.fopen) fun v =>
 chk (inR .i64 (v.flevel+1)) <|
 let level:=(v.flevel+1)
 chk ((2:Int)≠0) <|
 iteO (!(((Int.tmod level 2) == 1) == odd))
  (chk (inR .i64 (level+1)) <|
   let level1:=(level+1)
   some (level1,(if (if (decide (level1≤125))=true then (m.fisolates == 0) else false)=true then (m.fembeddings == 0) else false)))
  (some (level,(if (if (decide (level≤125))=true then (m.fisolates == 0) else false)=true then (m.fembeddings == 0) else false)))
noncomputable def m_take (m:T_embed_machine) (i:Int):Option (T_embed_machine) :=
 bindO (ss_last m.fopen) fun v =>
 chk (0≤i∧i < (lenL m.frun.fLevels)) <|
 iteO (!(v.foverride == 14))
  (chk (0≤i∧i < (lenL m.frun.fClasses)) <|
   some (T_embed_machine.mk m.fl m.fmatch m.fbase (T_embed_Run.mk (setL m.frun.fLevels i v.flevel) (setL m.frun.fClasses i v.foverride) m.frun.fRemoved) m.fopen m.fisolates m.fembeddings m.fvalid))
  (some (T_embed_machine.mk m.fl m.fmatch m.fbase (T_embed_Run.mk (setL m.frun.fLevels i v.flevel) m.frun.fClasses m.frun.fRemoved) m.fopen m.fisolates m.fembeddings m.fvalid))
noncomputable def m_remove (m:T_embed_machine) (i:Int):Option (T_embed_machine) :=
 bindO (ss_last m.fopen) fun v =>
 chk (0≤i∧i < (lenL m.frun.fLevels)) <|
 chk (0≤i∧i < (lenL m.frun.fRemoved)) <|
 some (T_embed_machine.mk m.fl m.fmatch m.fbase (T_embed_Run.mk (setL m.frun.fLevels i v.flevel) m.frun.fClasses (setL m.frun.fRemoved i true)) m.fopen m.fisolates m.fembeddings m.fvalid)
noncomputable def m_embed (m:T_embed_machine) (i:Int) (c':Int):Option (T_embed_machine) :=
 bindO (m_remove m i) fun v =>
 bindO (m_next v (if (c' == 17)=true then true else (c' == 18))) fun v1 =>
 let level:=v1.1
 let may:=v1.2
 iteO (!may)
  (iteO (v.fisolates == 0)
   (chk (inR .i64 (v.fembeddings+1)) <|
    some (T_embed_machine.mk v.fl v.fmatch v.fbase v.frun v.fopen v.fisolates (v.fembeddings+1) v.fvalid))
   (some v))
  (cutO (iteO (c' == 18)
    (some (.go 2))
    (iteO (c' == 16)
     (some (.go 1))
     (some (.go 14)))) fun override =>
   bindO (ss_push v.fopen (T_embed_status.mk level override false)) fun v2 =>
   some (T_embed_machine.mk v.fl v.fmatch v.fbase v.frun v2 v.fisolates v.fembeddings v.fvalid))
noncomputable def m_isolate (m:T_embed_machine) (i:Int) (c':Int):Option (T_embed_machine) :=
 let odd:=(c' == 21)
 cutO (iteO (c' == 22)
  (chk (inR .i64 (i+1)) <|
   chk (0≤i∧i < (lenL m.fmatch)) <|
   bindO (embed_base_ m.fl m.fmatch (i+1) (getL 0 m.fmatch i)) fun v3 =>
   let odd2:=(v3 == 1)
   some (.go odd2))
  (some (.go odd))) fun odd1 =>
 bindO (m_take m i) fun v =>
 bindO (m_next v odd1) fun v1 =>
 let level:=v1.1
 let may:=v1.2
 iteO (!may)
  (chk (inR .i64 (v.fisolates+1)) <|
   some (T_embed_machine.mk v.fl v.fmatch v.fbase v.frun v.fopen (v.fisolates+1) v.fembeddings v.fvalid))
  (chk (inR .i64 (v.fvalid+1)) <|
   bindO (ss_push v.fopen (T_embed_status.mk level 14 true)) fun v2 =>
   some (T_embed_machine.mk v.fl v.fmatch v.fbase v.frun v2 v.fisolates v.fembeddings (v.fvalid+1)))
noncomputable def m_endIsolate (m:T_embed_machine):Option (T_embed_machine) :=
 iteO (decide (0 < m.fisolates))
  (chk (inR .i64 (m.fisolates-1)) <|
   some (T_embed_machine.mk m.fl m.fmatch m.fbase m.frun m.fopen (m.fisolates-1) m.fembeddings m.fvalid))
  (iteO (m.fvalid == 0)
   (some m)
   (cutO (loopO (fun (o1:List T_embed_status) =>
     bindO (ss_last (T_embed_status_.mk o1)) fun v1 =>
     iteO (!v1.fisolate)
      (bindO (ss_pop (T_embed_status_.mk o1)) fun v2 =>
       some (.go v2.fl))
      (some (.out (.go o1)))) m.fopen.fl) fun o =>
    bindO (ss_pop (T_embed_status_.mk o)) fun v =>
    chk (inR .i64 (m.fvalid-1)) <|
    some (T_embed_machine.mk m.fl m.fmatch m.fbase m.frun v m.fisolates 0 (m.fvalid-1))))
noncomputable def m_endEmbedding (m:T_embed_machine):Option (T_embed_machine) :=
 iteO (decide (0 < m.fisolates))
  (some m)
  (iteO (decide (0 < m.fembeddings))
   (chk (inR .i64 (m.fembeddings-1)) <|
    some (T_embed_machine.mk m.fl m.fmatch m.fbase m.frun m.fopen m.fisolates (m.fembeddings-1) m.fvalid))
   (bindO (ss_last m.fopen) fun v =>
    bindO (if (!v.fisolate)=true then ss_size m.fopen else some 0) fun v1 =>
    iteO (if (!v.fisolate)=true then (decide (2≤v1)) else false)
     (bindO (ss_pop m.fopen) fun v2 =>
      some (T_embed_machine.mk m.fl m.fmatch m.fbase m.frun v2 m.fisolates m.fembeddings m.fvalid))
     (some m)))
noncomputable def embed_Explicit (l':(List Int)) (base:Int):Option T_embed_Run :=
 cutO (bindO (embed_known l') fun v12 =>
  bindO (embed_Match v12) fun v13 =>
  bindO (embed_parity base) fun v14 =>
  chk (makeOk 8 (lenL v12) (lenL v12)) <|
  chk (growOk 8 (lenL v12)) <|
  chk (makeOk 1 (lenL v12) (lenL v12)) <|
  some (.go (v12,v12,v13,v14,(repL (lenL v12) 0),v12,(repL (lenL v12) false),([]:List T_embed_status)))) fun (l'1,b5_0,b5_1,b5_2,o,o1,o2,o3) =>
 bindO (ss_push (T_embed_status_.mk o3) (T_embed_status.mk b5_2 14 false)) fun v =>
 cutO (loopO (fun ((v1,b5_02,b5_12,b5_22,b5_71,b5_81,b5_91,o8,o9,o10,o11):Int × List Int × List Int × Int × Int × Int × Int × List Int × List Int × List Bool × List T_embed_status) =>
  iteO (decide (v1 < (lenL l'1)))
   (cutO (chk (0≤v1∧v1 < (lenL l'1)) <|
     let c':=(getL 0 l'1 v1)
     cutO (iteO (c' == 17)
      (some (.go (c' == 17)))
      (iteO (c' == 15)
       (some (.go (c' == 15)))
       (iteO (c' == 18)
        (some (.go (c' == 18)))
        (some (.go (c' == 16)))))) fun v2 =>
     iteO v2
      (bindO (m_embed (T_embed_machine.mk b5_02 b5_12 b5_22 (T_embed_Run.mk o8 o9 o10) (T_embed_status_.mk o11) b5_71 b5_81 b5_91) v1 c') fun v3 =>
       some (.go (v3.fl,v3.fmatch,v3.fbase,v3.fisolates,v3.fembeddings,v3.fvalid,v3.frun.fLevels,v3.frun.fClasses,v3.frun.fRemoved,v3.fopen.fl)))
      (cutO (iteO (c' == 21)
        (some (.go (c' == 21)))
        (iteO (c' == 20)
         (some (.go (c' == 20)))
         (some (.go (c' == 22))))) fun v4 =>
       iteO v4
        (bindO (m_isolate (T_embed_machine.mk b5_02 b5_12 b5_22 (T_embed_Run.mk o8 o9 o10) (T_embed_status_.mk o11) b5_71 b5_81 b5_91) v1 c') fun v5 =>
         some (.go (v5.fl,v5.fmatch,v5.fbase,v5.fisolates,v5.fembeddings,v5.fvalid,v5.frun.fLevels,v5.frun.fClasses,v5.frun.fRemoved,v5.fopen.fl)))
        (iteO (c' == 23)
         (bindO (m_endIsolate (T_embed_machine.mk b5_02 b5_12 b5_22 (T_embed_Run.mk o8 o9 o10) (T_embed_status_.mk o11) b5_71 b5_81 b5_91)) fun v6 =>
          bindO (m_take v6 v1) fun v7 =>
          some (.go (v7.fl,v7.fmatch,v7.fbase,v7.fisolates,v7.fembeddings,v7.fvalid,v7.frun.fLevels,v7.frun.fClasses,v7.frun.fRemoved,v7.fopen.fl)))
         (iteO (c' == 19)
          (bindO (m_remove (T_embed_machine.mk b5_02 b5_12 b5_22 (T_embed_Run.mk o8 o9 o10) (T_embed_status_.mk o11) b5_71 b5_81 b5_91) v1) fun v8 =>
           bindO (m_endEmbedding v8) fun v9 =>
           some (.go (v9.fl,v9.fmatch,v9.fbase,v9.fisolates,v9.fembeddings,v9.fvalid,v9.frun.fLevels,v9.frun.fClasses,v9.frun.fRemoved,v9.fopen.fl)))
          (iteO (c' == 11)
           (chk (0≤v1∧v1 < (lenL o8)) <|
            some (.go (b5_02,b5_12,b5_22,b5_71,b5_81,b5_91,(setL o8 v1 b5_22),o9,o10,o11)))
           (iteO (c' == 10)
            (bindO (m_remove (T_embed_machine.mk b5_02 b5_12 b5_22 (T_embed_Run.mk o8 o9 o10) (T_embed_status_.mk o11) b5_71 b5_81 b5_91) v1) fun v10 =>
             some (.go (v10.fl,v10.fmatch,v10.fbase,v10.fisolates,v10.fembeddings,v10.fvalid,v10.frun.fLevels,v10.frun.fClasses,v10.frun.fRemoved,v10.fopen.fl)))
            (bindO (m_take (T_embed_machine.mk b5_02 b5_12 b5_22 (T_embed_Run.mk o8 o9 o10) (T_embed_status_.mk o11) b5_71 b5_81 b5_91) v1) fun v11 =>
             some (.go (v11.fl,v11.fmatch,v11.fbase,v11.fisolates,v11.fembeddings,v11.fvalid,v11.frun.fLevels,v11.frun.fClasses,v11.frun.fRemoved,v11.fopen.fl))))))))) fun (b5_03,b5_13,b5_23,b5_72,b5_82,b5_92,o12,o13,o14,o15) =>
    chk (inR .i64 (v1+1)) <|
    some (.go ((v1+1),b5_03,b5_13,b5_23,b5_72,b5_82,b5_92,o12,o13,o14,o15)))
   (some (.out (.go (b5_02,b5_12,b5_22,b5_71,b5_81,b5_91,o8,o9,o10,o11))))) (0,b5_0,b5_1,b5_2,0,0,0,o,o1,o2,v.fl)) fun (b5_01,b5_11,b5_21,b5_7,b5_8,b5_9,o4,o5,o6,o7) =>
 some (T_embed_Run.mk o4 o5 o6)
noncomputable def embed_runs (r':T_embed_Run):Option (List (List Int)) :=
 cutO (loopO (fun ((v,out1):Int × List (List Int)) =>
  iteO (decide (v < (lenL r'.fRemoved)))
   (chk (0≤v∧v < (lenL r'.fRemoved)) <|
    let gone:=(getL false r'.fRemoved v)
    iteO gone
     (chk (inR .i64 (v+1)) <|
      some (.go ((v+1),out1)))
     (let n:=(lenL out1)
      chk ((!(n == 0))=true→inR .i64 (n-1)) <|
      chk ((!(n == 0))=true→0≤(n-1)∧(n-1) < (lenL out1)) <|
      chk ((!(n == 0))=true→(0:Int)≤0∧(0:Int) < (lenL (getL [] out1 ((lenL out1)-1)))) <|
      chk ((!(n == 0))=true→0≤(getL 0 (getL [] out1 ((lenL out1)-1)) (0+0))∧(getL 0 (getL [] out1 ((lenL out1)-1)) (0+0)) < (lenL r'.fLevels)) <|
      chk ((!(n == 0))=true→0≤v∧v < (lenL r'.fLevels)) <|
      iteO (if (n == 0)=true then true else (!((getL 0 r'.fLevels (getL 0 (getL [] out1 ((lenL out1)-1)) (0+0))) == (getL 0 r'.fLevels v))))
       (chk (growOk 24 ((lenL out1)+1)) <|
        chk (inR .i64 (v+1)) <|
        some (.go ((v+1),(out1++([([v]:List Int)]:List (List Int))))))
       (chk (inR .i64 (n-1)) <|
        chk (inR .i64 (n-1)) <|
        chk (0≤(n-1)∧(n-1) < (lenL out1)) <|
        chk (growOk 8 ((lenL (getL [] out1 ((lenL out1)-1)))+1)) <|
        chk (0≤(n-1)∧(n-1) < (lenL out1)) <|
        chk (inR .i64 (v+1)) <|
        some (.go ((v+1),(setL out1 (n-1) ((getL [] out1 ((lenL out1)-1))++([v]:List Int))))))))
   (some (.out (.go out1)))) (0,([]:List (List Int)))) fun out =>
 some out
noncomputable def embed_Sequences (l':(List Int)) (r':T_embed_Run) (base:Int):Option (List (List Int)) :=
 bindO (embed_fits l' r') fun v =>
 iteO (!v)
  (some ([]:List (List Int)))
  (bindO (embed_Match l') fun v1 =>
   bindO (embed_runs r') fun v2 =>
   chk (inR .i64 ((lenL l')+1)) <|
   chk (makeOk 8 ((lenL l')+1) ((lenL l')+1)) <|
   cutO (loopO (fun ((v7,heads3):Int × List Int) =>
    iteO (decide (v7 < ((lenL l')+1)))
     (chk (0≤v7∧v7 < ((lenL l')+1)) <|
      chk (inR .i64 (v7+1)) <|
      some (.go ((v7+1),(setL heads3 v7 (-1)))))
     (some (.out (.go heads3)))) (0,(repL ((lenL l')+1) 0))) fun heads =>
   cutO (loopO (fun ((v6,heads2):Int × List Int) =>
    iteO (decide (v6 < (lenL v2)))
     (chk (0≤v6∧v6 < (lenL v2)) <|
      chk ((0:Int)≤0∧(0:Int) < (lenL (getL [] v2 (0+v6)))) <|
      chk (0≤(getL 0 (getL [] v2 (0+v6)) 0)∧(getL 0 (getL [] v2 (0+v6)) 0) < ((lenL l')+1)) <|
      chk (inR .i64 (v6+1)) <|
      some (.go ((v6+1),(setL heads2 (getL 0 (getL [] v2 (0+v6)) 0) v6))))
     (some (.out (.go heads2)))) (0,heads)) fun heads1 =>
   chk (makeOk 8 (lenL v2) (lenL v2)) <|
   chk (makeOk 1 (lenL v2) (lenL v2)) <|
   cutO (loopO (fun ((v4,behind1,joined1):Int × List Int × List Bool) =>
    iteO (decide (v4 < (lenL v2)))
     (chk (0≤v4∧v4 < (lenL v2)) <|
      chk (0≤v4∧v4 < (lenL v2)) <|
      chk (inR .i64 ((lenL (getL [] v2 (0+v4)))-1)) <|
      chk (0≤((lenL (getL [] v2 (0+v4)))-1)∧((lenL (getL [] v2 (0+v4)))-1) < (lenL (getL [] v2 (0+v4)))) <|
      let end':=(getL 0 (getL [] v2 (0+v4)) ((lenL (getL [] v2 (0+v4)))-1))
      chk (0≤end'∧end' < (lenL l')) <|
      bindO (embed_isolate (getL 0 l' end')) fun v5 =>
      iteO (!v5)
       (chk (inR .i64 (v4+1)) <|
        some (.go ((v4+1),(setL behind1 v4 (-1)),joined1)))
       (chk (0≤end'∧end' < (lenL v1)) <|
        chk (0≤(getL 0 v1 (0+end'))∧(getL 0 v1 (0+end')) < ((lenL l')+1)) <|
        let to:=(getL 0 heads1 (0+(getL 0 v1 (0+end'))))
        iteO (decide (0≤to))
         (chk (0≤v4∧v4 < (lenL v2)) <|
          chk (0≤to∧to < (lenL v2)) <|
          chk (inR .i64 (v4+1)) <|
          some (.go ((v4+1),(setL (setL behind1 v4 (-1)) v4 to),(setL joined1 to true))))
         (chk (inR .i64 (v4+1)) <|
          some (.go ((v4+1),(setL behind1 v4 (-1)),joined1)))))
     (some (.out (.go (behind1,joined1))))) (0,(repL (lenL v2) 0),(repL (lenL v2) false))) fun (behind,joined) =>
   cutO (loopO (fun ((v3,out1):Int × List (List Int)) =>
    iteO (decide (v3 < (lenL v2)))
     (cutO (chk (0≤v3∧v3 < (lenL v2)) <|
       iteO (getL false joined (0+v3))
        (some (.go out1))
        (cutO (loopO (fun ((at',seq1):Int × List Int) =>
          iteO (decide (0≤at'))
           (chk (0≤at'∧at' < (lenL v2)) <|
            chk (growOk 8 ((lenL seq1)+(lenL (getL [] v2 (0+at'))))) <|
            chk (0≤at'∧at' < (lenL v2)) <|
            let at'1:=(getL 0 behind (0+at'))
            some (.go (at'1,(seq1++(getL [] v2 (0+at'))))))
           (some (.out (.go seq1)))) (v3,([]:List Int))) fun seq =>
         chk (growOk 24 ((lenL out1)+1)) <|
         some (.go (out1++([seq]:List (List Int)))))) fun out2 =>
      chk (inR .i64 (v3+1)) <|
      some (.go ((v3+1),out2)))
     (some (.out (.go out1)))) (0,([]:List (List Int)))) fun out =>
   some out)
noncomputable def embed_Edges (l':(List Int)) (r':T_embed_Run) (base:Int) (seq:(List Int)):Option (Int × Int) :=
 bindO (embed_fits l' r') fun v =>
 iteO (if (!v)=true then true else ((lenL seq) == 0))
  (some (0,0))
  (cutO (loopO (fun (v7:Int) =>
    iteO (decide (v7 < (lenL seq)))
     (chk (0≤v7∧v7 < (lenL seq)) <|
      let at':=(getL 0 seq v7)
      iteO (if (decide (at' < 0))=true then true else (decide ((lenL l')≤at')))
       (some (.out (.out (0,0))))
       (chk (inR .i64 (v7+1)) <|
        some (.go (v7+1))))
     (some (.out (.go ())))) 0) fun (_:Unit) =>
   chk ((0:Int)≤0∧(0:Int) < (lenL seq)) <|
   chk (inR .i64 ((lenL seq)-1)) <|
   chk (0≤((lenL seq)-1)∧((lenL seq)-1) < (lenL seq)) <|
   let first:=(getL 0 seq 0)
   let last:=(getL 0 seq ((lenL seq)-1))
   bindO (embed_parity base) fun v1 =>
   bindO (embed_parity base) fun v2 =>
   cutO (chk (inR .i64 (first-1)) <|
    let i3:=(first-1)
    loopO (fun (i4:Int) =>
     iteO (decide (0≤i4))
      (chk (0≤i4∧i4 < (lenL r'.fRemoved)) <|
       iteO (!(getL false r'.fRemoved i4))
        (chk (0≤i4∧i4 < (lenL r'.fLevels)) <|
         let ahead1:=(getL 0 r'.fLevels i4)
         some (.out (.go ahead1)))
        (chk (inR .i64 (i4-1)) <|
         let i5:=(i4-1)
         some (.go i5)))
      (some (.out (.go v1)))) i3) fun ahead =>
   cutO (chk (0≤last∧last < (lenL l')) <|
    bindO (embed_isolate (getL 0 l' last)) fun v5 =>
    bindO (if (!(!v5))=true then embed_Match l' else some []) fun v6 =>
    chk ((!(!v5))=true→0≤last∧last < (lenL v6)) <|
    iteO (if (!v5)=true then true else (decide ((getL 0 v6 last) < (lenL l'))))
     (chk (inR .i64 (last+1)) <|
      let i:=(last+1)
      loopO (fun (i1:Int) =>
       iteO (decide (i1 < (lenL l')))
        (chk (0≤i1∧i1 < (lenL r'.fRemoved)) <|
         iteO (!(getL false r'.fRemoved i1))
          (chk (0≤i1∧i1 < (lenL r'.fLevels)) <|
           let behind1:=(getL 0 r'.fLevels i1)
           some (.out (.go behind1)))
          (chk (inR .i64 (i1+1)) <|
           let i2:=(i1+1)
           some (.go i2)))
        (some (.out (.go v2)))) i)
     (some (.go v2))) fun behind =>
   chk (0≤first∧first < (lenL r'.fLevels)) <|
   let level:=(getL 0 r'.fLevels first)
   bindO (embed_side (imaxI level ahead)) fun v3 =>
   bindO (embed_side (imaxI level behind)) fun v4 =>
   some (v3,v4))
noncomputable def lapwingref03_Ints (a:(List Int)) (b:(List Int)):Option Bool :=
 iteO (!((lenL a) == (lenL b)))
  (some false)
  (cutO (loopO (fun (i:Int) =>
    iteO (decide (i < (lenL a)))
     (chk (0≤i∧i < (lenL a)) <|
      chk (0≤i∧i < (lenL b)) <|
      iteO (!((getL 0 a i) == (getL 0 b i)))
       (some (.out (.out false)))
       (chk (inR .i64 (i+1)) <|
        let i1:=(i+1)
        some (.go i1)))
     (some (.out (.go ())))) 0) fun (_:Unit) =>
   some true)
noncomputable def weak_neutral (c':Int):Option Bool :=
 cutO (cutO (iteO (c' == 11)
   (some (.go (c' == 11)))
   (iteO (c' == 12)
    (some (.go (c' == 12)))
    (iteO (c' == 13)
     (some (.go (c' == 13)))
     (iteO (c' == 14)
      (some (.go (c' == 14)))
      (iteO (c' == 20)
       (some (.go (c' == 20)))
       (iteO (c' == 21)
        (some (.go (c' == 21)))
        (iteO (c' == 22)
         (some (.go (c' == 22)))
         (some (.go (c' == 23)))))))))) fun v =>
  iteO v
   (some (.out true))
   (some (.go ()))) fun (_:Unit) =>
 some false
noncomputable def weak_strong (c':Int):Option Int :=
 iteO (c' == 1)
  (some 1)
  (iteO (c' == 2)
   (iteO (c' == 2)
    (some 2)
    (some 0))
   (iteO (c' == 4)
    (iteO (c' == 4)
     (some 2)
     (some 0))
    (iteO (c' == 7)
     (some 2)
     (some 0))))
noncomputable def weak_Implicit (c':Int) (level:Int):Option Int :=
 let odd:=((bndI .i64 level 1) == 1)
 iteO (if odd=true then (if (if (c' == 1)=true then true else (c' == 4))=true then true else (c' == 7)) else false)
  (chk (inR .i64 (level+1)) <|
   some (level+1))
  (iteO (if (!odd)=true then (c' == 2) else false)
   (chk (inR .i64 (level+1)) <|
    some (level+1))
   (iteO (if (!odd)=true then (if (c' == 4)=true then true else (c' == 7)) else false)
    (chk (inR .i64 (level+2)) <|
     some (level+2))
    (some level)))
noncomputable def weak_classes (d':T_ucd_Data) (r':(List Int)):Option (List Int) :=
 chk (makeOk 8 (lenL r') (lenL r')) <|
 cutO (loopO (fun ((v,out1):Int × List Int) =>
  iteO (decide (v < (lenL r')))
   (chk (0≤v∧v < (lenL r')) <|
    let x':=(getL 0 r' v)
    bindO (ucd_Class d' x') fun v1 =>
    chk (0≤v∧v < (lenL r')) <|
    chk (inR .i64 (v+1)) <|
    some (.go ((v+1),(setL out1 v v1))))
   (some (.out (.go out1)))) (0,(repL (lenL r') 0))) fun out =>
 some out
noncomputable def weak_pick (l':(List Int)) (seq:(List Int)):Option (List Int) :=
 chk (makeOk 8 (lenL seq) (lenL seq)) <|
 cutO (loopO (fun ((v,out1):Int × List Int) =>
  iteO (decide (v < (lenL seq)))
   (chk (0≤v∧v < (lenL seq)) <|
    let at':=(getL 0 seq v)
    chk (0≤at'∧at' < (lenL l')) <|
    chk (0≤v∧v < (lenL seq)) <|
    chk (inR .i64 (v+1)) <|
    some (.go ((v+1),(setL out1 v (getL 0 l' at')))))
   (some (.out (.go out1)))) (0,(repL (lenL seq) 0))) fun out =>
 some out
noncomputable def weak_text__at (t':T_weak_text) (i:Int):Option Int :=
 iteO (if (decide (i < 0))=true then true else (decide ((lenL t'.fl)≤i)))
  (some 0)
  (chk (0≤i∧i < (lenL t'.fl)) <|
   some (getL 0 t'.fl i))
noncomputable def slices_Clone___int_int_ (s:(List Int)):Option (List Int) :=
 nilO (lenL s)
  (cutO (some (.out ([]:List Int))) fun (_:Unit) =>
   chk (growOk 8 (lenL s)) <|
   some s)
  (cutO (some (.go ())) fun (_:Unit) =>
   chk (growOk 8 (lenL s)) <|
   some s)
noncomputable def w1 (t':T_weak_text):Option (List Int) :=
 let ahead:=t'.fsos
 loopO (fun ((ahead1,v,o):Int × Int × List Int) =>
  iteO (decide (v < (lenL t'.fl)))
   (cutO (chk (0≤v∧v < (lenL t'.fl)) <|
     let c':=(getL 0 o (0+v))
     cutO (iteO (c' == 9)
      (chk (0≤v∧v < (lenL t'.fl)) <|
       some (.go (setL o v ahead1)))
      (some (.go o))) fun o2 =>
     chk (0≤v∧v < (lenL t'.fl)) <|
     let ahead3:=(getL 0 o2 (0+v))
     iteO (ahead3 == 20)
      (iteO (ahead3 == 20)
       (some (.go (14,o2)))
       (some (.go (ahead3,o2))))
      (iteO (ahead3 == 21)
       (iteO (ahead3 == 21)
        (some (.go (14,o2)))
        (some (.go (ahead3,o2))))
       (iteO (ahead3 == 22)
        (iteO (ahead3 == 22)
         (some (.go (14,o2)))
         (some (.go (ahead3,o2))))
        (iteO (ahead3 == 23)
         (some (.go (14,o2)))
         (some (.go (ahead3,o2))))))) fun (ahead2,o1) =>
    chk (inR .i64 (v+1)) <|
    some (.go (ahead2,(v+1),o1)))
   (some (.out o))) (ahead,0,t'.fl)
noncomputable def w2 (t':T_weak_text):Option (List Int) :=
 let last:=t'.fsos
 loopO (fun ((last1,v,o):Int × Int × List Int) =>
  iteO (decide (v < (lenL t'.fl)))
   (cutO (chk (0≤v∧v < (lenL t'.fl)) <|
     let c':=(getL 0 o (0+v))
     cutO (iteO (c' == 2)
      (some (.go (c' == 2)))
      (iteO (c' == 1)
       (some (.go (c' == 1)))
       (some (.go (c' == 3))))) fun v1 =>
     iteO v1
      (some (.go (c',o)))
      (iteO (c' == 4)
       (iteO (last1 == 3)
        (chk (0≤v∧v < (lenL t'.fl)) <|
         some (.go (last1,(setL o v 7))))
        (some (.go (last1,o))))
       (some (.go (last1,o))))) fun (last2,o1) =>
    chk (inR .i64 (v+1)) <|
    some (.go (last2,(v+1),o1)))
   (some (.out o))) (last,0,t'.fl)
noncomputable def w3 (t':T_weak_text):Option (List Int) :=
 loopO (fun ((v,o):Int × List Int) =>
  iteO (decide (v < (lenL t'.fl)))
   (chk (0≤v∧v < (lenL t'.fl)) <|
    let c':=(getL 0 o (0+v))
    iteO (c' == 3)
     (chk (0≤v∧v < (lenL t'.fl)) <|
      chk (inR .i64 (v+1)) <|
      some (.go ((v+1),(setL o v 2))))
     (chk (inR .i64 (v+1)) <|
      some (.go ((v+1),o))))
   (some (.out o))) (0,t'.fl)
noncomputable def w4 (t':T_weak_text):Option (List Int) :=
 loopO (fun ((v,o):Int × List Int) =>
  iteO (decide (v < (lenL t'.fl)))
   (chk (0≤v∧v < (lenL t'.fl)) <|
    let c':=(getL 0 o (0+v))
    chk (inR .i64 (v-1)) <|
    bindO (weak_text__at (T_weak_text.mk o t'.fsos) (v-1)) fun v1 =>
    chk (inR .i64 (v+1)) <|
    bindO (weak_text__at (T_weak_text.mk o t'.fsos) (v+1)) fun v2 =>
    iteO (!(v1 == v2))
     (chk (inR .i64 (v+1)) <|
      some (.go ((v+1),o)))
     (iteO (if (if (v1 == 4)=true then (if (c' == 5)=true then true else (c' == 8)) else false)=true then true else (if (v1 == 7)=true then (c' == 8) else false))
      (chk (0≤v∧v < (lenL t'.fl)) <|
       chk (inR .i64 (v+1)) <|
       some (.go ((v+1),(setL o v v1))))
      (chk (inR .i64 (v+1)) <|
       some (.go ((v+1),o)))))
   (some (.out o))) (0,t'.fl)
noncomputable def w5 (t':T_weak_text):Option (List Int) :=
 loopO (fun ((i,o):Int × List Int) =>
  iteO (decide (i < (lenL t'.fl)))
   (chk (0≤i∧i < (lenL t'.fl)) <|
    iteO (!((getL 0 o (0+i)) == 6))
     (chk (inR .i64 (i+1)) <|
      let i1:=(i+1)
      some (.go (i1,o)))
     (cutO (loopO (fun (end'1:Int) =>
       bindO (weak_text__at (T_weak_text.mk o t'.fsos) end'1) fun v2 =>
       iteO (v2 == 6)
        (chk (inR .i64 (end'1+1)) <|
         let end'2:=(end'1+1)
         some (.go end'2))
        (some (.out (.go end'1)))) i) fun end' =>
      cutO (chk (inR .i64 (i-1)) <|
       bindO (weak_text__at (T_weak_text.mk o t'.fsos) (i-1)) fun v =>
       bindO (if (!(v == 4))=true then weak_text__at (T_weak_text.mk o t'.fsos) end' else some 0) fun v1 =>
       iteO (if (v == 4)=true then true else (v1 == 4))
        (loopO (fun ((j,o2):Int × List Int) =>
         iteO (decide (j < end'))
          (chk (0≤j∧j < (lenL t'.fl)) <|
           chk (inR .i64 (j+1)) <|
           let j1:=(j+1)
           some (.go (j1,(setL o2 j 4))))
          (some (.out (.go o2)))) (i,o))
        (some (.go o))) fun o1 =>
      some (.go (end',o1))))
   (some (.out o))) (0,t'.fl)
noncomputable def w6 (t':T_weak_text):Option (List Int) :=
 loopO (fun ((v,o):Int × List Int) =>
  iteO (decide (v < (lenL t'.fl)))
   (chk (0≤v∧v < (lenL t'.fl)) <|
    let c':=(getL 0 o (0+v))
    iteO (c' == 5)
     (iteO (c' == 5)
      (chk (0≤v∧v < (lenL t'.fl)) <|
       chk (inR .i64 (v+1)) <|
       some (.go ((v+1),(setL o v 14))))
      (chk (inR .i64 (v+1)) <|
       some (.go ((v+1),o))))
     (iteO (c' == 6)
      (iteO (c' == 6)
       (chk (0≤v∧v < (lenL t'.fl)) <|
        chk (inR .i64 (v+1)) <|
        some (.go ((v+1),(setL o v 14))))
       (chk (inR .i64 (v+1)) <|
        some (.go ((v+1),o))))
      (iteO (c' == 8)
       (chk (0≤v∧v < (lenL t'.fl)) <|
        chk (inR .i64 (v+1)) <|
        some (.go ((v+1),(setL o v 14))))
       (chk (inR .i64 (v+1)) <|
        some (.go ((v+1),o))))))
   (some (.out o))) (0,t'.fl)
noncomputable def w7 (t':T_weak_text):Option (List Int) :=
 let last:=t'.fsos
 loopO (fun ((last1,v,o):Int × Int × List Int) =>
  iteO (decide (v < (lenL t'.fl)))
   (chk (0≤v∧v < (lenL t'.fl)) <|
    let c':=(getL 0 o (0+v))
    iteO (c' == 2)
     (iteO (c' == 2)
      (chk (inR .i64 (v+1)) <|
       some (.go (c',(v+1),o)))
      (iteO (c' == 4)
       (iteO (last1 == 1)
        (chk (0≤v∧v < (lenL t'.fl)) <|
         chk (inR .i64 (v+1)) <|
         some (.go (last1,(v+1),(setL o v 1))))
        (chk (inR .i64 (v+1)) <|
         some (.go (last1,(v+1),o))))
       (chk (inR .i64 (v+1)) <|
        some (.go (last1,(v+1),o)))))
     (iteO (c' == 1)
      (chk (inR .i64 (v+1)) <|
       some (.go (c',(v+1),o)))
      (iteO (c' == 4)
       (iteO (last1 == 1)
        (chk (0≤v∧v < (lenL t'.fl)) <|
         chk (inR .i64 (v+1)) <|
         some (.go (last1,(v+1),(setL o v 1))))
        (chk (inR .i64 (v+1)) <|
         some (.go (last1,(v+1),o))))
       (chk (inR .i64 (v+1)) <|
        some (.go (last1,(v+1),o))))))
   (some (.out o))) (last,0,t'.fl)
noncomputable def weak_Weak (l':(List Int)) (sos:Int):Option (List Int) :=
 bindO (slices_Clone___int_int_ l') fun v =>
 cutO (cutO (cutO (cutO (chk ((0:Int)≤0∧(0:Int) < 7) <|
     some (.go ())) fun (_:Unit) =>
    bindO (w1 (T_weak_text.mk v sos)) fun v7 =>
    chk (lenL v7=lenL v) <|
    some (.go v7)) fun o14 =>
   chk (inR .i64 (0+1)) <|
   some (.go o14)) fun o1 =>
  cutO (cutO (cutO (chk ((0:Int)≤1∧(1:Int) < 7) <|
     some (.go ())) fun (_:Unit) =>
    bindO (w2 (T_weak_text.mk o1 sos)) fun v6 =>
    chk (lenL v6=lenL o1) <|
    some (.go v6)) fun o13 =>
   chk (inR .i64 (1+1)) <|
   some (.go o13)) fun o2 =>
  cutO (cutO (cutO (chk ((0:Int)≤2∧(2:Int) < 7) <|
     some (.go ())) fun (_:Unit) =>
    bindO (w3 (T_weak_text.mk o2 sos)) fun v5 =>
    chk (lenL v5=lenL o2) <|
    some (.go v5)) fun o12 =>
   chk (inR .i64 (2+1)) <|
   some (.go o12)) fun o3 =>
  cutO (cutO (cutO (chk ((0:Int)≤3∧(3:Int) < 7) <|
     some (.go ())) fun (_:Unit) =>
    bindO (w4 (T_weak_text.mk o3 sos)) fun v4 =>
    chk (lenL v4=lenL o3) <|
    some (.go v4)) fun o11 =>
   chk (inR .i64 (3+1)) <|
   some (.go o11)) fun o4 =>
  cutO (cutO (cutO (chk ((0:Int)≤4∧(4:Int) < 7) <|
     some (.go ())) fun (_:Unit) =>
    bindO (w5 (T_weak_text.mk o4 sos)) fun v3 =>
    chk (lenL v3=lenL o4) <|
    some (.go v3)) fun o10 =>
   chk (inR .i64 (4+1)) <|
   some (.go o10)) fun o5 =>
  cutO (cutO (cutO (chk ((0:Int)≤5∧(5:Int) < 7) <|
     some (.go ())) fun (_:Unit) =>
    bindO (w6 (T_weak_text.mk o5 sos)) fun v2 =>
    chk (lenL v2=lenL o5) <|
    some (.go v2)) fun o9 =>
   chk (inR .i64 (5+1)) <|
   some (.go o9)) fun o6 =>
  cutO (cutO (cutO (chk ((0:Int)≤6∧(6:Int) < 7) <|
     some (.go ())) fun (_:Unit) =>
    bindO (w7 (T_weak_text.mk o6 sos)) fun v1 =>
    chk (lenL v1=lenL o6) <|
    some (.go v1)) fun o8 =>
   chk (inR .i64 (6+1)) <|
   some (.go o8)) fun o7 =>
  some (.go o7)) fun o =>
 some o
noncomputable def weak_line__direction (x':T_weak_line) (p':T_Arr2_i64):Option Int :=
 cutO (chk (inR .i64 (p'.x0+1)) <|
  chk (0≤(p'.x0+1)∧(p'.x0+1)≤p'.x1∧p'.x1≤(lenL x'.fl)) <|
  loopO (fun ((found1,v1):Bool × Int) =>
   iteO (decide (v1 < (p'.x1-(p'.x0+1))))
    (chk (0≤v1∧v1 < (lenL (subL x'.fl (p'.x0+1) p'.x1))) <|
     let c':=(getL 0 (subL x'.fl (p'.x0+1) p'.x1) v1)
     bindO (weak_strong c') fun v2 =>
     iteO (v2 == x'.fdir)
      (some (.out (.out x'.fdir)))
      (iteO (v2 == x'.fagainst)
       (chk (inR .i64 (v1+1)) <|
        some (.go (true,(v1+1))))
       (chk (inR .i64 (v1+1)) <|
        some (.go (found1,(v1+1))))))
    (some (.out (.go found1)))) (false,0)) fun found =>
 iteO (!found)
  (some 0)
  (let last:=x'.fsos
   cutO (chk (inR .i64 (p'.x0-1)) <|
    let i:=(p'.x0-1)
    loopO (fun (i1:Int) =>
     iteO (decide (0≤i1))
      (chk (0≤i1∧i1 < (lenL x'.fl)) <|
       bindO (weak_strong (getL 0 x'.fl i1)) fun v =>
       iteO (!(v == 0))
        (some (.out (.go v)))
        (chk (inR .i64 (i1-1)) <|
         let i2:=(i1-1)
         some (.go i2)))
      (some (.out (.go last)))) i) fun last1 =>
   iteO (last1 == x'.fagainst)
    (some x'.fagainst)
    (some x'.fdir))
noncomputable def weak_Pairs (d':T_ucd_Data) (r':(List Int)) (l':(List Int)):Option (List T_Arr2_i64) :=
 iteO (!((lenL r') == (lenL l')))
  (some ([]:List T_Arr2_i64))
  (cutO (loopO (fun ((open_off,open_n,v1,open',out1):Int × Int × Int × List Int × List T_Arr2_i64) =>
    iteO (decide (v1 < (lenL l')))
     (cutO (chk (0≤v1∧v1 < (lenL l')) <|
       let c':=(getL 0 l' v1)
       iteO (!(c' == 14))
        (some (.go (open_off,open_n,open',out1)))
        (chk (0≤v1∧v1 < (lenL r')) <|
         bindO (ucd_Bracket d' (getL 0 r' v1)) fun v2 =>
         let other:=v2.1
         let kind:=v2.2
         iteO (kind == 1)
          (iteO (open_n == 63)
           (some (.out (.out (.out ([]:List T_Arr2_i64)))))
           (chk (0≤open_off∧0≤open_n∧open_off+open_n≤lenL open') <|
            chk (growOk 8 (open_n+1)) <|
            some (.go (0,(open_n+1),((subL open' open_off (open_off+open_n))++([v1]:List Int)),out1))))
          (iteO (kind == 2)
           (chk (inR .i64 (open_n-1)) <|
            let n:=(open_n-1)
            loopO (fun (n1:Int) =>
             iteO (decide (0≤n1))
              (chk (0≤n1∧n1 < open_n) <|
               chk (0≤(getL 0 open' (open_off+n1))∧(getL 0 open' (open_off+n1)) < (lenL r')) <|
               iteO ((getL 0 r' (getL 0 open' (open_off+n1))) == other)
                (chk (0≤n1∧n1 < open_n) <|
                 chk (growOk 16 ((lenL out1)+1)) <|
                 chk ((0:Int)≤0∧(0:Int)≤n1∧n1≤open_n) <|
                 some (.out (.go ((open_off+0),(n1-0),open',(out1++([(T_Arr2_i64.mk (getL 0 open' (open_off+n1)) v1)]:List T_Arr2_i64))))))
                (chk (inR .i64 (n1-1)) <|
                 let n2:=(n1-1)
                 some (.go n2)))
              (some (.out (.go (open_off,open_n,open',out1))))) n)
           (some (.go (open_off,open_n,open',out1)))))) fun (open_off1,open_n1,open'1,out2) =>
      chk (inR .i64 (v1+1)) <|
      some (.go (open_off1,open_n1,(v1+1),open'1,out2)))
     (some (.out (.go out1)))) (0,0,0,([]:List Int),([]:List T_Arr2_i64))) fun out =>
   bindO (sortPairs out 0 (lenL out)) fun v =>
   chk (lenL v=lenL out) <|
   some v)
noncomputable def n0 (x':T_weak_line):Option (List Int) :=
 loopO (fun ((v,o):Int × List Int) =>
  iteO (decide (v < (lenL x'.fpairs)))
   (cutO (chk (0≤v∧v < (lenL x'.fpairs)) <|
     bindO (weak_line__direction (T_weak_line.mk o x'.fwas x'.fsos x'.feos x'.fdir x'.fagainst x'.fpairs) (getL d_Arr2_i64 x'.fpairs v)) fun v1 =>
     iteO (v1 == 0)
      (some (.go o))
      (cutO (cutO (let at'1:=(getL d_Arr2_i64 x'.fpairs v).x0
         chk (0≤at'1∧at'1 < (lenL x'.fl)) <|
         chk (inR .i64 (at'1+1)) <|
         let j3:=(at'1+1)
         loopO (fun ((j4,o7):Int × List Int) =>
          chk ((decide (j4 < (lenL x'.fl)))=true→0≤j4∧j4 < (lenL x'.fwas)) <|
          iteO (if (decide (j4 < (lenL x'.fl)))=true then ((getL 0 x'.fwas j4) == 9) else false)
           (chk (0≤j4∧j4 < (lenL x'.fl)) <|
            chk (inR .i64 (j4+1)) <|
            let j5:=(j4+1)
            some (.go (j5,(setL o7 j4 v1))))
           (some (.out (.go o7)))) (j3,(setL o at'1 v1))) fun o6 =>
        chk (inR .i64 (0+1)) <|
        some (.go o6)) fun o2 =>
       cutO (cutO (let at':=(getL d_Arr2_i64 x'.fpairs v).x1
         chk (0≤at'∧at' < (lenL x'.fl)) <|
         chk (inR .i64 (at'+1)) <|
         let j:=(at'+1)
         loopO (fun ((j1,o5):Int × List Int) =>
          chk ((decide (j1 < (lenL x'.fl)))=true→0≤j1∧j1 < (lenL x'.fwas)) <|
          iteO (if (decide (j1 < (lenL x'.fl)))=true then ((getL 0 x'.fwas j1) == 9) else false)
           (chk (0≤j1∧j1 < (lenL x'.fl)) <|
            chk (inR .i64 (j1+1)) <|
            let j2:=(j1+1)
            some (.go (j2,(setL o5 j1 v1))))
           (some (.out (.go o5)))) (j,(setL o2 at' v1))) fun o4 =>
        chk (inR .i64 (1+1)) <|
        some (.go o4)) fun o3 =>
       some (.go o3))) fun o1 =>
    chk (inR .i64 (v+1)) <|
    some (.go ((v+1),o1)))
   (some (.out o))) (0,x'.fl)
noncomputable def n12 (x':T_weak_line):Option (List Int) :=
 loopO (fun ((i,o):Int × List Int) =>
  iteO (decide (i < (lenL x'.fl)))
   (chk (0≤i∧i < (lenL x'.fl)) <|
    bindO (weak_neutral (getL 0 o (0+i))) fun v =>
    iteO (!v)
     (chk (inR .i64 (i+1)) <|
      let i1:=(i+1)
      some (.go (i1,o)))
     (cutO (loopO (fun (end'1:Int) =>
       chk ((decide (end'1 < (lenL x'.fl)))=true→0≤end'1∧end'1 < (lenL x'.fl)) <|
       bindO (if (decide (end'1 < (lenL x'.fl)))=true then weak_neutral (getL 0 o (0+end'1)) else some false) fun v3 =>
       iteO (if (decide (end'1 < (lenL x'.fl)))=true then v3 else false)
        (chk (inR .i64 (end'1+1)) <|
         let end'2:=(end'1+1)
         some (.go end'2))
        (some (.out (.go end'1)))) i) fun end' =>
      let ahead:=x'.fsos
      let behind:=x'.feos
      cutO (iteO (decide (0 < i))
       (chk (inR .i64 (i-1)) <|
        chk (0≤(i-1)∧(i-1) < (lenL x'.fl)) <|
        bindO (weak_strong (getL 0 o (0+(i-1)))) fun v2 =>
        some (.go v2))
       (some (.go ahead))) fun ahead1 =>
      cutO (iteO (decide (end' < (lenL x'.fl)))
       (chk (0≤end'∧end' < (lenL x'.fl)) <|
        bindO (weak_strong (getL 0 o (0+end'))) fun v1 =>
        some (.go v1))
       (some (.go behind))) fun behind1 =>
      let c':=x'.fdir
      cutO (iteO (if (ahead1 == behind1)=true then (!(ahead1 == 0)) else false)
       (some (.go ahead1))
       (some (.go c'))) fun c'1 =>
      loopO (fun ((i2,o1):Int × List Int) =>
       iteO (decide (i2 < end'))
        (chk (0≤i2∧i2 < (lenL x'.fl)) <|
         chk (inR .i64 (i2+1)) <|
         let i3:=(i2+1)
         some (.go (i3,(setL o1 i2 c'1))))
        (some (.out (.go (i2,o1))))) (i,o)))
   (some (.out o))) (0,x'.fl)
noncomputable def weak_Neutral (d':T_ucd_Data) (r':(List Int)) (was:(List Int)) (l':(List Int)) (level:Int) (sos:Int) (eos:Int):Option (List Int) :=
 bindO (slices_Clone___int_int_ l') fun v =>
 iteO (if (!((lenL r') == (lenL l')))=true then true else (!((lenL was) == (lenL l'))))
  (some v)
  (bindO (weak_Pairs d' r' l') fun v1 =>
   cutO (iteO ((bndI .i64 level 1) == 1)
    (some (.go (2,1)))
    (some (.go (1,2)))) fun (b16_4,b16_5) =>
   cutO (cutO (cutO (cutO (chk ((0:Int)≤0∧(0:Int) < 2) <|
       some (.go ())) fun (_:Unit) =>
      bindO (n0 (T_weak_line.mk v was sos eos b16_4 b16_5 v1)) fun v3 =>
      chk (lenL v3=lenL v) <|
      some (.go v3)) fun out4 =>
     chk (inR .i64 (0+1)) <|
     some (.go out4)) fun out1 =>
    cutO (cutO (cutO (chk ((0:Int)≤1∧(1:Int) < 2) <|
       some (.go ())) fun (_:Unit) =>
      bindO (n12 (T_weak_line.mk out1 was sos eos b16_4 b16_5 v1)) fun v2 =>
      chk (lenL v2=lenL out1) <|
      some (.go v2)) fun out3 =>
     chk (inR .i64 (1+1)) <|
     some (.go out3)) fun out2 =>
    some (.go out2)) fun out =>
   some out)
noncomputable def weak_levels (d':T_ucd_Data) (r':(List Int)) (l':(List Int)) (base:Int):Option (List Int) :=
 bindO (embed_Explicit l' base) fun v =>
 bindO (slices_Clone___int_int_ v.fLevels) fun v1 =>
 cutO (bindO (embed_Sequences l' v base) fun v3 =>
  loopO (fun ((v4,out5):Int × List Int) =>
   iteO (decide (v4 < (lenL v3)))
    (cutO (chk (0≤v4∧v4 < (lenL v3)) <|
      bindO (weak_pick v.fClasses (getL [] v3 (0+v4))) fun v5 =>
      chk ((0:Int)≤0∧(0:Int) < (lenL (getL [] v3 (0+v4)))) <|
      chk (0≤(getL 0 (getL [] v3 (0+v4)) 0)∧(getL 0 (getL [] v3 (0+v4)) 0) < (lenL v.fLevels)) <|
      let level:=(getL 0 v.fLevels (getL 0 (getL [] v3 (0+v4)) 0))
      bindO (embed_Edges l' v base (getL [] v3 (0+v4))) fun v6 =>
      let sos:=v6.1
      let eos:=v6.2
      bindO (weak_pick r' (getL [] v3 (0+v4))) fun v7 =>
      bindO (weak_Weak v5 sos) fun v8 =>
      bindO (weak_Neutral d' v7 v5 v8 level sos eos) fun v9 =>
      loopO (fun ((v10,out7):Int × List Int) =>
       iteO (decide (v10 < (lenL (getL [] v3 (0+v4)))))
        (chk (0≤v10∧v10 < (lenL (getL [] v3 (0+v4)))) <|
         let at':=(getL 0 (getL [] v3 (0+v4)) v10)
         chk (0≤v10∧v10 < (lenL v9)) <|
         bindO (weak_Implicit (getL 0 v9 (0+v10)) level) fun v11 =>
         chk (0≤at'∧at' < (lenL v1)) <|
         chk (inR .i64 (v10+1)) <|
         some (.go ((v10+1),(setL out7 at' v11))))
        (some (.out (.go out7)))) (0,out5)) fun out6 =>
     chk (inR .i64 (v4+1)) <|
     some (.go ((v4+1),out6)))
    (some (.out (.go out5)))) (0,v1)) fun out =>
 chk ((2:Int)≠0) <|
 let ahead:=(Int.tmod (imaxI base 0) 2)
 cutO (loopO (fun ((ahead1,v2,out2):Int × Int × List Int) =>
  iteO (decide (v2 < (lenL v.fRemoved)))
   (cutO (chk (0≤v2∧v2 < (lenL v.fRemoved)) <|
     let gone:=(getL false v.fRemoved v2)
     cutO (iteO gone
      (chk (0≤v2∧v2 < (lenL v1)) <|
       some (.go (setL out2 v2 ahead1)))
      (some (.go out2))) fun out4 =>
     chk (0≤v2∧v2 < (lenL v1)) <|
     let ahead3:=(getL 0 out4 (0+v2))
     some (.go (ahead3,out4))) fun (ahead2,out3) =>
    chk (inR .i64 (v2+1)) <|
    some (.go (ahead2,(v2+1),out3)))
   (some (.out (.go out2)))) (ahead,0,out)) fun out1 =>
 some out1
noncomputable def weak_Paragraph (d':T_ucd_Data) (r':(List Int)) (dir:Int):Option ((List Int) × Int) :=
 bindO (weak_classes d' r') fun v =>
 cutO (iteO (if (!(dir == 0))=true then (!(dir == 1)) else false)
  (bindO (embed_Base v) fun v2 =>
   some (.go v2))
  (some (.go dir))) fun base =>
 bindO (weak_levels d' r' v base) fun v1 =>
 some (v1,base)
noncomputable def lapwinglaw18_awake  : Option Bool :=
 bindO (ucd_Load) fun v =>
 bindO (weak_Paragraph v ([97,1488,49]:List Int) 2) fun v1 =>
 let base:=v1.2
 bindO (lapwingref03_Ints v1.1 ([0,1,2]:List Int)) fun v2 =>
 bindO (if (if v2=true then (base == 0) else false)=true then weak_Implicit 2 0 else some 0) fun v3 =>
 bindO (if (if (if v2=true then (base == 0) else false)=true then (v3 == 1) else false)=true then weak_Weak ([3,4]:List Int) 1 else some []) fun v4 =>
 bindO (if (if (if v2=true then (base == 0) else false)=true then (v3 == 1) else false)=true then lapwingref03_Ints v4 ([2,7]:List Int) else some false) fun v5 =>
 some (if (if (if v2=true then (base == 0) else false)=true then (v3 == 1) else false)=true then v5 else false)
noncomputable def lapwinglaw18_WeakBounds (r':(List Int)) (dir:Int):Option Bool :=
 bindO (lapwinglaw18_awake) fun v =>
 iteO (decide (200 < (lenL r')))
  (some v)
  (bindO (ucd_Load) fun v1 =>
   bindO (weak_Paragraph v1 r' (bndI .i64 dir 3)) fun v2 =>
   let base:=v2.2
   iteO (if (if (!((lenL v2.1) == (lenL r')))=true then true else (decide (base < 0)))=true then true else (decide (1 < base)))
    (some false)
    (cutO (loopO (fun ((plain1,i2):Bool × Int) =>
      iteO (decide (i2 < (lenL r')))
       (chk (0≤i2∧i2 < (lenL r')) <|
        bindO (ucd_Class v1 (getL 0 r' i2)) fun v4 =>
        let plain2:=(if plain1=true then (if (decide (v4 < 15))=true then true else (decide (23 < v4))) else false)
        chk (0≤i2∧i2 < (lenL v2.1)) <|
        chk ((!(decide ((getL 0 v2.1 i2) < base)))=true→0≤i2∧i2 < (lenL v2.1)) <|
        iteO (if (decide ((getL 0 v2.1 i2) < base))=true then true else (decide (126 < (getL 0 v2.1 i2))))
         (some (.out (.out false)))
         (chk (inR .i64 (i2+1)) <|
          let i3:=(i2+1)
          some (.go (plain2,i3))))
       (some (.out (.go plain1)))) (true,0)) fun plain =>
     cutO (loopO (fun (i:Int) =>
      iteO (if (decide (i < (lenL r')))=true then plain else false)
       (chk (0≤i∧i < (lenL r')) <|
        bindO (ucd_Class v1 (getL 0 r' i)) fun v3 =>
        chk ((v3 == 1)=true→0≤i∧i < (lenL v2.1)) <|
        chk (((!(if (v3 == 1)=true then (!((bndI .i64 (getL 0 v2.1 i) 1) == 0)) else false)) && ((!(if (v3 == 1)=true then (!((bndI .i64 (getL 0 v2.1 i) 1) == 0)) else false)) && (if (v3 == 2)=true then true else (v3 == 3))))=true→0≤i∧i < (lenL v2.1)) <|
        chk (((!(if (if (v3 == 1)=true then (!((bndI .i64 (getL 0 v2.1 i) 1) == 0)) else false)=true then true else (if (if (v3 == 2)=true then true else (v3 == 3))=true then (!((bndI .i64 (getL 0 v2.1 i) 1) == 1)) else false))) && ((!(if (if (v3 == 1)=true then (!((bndI .i64 (getL 0 v2.1 i) 1) == 0)) else false)=true then true else (if (if (v3 == 2)=true then true else (v3 == 3))=true then (!((bndI .i64 (getL 0 v2.1 i) 1) == 1)) else false))) && (if (v3 == 4)=true then true else (v3 == 7))))=true→0≤i∧i < (lenL v2.1)) <|
        chk ((!(if (if (if (v3 == 1)=true then (!((bndI .i64 (getL 0 v2.1 i) 1) == 0)) else false)=true then true else (if (if (v3 == 2)=true then true else (v3 == 3))=true then (!((bndI .i64 (getL 0 v2.1 i) 1) == 1)) else false))=true then true else (if (if (v3 == 4)=true then true else (v3 == 7))=true then (!((bndI .i64 (getL 0 v2.1 i) 1) == 0)) else false)))=true→0≤i∧i < (lenL v2.1)) <|
        iteO (if (if (if (if (v3 == 1)=true then (!((bndI .i64 (getL 0 v2.1 i) 1) == 0)) else false)=true then true else (if (if (v3 == 2)=true then true else (v3 == 3))=true then (!((bndI .i64 (getL 0 v2.1 i) 1) == 1)) else false))=true then true else (if (if (v3 == 4)=true then true else (v3 == 7))=true then (!((bndI .i64 (getL 0 v2.1 i) 1) == 0)) else false))=true then true else (decide (2 < (getL 0 v2.1 i))))
         (some (.out (.out false)))
         (chk (inR .i64 (i+1)) <|
          let i1:=(i+1)
          some (.go i1)))
       (some (.out (.go ())))) 0) fun (_:Unit) =>
     some v))
end Go.Vx
