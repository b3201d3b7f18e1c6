/- Lifted functions, by program (lift.py). -/
import Derived.Test.YtigfggfbpdhmfaaDoorVxPart
import Derived.Lib.Bytealg
set_option linter.all false
namespace Go.Vx
structure T_strings_span where
  fstart : Int
  fend : Int
def d_strings_span : T_strings_span := ⟨0, 0⟩
structure T_ranges_Row where
  fLo : Int
  fHi : Int
  fV : Int
def d_ranges_Row : T_ranges_Row := ⟨0, 0, 0⟩
structure T_ranges_Table where
  fL : (List T_ranges_Row)
def d_ranges_Table : T_ranges_Table := ⟨[]⟩
structure T_ucd_Pair where
  fA : Int
  fB : Int
def d_ucd_Pair : T_ucd_Pair := ⟨0, 0⟩
structure T_ucd_Form where
  fR : Int
  fAt : Int
  fN : Int
def d_ucd_Form : T_ucd_Form := ⟨0, 0, 0⟩
structure T_ucd_Data where
  fClass : T_ranges_Table
  fWide : T_ranges_Table
  fJoin : T_ranges_Table
  fMirror : (List T_ucd_Pair)
  fBrackets : (List T_ucd_Pair)
  fForms : (List T_ucd_Form)
def d_ucd_Data : T_ucd_Data := ⟨d_ranges_Table, d_ranges_Table, d_ranges_Table, [], [], []⟩
def kS0 : ByteArray := (⟨#[76, 32, 82, 32, 65, 76, 32, 69, 78, 32, 69, 83, 32, 69, 84, 32, 65, 78, 32, 67, 83, 32, 78, 83, 77, 32, 66, 78, 32, 66, 32, 83, 32, 87, 83, 32, 79, 78, 32, 76, 82, 69, 32, 76, 82, 79, 32, 82, 76, 69, 32, 82, 76, 79, 32, 80, 68, 70, 32, 76, 82, 73, 32, 82, 76, 73, 32, 70, 83, 73, 32, 80, 68, 73]⟩ : ByteArray)
def kS1 : ByteArray := (⟨#[48, 45, 56, 32, 66, 78, 44, 32, 57, 32, 83, 44, 32, 65, 32, 66, 44, 32, 66, 32, 83, 44, 32, 67, 32, 87, 83, 44, 32, 68, 32, 66, 44, 32, 69, 45, 49, 66, 32, 66, 78, 44, 32, 49, 67, 45, 49, 69, 32, 66, 44, 32, 49, 70, 32, 83, 44, 32, 50, 48, 32, 87, 83, 44, 10, 50, 49, 45, 50, 50, 32, 79, 78, 44, 32, 50, 51, 45, 50, 53, 32, 69, 84, 44, 32, 50, 54, 45, 50, 65, 32, 79, 78, 44, 32, 50, 66, 32, 69, 83, 44, 32, 50, 67, 32, 67, 83, 44, 32, 50, 68, 32, 69, 83, 44, 32, 50, 69, 45, 50, 70, 32, 67, 83, 44, 32, 51, 48, 45, 51, 57, 32, 69, 78, 44, 32, 51, 65, 32, 67, 83, 44, 32, 51, 66, 45, 52, 48, 32, 79, 78, 44, 10, 53, 66, 45, 54, 48, 32, 79, 78, 44, 32, 55, 66, 45, 55, 69, 32, 79, 78, 44, 32, 55, 70, 45, 56, 52, 32, 66, 78, 44, 32, 56, 53, 32, 66, 44, 32, 56, 54, 45, 57, 70, 32, 66, 78, 44, 32, 65, 48, 32, 67, 83, 44, 32, 65, 49, 32, 79, 78, 44, 32, 65, 50, 45, 65, 53, 32, 69, 84, 44, 32, 65, 54, 45, 65, 57, 32, 79, 78, 44, 32, 65, 66, 45, 65, 67, 32, 79, 78, 44, 10, 65, 68, 32, 66, 78, 44, 32, 65, 69, 45, 65, 70, 32, 79, 78, 44, 32, 66, 48, 45, 66, 49, 32, 69, 84, 44, 32, 66, 50, 45, 66, 51, 32, 69, 78, 44, 32, 66, 52, 32, 79, 78, 44, 32, 66, 54, 45, 66, 56, 32, 79, 78, 44, 32, 66, 57, 32, 69, 78, 44, 32, 66, 66, 45, 66, 70, 32, 79, 78, 44, 32, 68, 55, 32, 79, 78, 44, 32, 70, 55, 32, 79, 78, 44, 10, 51, 48, 48, 45, 51, 54, 70, 32, 78, 83, 77, 44, 32, 53, 57, 48, 32, 82, 44, 32, 53, 57, 49, 45, 53, 66, 68, 32, 78, 83, 77, 44, 32, 53, 66, 69, 32, 82, 44, 32, 53, 66, 70, 32, 78, 83, 77, 44, 32, 53, 67, 48, 32, 82, 44, 32, 53, 67, 49, 45, 53, 67, 50, 32, 78, 83, 77, 44, 32, 53, 67, 51, 32, 82, 44, 32, 53, 67, 52, 45, 53, 67, 53, 32, 78, 83, 77, 44, 32, 53, 67, 54, 32, 82, 44, 10, 53, 67, 55, 32, 78, 83, 77, 44, 32, 53, 67, 56, 45, 53, 70, 70, 32, 82, 44, 32, 54, 48, 48, 45, 54, 48, 53, 32, 65, 78, 44, 32, 54, 48, 54, 45, 54, 48, 55, 32, 79, 78, 44, 32, 54, 48, 56, 32, 65, 76, 44, 32, 54, 48, 57, 45, 54, 48, 65, 32, 69, 84, 44, 32, 54, 48, 66, 32, 65, 76, 44, 32, 54, 48, 67, 32, 67, 83, 44, 32, 54, 48, 68, 32, 65, 76, 44, 32, 54, 48, 69, 45, 54, 48, 70, 32, 79, 78, 44, 10, 54, 49, 48, 45, 54, 49, 65, 32, 78, 83, 77, 44, 32, 54, 49, 66, 45, 54, 52, 65, 32, 65, 76, 44, 32, 54, 52, 66, 45, 54, 53, 70, 32, 78, 83, 77, 44, 32, 54, 54, 48, 45, 54, 54, 57, 32, 65, 78, 44, 32, 54, 54, 65, 32, 69, 84, 44, 32, 54, 54, 66, 45, 54, 54, 67, 32, 65, 78, 44, 32, 54, 54, 68, 45, 54, 54, 70, 32, 65, 76, 44, 32, 54, 55, 48, 32, 78, 83, 77, 44, 32, 54, 55, 49, 45, 54, 68, 53, 32, 65, 76, 44, 32, 54, 68, 54, 45, 54, 68, 67, 32, 78, 83, 77, 44, 10, 54, 68, 68, 32, 65, 78, 44, 32, 54, 68, 69, 32, 79, 78, 44, 32, 54, 68, 70, 45, 54, 69, 52, 32, 78, 83, 77, 44, 32, 54, 69, 53, 45, 54, 69, 54, 32, 65, 76, 44, 32, 54, 69, 55, 45, 54, 69, 56, 32, 78, 83, 77, 44, 32, 54, 69, 57, 32, 79, 78, 44, 32, 54, 69, 65, 45, 54, 69, 68, 32, 78, 83, 77, 44, 32, 54, 69, 69, 45, 54, 69, 70, 32, 65, 76, 44, 32, 54, 70, 48, 45, 54, 70, 57, 32, 69, 78, 44, 32, 54, 70, 65, 45, 54, 70, 70, 32, 65, 76, 44, 10, 50, 48, 48, 48, 45, 50, 48, 48, 65, 32, 87, 83, 44, 32, 50, 48, 48, 66, 45, 50, 48, 48, 68, 32, 66, 78, 44, 32, 50, 48, 48, 70, 32, 82, 44, 32, 50, 48, 49, 48, 45, 50, 48, 50, 55, 32, 79, 78, 44, 32, 50, 48, 50, 56, 32, 87, 83, 44, 32, 50, 48, 50, 57, 32, 66, 44, 32, 50, 48, 50, 65, 32, 76, 82, 69, 44, 32, 50, 48, 50, 66, 32, 82, 76, 69, 44, 32, 50, 48, 50, 67, 32, 80, 68, 70, 44, 32, 50, 48, 50, 68, 32, 76, 82, 79, 44, 10, 50, 48, 50, 69, 32, 82, 76, 79, 44, 32, 50, 48, 50, 70, 32, 67, 83, 44, 32, 50, 48, 51, 48, 45, 50, 48, 51, 52, 32, 69, 84, 44, 32, 50, 48, 51, 53, 45, 50, 48, 52, 51, 32, 79, 78, 44, 32, 50, 48, 52, 52, 32, 67, 83, 44, 32, 50, 48, 52, 53, 45, 50, 48, 53, 69, 32, 79, 78, 44, 32, 50, 48, 53, 70, 32, 87, 83, 44, 32, 50, 48, 54, 48, 45, 50, 48, 54, 53, 32, 66, 78, 44, 32, 50, 48, 54, 54, 32, 76, 82, 73, 44, 32, 50, 48, 54, 55, 32, 82, 76, 73, 44, 10, 50, 48, 54, 56, 32, 70, 83, 73, 44, 32, 50, 48, 54, 57, 32, 80, 68, 73, 44, 32, 50, 48, 54, 65, 45, 50, 48, 54, 70, 32, 66, 78, 44, 32, 50, 49, 57, 48, 45, 50, 50, 49, 49, 32, 79, 78, 44, 32, 50, 50, 49, 50, 32, 69, 83, 44, 32, 50, 50, 49, 51, 32, 69, 84, 44, 32, 50, 50, 49, 52, 45, 50, 51, 51, 53, 32, 79, 78, 44, 32, 50, 53, 48, 48, 45, 50, 53, 57, 70, 32, 79, 78, 44, 32, 51, 48, 48, 48, 32, 87, 83, 44, 32, 51, 48, 48, 49, 45, 51, 48, 48, 52, 32, 79, 78, 44, 10, 51, 48, 48, 56, 45, 51, 48, 50, 48, 32, 79, 78, 44, 32, 70, 66, 49, 68, 32, 82, 44, 32, 70, 66, 49, 69, 32, 78, 83, 77, 44, 32, 70, 66, 49, 70, 45, 70, 66, 50, 56, 32, 82, 44, 32, 70, 66, 50, 57, 32, 69, 83, 44, 32, 70, 66, 50, 65, 45, 70, 66, 52, 70, 32, 82, 44, 32, 70, 66, 53, 48, 45, 70, 68, 67, 70, 32, 65, 76, 44, 32, 70, 69, 55, 48, 45, 70, 69, 70, 69, 32, 65, 76, 44, 32, 70, 69, 70, 70, 32, 66, 78, 44, 32, 70, 70, 70, 57, 45, 70, 70, 70, 68, 32, 79, 78]⟩ : ByteArray)
def kS2 : ByteArray := (⟨#[51, 48, 48, 45, 51, 54, 70, 32, 48, 44, 32, 53, 57, 49, 45, 53, 66, 68, 32, 48, 44, 32, 53, 66, 70, 32, 48, 44, 32, 53, 67, 49, 45, 53, 67, 50, 32, 48, 44, 32, 53, 67, 52, 45, 53, 67, 53, 32, 48, 44, 32, 53, 67, 55, 32, 48, 44, 32, 54, 49, 48, 45, 54, 49, 65, 32, 48, 44, 32, 54, 52, 66, 45, 54, 53, 70, 32, 48, 44, 32, 54, 55, 48, 32, 48, 44, 32, 54, 68, 54, 45, 54, 68, 67, 32, 48, 44, 10, 54, 68, 70, 45, 54, 69, 52, 32, 48, 44, 32, 54, 69, 55, 45, 54, 69, 56, 32, 48, 44, 32, 54, 69, 65, 45, 54, 69, 68, 32, 48, 44, 32, 49, 49, 48, 48, 45, 49, 49, 53, 70, 32, 50, 44, 32, 50, 48, 48, 66, 45, 50, 48, 48, 70, 32, 48, 44, 32, 50, 48, 50, 65, 45, 50, 48, 50, 69, 32, 48, 44, 32, 50, 48, 54, 48, 45, 50, 48, 54, 70, 32, 48, 44, 32, 50, 69, 56, 48, 45, 51, 48, 51, 69, 32, 50, 44, 32, 51, 48, 52, 49, 45, 65, 52, 67, 70, 32, 50, 44, 32, 65, 67, 48, 48, 45, 68, 55, 65, 51, 32, 50, 44, 10, 70, 57, 48, 48, 45, 70, 65, 70, 70, 32, 50, 44, 32, 70, 66, 49, 69, 32, 48, 44, 32, 70, 69, 51, 48, 45, 70, 69, 54, 70, 32, 50, 44, 32, 70, 69, 70, 70, 32, 48, 44, 32, 70, 70, 48, 48, 45, 70, 70, 54, 48, 32, 50, 44, 32, 70, 70, 69, 48, 45, 70, 70, 69, 54, 32, 50, 44, 32, 49, 70, 51, 48, 48, 45, 49, 70, 54, 52, 70, 32, 50, 44, 32, 49, 70, 57, 48, 48, 45, 49, 70, 57, 70, 70, 32, 50, 44, 32, 50, 48, 48, 48, 48, 45, 51, 70, 70, 70, 68, 32, 50]⟩ : ByteArray)
def kS3 : ByteArray := (⟨#[51, 48, 48, 45, 51, 54, 70, 32, 84, 44, 32, 53, 57, 49, 45, 53, 66, 68, 32, 84, 44, 32, 53, 66, 70, 32, 84, 44, 32, 53, 67, 49, 45, 53, 67, 50, 32, 84, 44, 32, 53, 67, 52, 45, 53, 67, 53, 32, 84, 44, 32, 53, 67, 55, 32, 84, 44, 32, 54, 49, 48, 45, 54, 49, 65, 32, 84, 44, 32, 54, 50, 48, 32, 68, 44, 32, 54, 50, 50, 45, 54, 50, 53, 32, 82, 44, 32, 54, 50, 54, 32, 68, 44, 10, 54, 50, 55, 32, 82, 44, 32, 54, 50, 56, 32, 68, 44, 32, 54, 50, 57, 32, 82, 44, 32, 54, 50, 65, 45, 54, 50, 69, 32, 68, 44, 32, 54, 50, 70, 45, 54, 51, 50, 32, 82, 44, 32, 54, 51, 51, 45, 54, 51, 70, 32, 68, 44, 32, 54, 52, 48, 32, 67, 44, 32, 54, 52, 49, 45, 54, 52, 55, 32, 68, 44, 32, 54, 52, 56, 45, 54, 52, 57, 32, 82, 44, 32, 54, 52, 65, 32, 68, 44, 10, 54, 52, 66, 45, 54, 53, 70, 32, 84, 44, 32, 54, 54, 69, 45, 54, 54, 70, 32, 68, 44, 32, 54, 55, 48, 32, 84, 44, 32, 54, 55, 49, 45, 54, 55, 51, 32, 82, 44, 32, 54, 55, 53, 45, 54, 55, 55, 32, 82, 44, 32, 54, 55, 56, 45, 54, 56, 55, 32, 68, 44, 32, 54, 56, 56, 45, 54, 57, 57, 32, 82, 44, 32, 54, 57, 65, 45, 54, 66, 70, 32, 68, 44, 32, 54, 67, 48, 32, 82, 44, 32, 54, 67, 49, 45, 54, 67, 50, 32, 68, 44, 10, 54, 67, 51, 45, 54, 67, 66, 32, 82, 44, 32, 54, 67, 67, 32, 68, 44, 32, 54, 67, 68, 32, 82, 44, 32, 54, 67, 69, 32, 68, 44, 32, 54, 67, 70, 32, 82, 44, 32, 54, 68, 48, 45, 54, 68, 49, 32, 68, 44, 32, 54, 68, 50, 45, 54, 68, 51, 32, 82, 44, 32, 54, 68, 53, 32, 82, 44, 32, 54, 68, 54, 45, 54, 68, 67, 32, 84, 44, 32, 54, 68, 70, 45, 54, 69, 52, 32, 84, 44, 10, 54, 69, 55, 45, 54, 69, 56, 32, 84, 44, 32, 54, 69, 65, 45, 54, 69, 68, 32, 84, 44, 32, 54, 69, 69, 45, 54, 69, 70, 32, 82, 44, 32, 54, 70, 65, 45, 54, 70, 67, 32, 68, 44, 32, 54, 70, 70, 32, 68, 44, 32, 50, 48, 48, 66, 32, 84, 44, 32, 50, 48, 48, 68, 32, 67, 44, 32, 70, 66, 49, 69, 32, 84]⟩ : ByteArray)
def kS4 : ByteArray := (⟨#[50, 56, 32, 50, 57, 44, 32, 51, 67, 32, 51, 69, 44, 32, 53, 66, 32, 53, 68, 44, 32, 55, 66, 32, 55, 68, 44, 32, 65, 66, 32, 66, 66, 44, 32, 50, 48, 51, 57, 32, 50, 48, 51, 65, 44, 32, 50, 50, 48, 56, 32, 50, 50, 48, 66, 44, 32, 50, 50, 54, 52, 32, 50, 50, 54, 53, 44, 32, 51, 48, 48, 56, 32, 51, 48, 48, 57, 44, 32, 51, 48, 48, 65, 32, 51, 48, 48, 66, 44, 32, 51, 48, 48, 67, 32, 51, 48, 48, 68, 44, 32, 51, 48, 48, 69, 32, 51, 48, 48, 70, 44, 10, 51, 48, 49, 48, 32, 51, 48, 49, 49, 44, 32, 50, 53, 48, 67, 32, 50, 53, 49, 48, 44, 32, 50, 53, 48, 70, 32, 50, 53, 49, 51, 44, 32, 50, 53, 49, 52, 32, 50, 53, 49, 56, 44, 32, 50, 53, 49, 55, 32, 50, 53, 49, 66, 44, 32, 50, 53, 49, 67, 32, 50, 53, 50, 52, 44, 32, 50, 53, 50, 51, 32, 50, 53, 50, 66, 44, 32, 50, 53, 53, 52, 32, 50, 53, 53, 55, 44, 32, 50, 53, 53, 65, 32, 50, 53, 53, 68, 44, 32, 50, 53, 54, 48, 32, 50, 53, 54, 51, 44, 32, 50, 53, 54, 68, 32, 50, 53, 54, 69, 44, 32, 50, 53, 55, 48, 32, 50, 53, 54, 70, 44, 10, 50, 53, 55, 49, 32, 50, 53, 55, 50, 44, 32, 50, 53, 55, 52, 32, 50, 53, 55, 54, 44, 32, 50, 53, 56, 67, 32, 50, 53, 57, 48]⟩ : ByteArray)
def kS5 : ByteArray := (⟨#[50, 56, 32, 50, 57, 44, 32, 53, 66, 32, 53, 68, 44, 32, 55, 66, 32, 55, 68, 44, 32, 51, 48, 48, 56, 32, 51, 48, 48, 57, 44, 32, 51, 48, 48, 65, 32, 51, 48, 48, 66, 44, 32, 51, 48, 48, 67, 32, 51, 48, 48, 68, 44, 32, 51, 48, 48, 69, 32, 51, 48, 48, 70, 44, 32, 51, 48, 49, 48, 32, 51, 48, 49, 49]⟩ : ByteArray)
def kS6 : ByteArray := (⟨#[54, 50, 49, 32, 70, 69, 56, 48, 32, 49, 44, 32, 54, 50, 50, 32, 70, 69, 56, 49, 32, 50, 44, 32, 54, 50, 51, 32, 70, 69, 56, 51, 32, 50, 44, 32, 54, 50, 52, 32, 70, 69, 56, 53, 32, 50, 44, 32, 54, 50, 53, 32, 70, 69, 56, 55, 32, 50, 44, 32, 54, 50, 54, 32, 70, 69, 56, 57, 32, 52, 44, 32, 54, 50, 55, 32, 70, 69, 56, 68, 32, 50, 44, 32, 54, 50, 56, 32, 70, 69, 56, 70, 32, 52, 44, 32, 54, 50, 57, 32, 70, 69, 57, 51, 32, 50, 44, 32, 54, 50, 65, 32, 70, 69, 57, 53, 32, 52, 44, 10, 54, 50, 66, 32, 70, 69, 57, 57, 32, 52, 44, 32, 54, 50, 67, 32, 70, 69, 57, 68, 32, 52, 44, 32, 54, 50, 68, 32, 70, 69, 65, 49, 32, 52, 44, 32, 54, 50, 69, 32, 70, 69, 65, 53, 32, 52, 44, 32, 54, 50, 70, 32, 70, 69, 65, 57, 32, 50, 44, 32, 54, 51, 48, 32, 70, 69, 65, 66, 32, 50, 44, 32, 54, 51, 49, 32, 70, 69, 65, 68, 32, 50, 44, 32, 54, 51, 50, 32, 70, 69, 65, 70, 32, 50, 44, 32, 54, 51, 51, 32, 70, 69, 66, 49, 32, 52, 44, 32, 54, 51, 52, 32, 70, 69, 66, 53, 32, 52, 44, 10, 54, 51, 53, 32, 70, 69, 66, 57, 32, 52, 44, 32, 54, 51, 54, 32, 70, 69, 66, 68, 32, 52, 44, 32, 54, 51, 55, 32, 70, 69, 67, 49, 32, 52, 44, 32, 54, 51, 56, 32, 70, 69, 67, 53, 32, 52, 44, 32, 54, 51, 57, 32, 70, 69, 67, 57, 32, 52, 44, 32, 54, 51, 65, 32, 70, 69, 67, 68, 32, 52, 44, 32, 54, 52, 49, 32, 70, 69, 68, 49, 32, 52, 44, 32, 54, 52, 50, 32, 70, 69, 68, 53, 32, 52, 44, 32, 54, 52, 51, 32, 70, 69, 68, 57, 32, 52, 44, 32, 54, 52, 52, 32, 70, 69, 68, 68, 32, 52, 44, 10, 54, 52, 53, 32, 70, 69, 69, 49, 32, 52, 44, 32, 54, 52, 54, 32, 70, 69, 69, 53, 32, 52, 44, 32, 54, 52, 55, 32, 70, 69, 69, 57, 32, 52, 44, 32, 54, 52, 56, 32, 70, 69, 69, 68, 32, 50, 44, 32, 54, 52, 57, 32, 70, 69, 69, 70, 32, 50, 44, 32, 54, 52, 65, 32, 70, 69, 70, 49, 32, 52]⟩ : ByteArray)

def bytealg_CountString (s : ByteArray) (c : Int) : Option Int := some (Lib.countByte s.data.toList c.toNat.toUInt8 : Nat)
def bytealg_IndexByteString (s : ByteArray) (c : Int) : Option Int := some (Lib.indexByte s.data.toList c.toNat.toUInt8)
def shape_sides : Option (List (Int × Int)) := some [(1, 1), (2, 3), (3, 3)]

/-- internal/strconv.lower -/
noncomputable def strconv_lower (c' : Int) : Option Int :=
  some (borI .u8 c' 32)

/-- internal/stringslite.IndexByte -/
noncomputable def stringslite_IndexByte (s : ByteArray) (c' : Int) : Option Int :=
  bindO (bytealg_IndexByteString s c') fun v =>
  some v

/-- internal/stringslite.Index -/
noncomputable def stringslite_Index (s : ByteArray) (substr : ByteArray) : Option Int :=
  let n := (slenS substr)
  iteO (if (n == 0) = true then true else (seqS substr s))
    (some 0)
    (iteO (n == 1)
       (chk ((0 : Int) ≤ 0 ∧ (0 : Int) < (slenS substr)) <|
        bindO (stringslite_IndexByte s (sidxS substr 0)) fun v =>
        some v)
       (iteO (decide ((slenS s) ≤ n))
          (some (-1))
          (none)))

/-- strings.Index -/
noncomputable def strings_Index (s : ByteArray) (substr : ByteArray) : Option Int :=
  bindO (stringslite_Index s substr) fun v =>
  some v

/-- strings.Count -/
noncomputable def strings_Count (s : ByteArray) (substr : ByteArray) : Option Int :=
  iteO ((slenS substr) == 0)
    (none)
    (iteO ((slenS substr) == 1)
       (chk ((0 : Int) ≤ 0 ∧ (0 : Int) < (slenS substr)) <|
        bindO (bytealg_CountString s (sidxS substr 0)) fun v =>
        some v)
       (loopO (fun ((s1, n) : ByteArray × Int) =>
            bindO (strings_Index s1 substr) fun v1 =>
            iteO (v1 == (-1))
              (some (.out n))
              (chk (inR .i64 (n + 1)) <|
               let n1 := (n + 1)
               chk (inR .i64 (v1 + (slenS substr))) <|
               chk (0 ≤ (v1 + (slenS substr)) ∧ (v1 + (slenS substr)) ≤ (slenS s1) ∧ (slenS s1) ≤ (slenS s1)) <|
               let s2 := (ssubS s1 (v1 + (slenS substr)) (slenS s1))
               some (.go (s2, n1)))) (s, 0)))

/-- strings.genSplit -/
noncomputable def strings_genSplit (s : ByteArray) (sep : ByteArray) (sepSave : Int) (n : Int) : Option (List ByteArray) :=
  iteO (n == 0)
    (some ([] : List ByteArray))
    (iteO (seqS sep (⟨#[]⟩ : ByteArray))
       (none)
       (cutO (iteO (decide (n < 0))
            (bindO (strings_Count s sep) fun v1 =>
             chk (inR .i64 (v1 + 1)) <|
             let n4 := (v1 + 1)
             some (.go n4))
            (some (.go n))) fun n1 =>
        chk (inR .i64 ((slenS s) + 1)) <|
        let n2 := (iminI n1 ((slenS s) + 1))
        chk (makeOk 16 n2 n2) <|
        chk (inR .i64 (n2 - 1)) <|
        let n3 := (n2 - 1)
        cutO (loopO (fun ((s2, i1, a1) : ByteArray × Int × List ByteArray) =>
              iteO (decide (i1 < n3))
                (bindO (strings_Index s2 sep) fun v =>
                 iteO (decide (v < 0))
                   (some (.out (.go (s2, i1, a1))))
                   (chk (inR .i64 (v + sepSave)) <|
                    chk ((0 : Int) ≤ 0 ∧ (0 : Int) ≤ (v + sepSave) ∧ (v + sepSave) ≤ (slenS s2)) <|
                    chk (0 ≤ i1 ∧ i1 < n2) <|
                    chk (inR .i64 (v + (slenS sep))) <|
                    chk (0 ≤ (v + (slenS sep)) ∧ (v + (slenS sep)) ≤ (slenS s2) ∧ (slenS s2) ≤ (slenS s2)) <|
                    let s3 := (ssubS s2 (v + (slenS sep)) (slenS s2))
                    chk (inR .i64 (i1 + 1)) <|
                    let i2 := (i1 + 1)
                    some (.go (s3, i2, (setL a1 i1 (ssubS s2 0 (v + sepSave)))))))
                (some (.out (.go (s2, i1, a1))))) (s, 0, (repL n2 ByteArray.empty))) fun (s1, i, a) =>
        chk (0 ≤ i ∧ i < n2) <|
        chk (inR .i64 (i + 1)) <|
        chk ((0 : Int) ≤ 0 ∧ (0 : Int) ≤ (i + 1) ∧ (i + 1) ≤ n2) <|
        some (subL (setL a i s1) (0 + 0) ((0 + 0) + ((i + 1) - 0)))))

/-- strings.Split -/
noncomputable def strings_Split (s : ByteArray) (sep : ByteArray) : Option (List ByteArray) :=
  bindO (strings_genSplit s sep 0 (-1)) fun v =>
  some v

/-- lapwing/ucd.words$1 -/
noncomputable def ucd_words_1 (c' : Int) : Option Bool :=
  some (if (if (c' == 32) = true then true else (c' == 10)) = true then true else (c' == 45))

/-- strings.FieldsFunc -/
noncomputable def strings_FieldsFunc_55 (s : ByteArray) : Option (List ByteArray) :=
  chk (makeOk 16 0 32) <|
  cutO (loopO (fun ((start1, spans2, pos) : Int × List T_strings_span × Int) =>
        iteO (decide (pos < (slenS s)))
          (let rune := (rdecS s pos)
           bindO (ucd_words_1 rune) fun v1 =>
           iteO v1
             (iteO (decide (0 ≤ start1))
                (chk (growOk 16 ((lenL spans2) + 1)) <|
                 let start2 := (bxorI .i64 (-1) start1)
                 some (.go (start2, (spans2 ++ ([(T_strings_span.mk start1 pos)] : List T_strings_span)), (if (decide (pos < (slenS s))) = true then (pos + (rwidS s pos)) else pos))))
                (some (.go (start1, spans2, (if (decide (pos < (slenS s))) = true then (pos + (rwidS s pos)) else pos)))))
             (iteO (decide (start1 < 0))
                (some (.go (pos, spans2, (if (decide (pos < (slenS s))) = true then (pos + (rwidS s pos)) else pos))))
                (some (.go (start1, spans2, (if (decide (pos < (slenS s))) = true then (pos + (rwidS s pos)) else pos))))))
          (some (.out (.go (start1, spans2))))) ((-1), (repL 0 d_strings_span), 0)) fun (start, spans) =>
  cutO (iteO (decide (0 ≤ start))
      (chk (growOk 16 ((lenL spans) + 1)) <|
       some (.go (spans ++ ([(T_strings_span.mk start (slenS s))] : List T_strings_span))))
      (some (.go spans))) fun spans1 =>
  chk (makeOk 16 (lenL spans1) (lenL spans1)) <|
  cutO (loopO (fun ((v, a1) : Int × List ByteArray) =>
        iteO (decide (v < (lenL spans1)))
          (chk (0 ≤ v ∧ v < (lenL spans1)) <|
           chk (0 ≤ (getL d_strings_span spans1 (0 + v)).fstart ∧ (getL d_strings_span spans1 (0 + v)).fstart ≤ (getL d_strings_span spans1 (0 + v)).fend ∧ (getL d_strings_span spans1 (0 + v)).fend ≤ (slenS s)) <|
           chk (0 ≤ v ∧ v < (lenL spans1)) <|
           chk (inR .i64 (v + 1)) <|
           some (.go ((v + 1), (setL a1 v (ssubS s (getL d_strings_span spans1 (0 + v)).fstart (getL d_strings_span spans1 (0 + v)).fend)))))
          (some (.out (.go a1)))) (0, (repL (lenL spans1) ByteArray.empty))) fun a =>
  some a

/-- lapwing/ucd.words -/
noncomputable def ucd_words (e : ByteArray) : Option (List ByteArray) :=
  bindO (strings_FieldsFunc_55 e) fun v =>
  some v

/-- internal/strconv.underscoreOK -/
def istrconv_underscoreOK (a0 : ByteArray) : Option Bool := none

/-- internal/strconv.ParseUint -/
noncomputable def istrconv_ParseUint (s : ByteArray) (base : Int) (bitSize : Int) : Option (Int × Unit) :=
  iteO (seqS s (⟨#[]⟩ : ByteArray))
    (none)
    (let base0 := (base == 0)
     cutO (iteO (if (decide (2 ≤ base)) = true then (decide (base ≤ 36)) else false)
         (some (.go (s, base)))
         (iteO (base == 0)
            (chk ((0 : Int) ≤ 0 ∧ (0 : Int) < (slenS s)) <|
             iteO ((sidxS s 0) == 48)
               (chk ((decide (3 ≤ (slenS s))) = true → (0 : Int) ≤ 1 ∧ (1 : Int) < (slenS s)) <|
                bindO (if (decide (3 ≤ (slenS s))) = true then strconv_lower (sidxS s 1) else some 0) fun v5 =>
                iteO (if (decide (3 ≤ (slenS s))) = true then (v5 == 98) else false)
                  (chk ((0 : Int) ≤ 2 ∧ (2 : Int) ≤ (slenS s) ∧ (slenS s) ≤ (slenS s)) <|
                   let s2 := (ssubS s 2 (slenS s))
                   some (.go (s2, 2)))
                  (chk ((decide (3 ≤ (slenS s))) = true → (0 : Int) ≤ 1 ∧ (1 : Int) < (slenS s)) <|
                   bindO (if (decide (3 ≤ (slenS s))) = true then strconv_lower (sidxS s 1) else some 0) fun v6 =>
                   iteO (if (decide (3 ≤ (slenS s))) = true then (v6 == 111) else false)
                     (chk ((0 : Int) ≤ 2 ∧ (2 : Int) ≤ (slenS s) ∧ (slenS s) ≤ (slenS s)) <|
                      let s3 := (ssubS s 2 (slenS s))
                      some (.go (s3, 8)))
                     (chk ((decide (3 ≤ (slenS s))) = true → (0 : Int) ≤ 1 ∧ (1 : Int) < (slenS s)) <|
                      bindO (if (decide (3 ≤ (slenS s))) = true then strconv_lower (sidxS s 1) else some 0) fun v7 =>
                      iteO (if (decide (3 ≤ (slenS s))) = true then (v7 == 120) else false)
                        (chk ((0 : Int) ≤ 2 ∧ (2 : Int) ≤ (slenS s) ∧ (slenS s) ≤ (slenS s)) <|
                         let s4 := (ssubS s 2 (slenS s))
                         some (.go (s4, 16)))
                        (chk ((0 : Int) ≤ 1 ∧ (1 : Int) ≤ (slenS s) ∧ (slenS s) ≤ (slenS s)) <|
                         let s5 := (ssubS s 1 (slenS s))
                         some (.go (s5, 8))))))
               (some (.go (s, 10))))
            (none))) fun (s1, base1) =>
     cutO (iteO (bitSize == 0)
         (some (.go 64))
         (iteO (if (decide (bitSize < 0)) = true then true else (decide (64 < bitSize)))
            (none)
            (some (.go bitSize)))) fun bitSize1 =>
     cutO (iteO (base1 == 10)
         (some (.go 1844674407370955162))
         (iteO (base1 == 16)
            (some (.go 1152921504606846976))
            (chk (((IntKind.wrap .u64 base1) : Int) ≠ 0) <|
             chk (inR .u64 (Int.tdiv 18446744073709551615 (IntKind.wrap .u64 base1))) <|
             chk (inR .u64 ((Int.tdiv 18446744073709551615 (IntKind.wrap .u64 base1)) + 1)) <|
             let cutoff1 := ((Int.tdiv 18446744073709551615 (IntKind.wrap .u64 base1)) + 1)
             some (.go cutoff1)))) fun cutoff =>
     chk ((0 : Int) ≤ (IntKind.wrap .u64 bitSize1)) <|
     chk (inR .u64 ((shlI .u64 1 (IntKind.wrap .u64 bitSize1)) - 1)) <|
     let maxVal := ((shlI .u64 1 (IntKind.wrap .u64 bitSize1)) - 1)
     cutO (loopO (fun ((underscores1, n1, v1) : Bool × Int × Int) =>
           iteO (decide (v1 < (slenS s1)))
             (cutO (chk (0 ≤ v1 ∧ v1 < (lenL (bytesL s1))) <|
                let c' := (getL 0 (bytesL s1) v1)
                cutO (iteO (if (c' == 95) = true then base0 else false)
                    (some (.out (.go (true, n1))))
                    (iteO (if (decide (48 ≤ c')) = true then (decide (c' ≤ 57)) else false)
                       (chk (inR .u8 (c' - 48)) <|
                        let d'1 := (c' - 48)
                        some (.go d'1))
                       (bindO (strconv_lower c') fun v2 =>
                        bindO (if (decide (97 ≤ v2)) = true then strconv_lower c' else some 0) fun v3 =>
                        iteO (if (decide (97 ≤ v2)) = true then (decide (v3 ≤ 122)) else false)
                          (bindO (strconv_lower c') fun v4 =>
                           chk (inR .u8 (v4 - 97)) <|
                           chk (inR .u8 ((v4 - 97) + 10)) <|
                           let d'2 := ((v4 - 97) + 10)
                           some (.go d'2))
                          (none)))) fun d' =>
                iteO (decide ((IntKind.wrap .u8 base1) ≤ d'))
                  (none)
                  (iteO (decide (cutoff ≤ n1))
                     (none)
                     (chk (inR .u64 (n1 * (IntKind.wrap .u64 base1))) <|
                      let n3 := (n1 * (IntKind.wrap .u64 base1))
                      chk (inR .u64 (n3 + (IntKind.wrap .u64 d'))) <|
                      let n11 := (n3 + (IntKind.wrap .u64 d'))
                      iteO (if (decide (n11 < n3)) = true then true else (decide (maxVal < n11)))
                        (none)
                        (some (.go (underscores1, n11)))))) fun (underscores2, n2) =>
              chk (inR .i64 (v1 + 1)) <|
              some (.go (underscores2, n2, (v1 + 1))))
             (some (.out (.go (underscores1, n1))))) (false, 0, 0)) fun (underscores, n) =>
     bindO (if underscores = true then istrconv_underscoreOK s else some false) fun v =>
     iteO (if underscores = true then (!v) else false)
       (none)
       (some (n, ())))

/-- internal/strconv.ParseInt -/
noncomputable def istrconv_ParseInt (s : ByteArray) (base : Int) (bitSize : Int) : Option (Int × Unit) :=
  iteO (seqS s (⟨#[]⟩ : ByteArray))
    (none)
    (cutO (chk ((0 : Int) ≤ 0 ∧ (0 : Int) < (slenS s)) <|
       iteO ((sidxS s 0) == 43)
         (chk ((0 : Int) ≤ 1 ∧ (1 : Int) ≤ (slenS s) ∧ (slenS s) ≤ (slenS s)) <|
          let s2 := (ssubS s 1 (slenS s))
          some (.go (s2, false)))
         (iteO ((sidxS s 0) == 45)
            (chk ((0 : Int) ≤ 1 ∧ (1 : Int) ≤ (slenS s) ∧ (slenS s) ≤ (slenS s)) <|
             let s3 := (ssubS s 1 (slenS s))
             some (.go (s3, true)))
            (some (.go (s, false))))) fun (s1, neg) =>
     bindO (istrconv_ParseUint s1 base bitSize) fun v =>
     let un := v.1
     iteO (if false = true then false else false)
       (some (0, ()))
       (iteO (bitSize == 0)
          (chk (inR .i64 (64 - 1)) <|
           chk ((0 : Int) ≤ (IntKind.wrap .u64 (64 - 1))) <|
           let cutoff := (shlI .u64 1 (IntKind.wrap .u64 (64 - 1)))
           iteO (if (!neg) = true then (decide (cutoff ≤ un)) else false)
             (none)
             (iteO (if neg = true then (decide (cutoff < un)) else false)
                (none)
                (let n := (IntKind.wrap .i64 un)
                 iteO neg
                   (chk (inR .i64 (0 - n)) <|
                    let n1 := (0 - n)
                    some (n1, ()))
                   (some (n, ())))))
          (chk (inR .i64 (bitSize - 1)) <|
           chk ((0 : Int) ≤ (IntKind.wrap .u64 (bitSize - 1))) <|
           let cutoff1 := (shlI .u64 1 (IntKind.wrap .u64 (bitSize - 1)))
           iteO (if (!neg) = true then (decide (cutoff1 ≤ un)) else false)
             (none)
             (iteO (if neg = true then (decide (cutoff1 < un)) else false)
                (none)
                (let n2 := (IntKind.wrap .i64 un)
                 iteO neg
                   (chk (inR .i64 (0 - n2)) <|
                    let n3 := (0 - n2)
                    some (n3, ()))
                   (some (n2, ())))))))

/-- strconv.ParseInt -/
noncomputable def strconv_ParseInt (s : ByteArray) (base : Int) (bitSize : Int) : Option (Int × Unit) :=
  bindO (istrconv_ParseInt s base bitSize) fun v =>
  let x' := v.1
  some (x', ())

/-- lapwing/ucd.hex -/
noncomputable def ucd_hex (s : ByteArray) : Option Int :=
  bindO (strconv_ParseInt s 16 32) fun v =>
  let n := v.1
  some n

/-- strings.Fields -/
noncomputable def strings_Fields (s : ByteArray) : Option (List ByteArray) :=
  cutO (loopO (fun ((n1, wasSpace, setBits1, i9) : Int × Int × Int × Int) =>
        iteO (decide (i9 < (slenS s)))
          (chk (0 ≤ i9 ∧ i9 < (slenS s)) <|
           let r' := (sidxS s i9)
           let setBits2 := (borI .u8 setBits1 r')
           chk (0 ≤ r' ∧ r' < (256 : Int)) <|
           let isSpace := (IntKind.wrap .i64 (gtabS 0 r'))
           chk (inR .i64 (n1 + (bndI .i64 wasSpace (bxorI .i64 (-1) isSpace)))) <|
           let n2 := (n1 + (bndI .i64 wasSpace (bxorI .i64 (-1) isSpace)))
           chk (inR .i64 (i9 + 1)) <|
           let i10 := (i9 + 1)
           some (.go (n2, isSpace, setBits2, i10)))
          (some (.out (.go (n1, setBits1))))) (0, 1, 0, 0)) fun (n, setBits) =>
  iteO (decide (128 ≤ setBits))
    (none)
    (chk (makeOk 16 n n) <|
     cutO (loopO (fun (i7 : Int) =>
           chk ((decide (i7 < (slenS s))) = true → 0 ≤ i7 ∧ i7 < (slenS s)) <|
           chk ((decide (i7 < (slenS s))) = true → 0 ≤ (sidxS s i7) ∧ (sidxS s i7) < (256 : Int)) <|
           iteO (if (decide (i7 < (slenS s))) = true then (!((gtabS 0 (sidxS s i7)) == 0)) else false)
             (chk (inR .i64 (i7 + 1)) <|
              let i8 := (i7 + 1)
              some (.go i8))
             (some (.out (.go i7)))) 0) fun i =>
     cutO (loopO (fun ((na1, fieldStart1, i1, a1) : Int × Int × Int × List ByteArray) =>
           iteO (decide (i1 < (slenS s)))
             (chk (0 ≤ i1 ∧ i1 < (slenS s)) <|
              chk (0 ≤ (sidxS s i1) ∧ (sidxS s i1) < (256 : Int)) <|
              iteO ((gtabS 0 (sidxS s i1)) == 0)
                (chk (inR .i64 (i1 + 1)) <|
                 let i2 := (i1 + 1)
                 some (.go (na1, fieldStart1, i2, a1)))
                (chk (0 ≤ fieldStart1 ∧ fieldStart1 ≤ i1 ∧ i1 ≤ (slenS s)) <|
                 chk (0 ≤ na1 ∧ na1 < n) <|
                 chk (inR .i64 (na1 + 1)) <|
                 let na2 := (na1 + 1)
                 chk (inR .i64 (i1 + 1)) <|
                 let i3 := (i1 + 1)
                 cutO (loopO (fun (i5 : Int) =>
                       chk ((decide (i5 < (slenS s))) = true → 0 ≤ i5 ∧ i5 < (slenS s)) <|
                       chk ((decide (i5 < (slenS s))) = true → 0 ≤ (sidxS s i5) ∧ (sidxS s i5) < (256 : Int)) <|
                       iteO (if (decide (i5 < (slenS s))) = true then (!((gtabS 0 (sidxS s i5)) == 0)) else false)
                         (chk (inR .i64 (i5 + 1)) <|
                          let i6 := (i5 + 1)
                          some (.go i6))
                         (some (.out (.go i5)))) i3) fun i4 =>
                 some (.go (na2, i4, i4, (setL a1 na1 (ssubS s fieldStart1 i1))))))
             (some (.out (.go (na1, fieldStart1, a1))))) (0, i, i, (repL n ByteArray.empty))) fun (na, fieldStart, a) =>
     iteO (decide (fieldStart < (slenS s)))
       (chk (0 ≤ fieldStart ∧ fieldStart ≤ (slenS s) ∧ (slenS s) ≤ (slenS s)) <|
        chk (0 ≤ na ∧ na < n) <|
        some (setL a na (ssubS s fieldStart (slenS s))))
       (some a))

/-- lapwing/ucd.className -/
noncomputable def ucd_className (s : ByteArray) : Option Int :=
  cutO (bindO (strings_Fields kS0) fun v =>
    loopO (fun (v1 : Int) =>
        iteO (decide (v1 < (lenL v)))
          (chk (0 ≤ v1 ∧ v1 < (lenL v)) <|
           let n := (getL ByteArray.empty v (0 + v1))
           iteO (seqS n s)
             (chk (inR .i64 (v1 + 1)) <|
              some (.out (.out (v1 + 1))))
             (chk (inR .i64 (v1 + 1)) <|
              some (.go (v1 + 1))))
          (some (.out (.go ())))) 0) fun (_ : Unit) =>
  some 0

/-- lapwing/ucd.wideName -/
noncomputable def ucd_wideName (s : ByteArray) : Option Int :=
  bindO (ucd_hex s) fun v =>
  chk (inR .i64 (v + 1)) <|
  some (v + 1)

/-- lapwing/ucd.joinName -/
noncomputable def ucd_joinName (s : ByteArray) : Option Int :=
  iteO (seqS s (⟨#[82]⟩ : ByteArray))
    (some 1)
    (iteO (seqS s (⟨#[68]⟩ : ByteArray))
       (some 2)
       (iteO (seqS s (⟨#[67]⟩ : ByteArray))
          (some 3)
          (iteO (seqS s (⟨#[84]⟩ : ByteArray))
             (some 4)
             (some 0))))

/-- lapwing/ucd.table -/
noncomputable def ucd_table_class (text : ByteArray) : Option T_ranges_Table :=
  cutO (bindO (strings_Split text (⟨#[44]⟩ : ByteArray)) fun v =>
    loopO (fun ((v1, o1) : Int × List T_ranges_Row) =>
        iteO (decide (v1 < (lenL v)))
          (cutO (chk (0 ≤ v1 ∧ v1 < (lenL v)) <|
             let e := (getL ByteArray.empty v (0 + v1))
             bindO (ucd_words e) fun v2 =>
             cutO (cutO (iteO ((lenL v2) == 3)
                   (chk ((0 : Int) ≤ 1 ∧ (1 : Int) < (lenL v2)) <|
                    bindO (ucd_hex (getL ByteArray.empty v2 (0 + 1))) fun v5 =>
                    some (.go v5))
                   (iteO ((lenL v2) == 2)
                      (some (.go 0))
                      (some (.out (.go (0, 0, 0)))))) fun b9_11 =>
               chk ((0 : Int) ≤ 0 ∧ (0 : Int) < (lenL v2)) <|
               bindO (ucd_hex (getL ByteArray.empty v2 (0 + 0))) fun v3 =>
               chk (inR .i64 ((lenL v2) - 1)) <|
               chk (0 ≤ ((lenL v2) - 1) ∧ ((lenL v2) - 1) < (lenL v2)) <|
               bindO (ucd_className (getL ByteArray.empty v2 (0 + ((lenL v2) - 1)))) fun v4 =>
               some (.go (v3, b9_11, v4))) fun (b9_0, b9_1, b9_2) =>
             chk (growOk 24 ((lenL o1) + 1)) <|
             some (.go (o1 ++ ([(T_ranges_Row.mk b9_0 (imaxI b9_0 b9_1) b9_2)] : List T_ranges_Row)))) fun o2 =>
           chk (inR .i64 (v1 + 1)) <|
           some (.go ((v1 + 1), o2)))
          (some (.out (.go o1)))) (0, ([] : List T_ranges_Row))) fun o =>
  some (T_ranges_Table.mk o)

/-- lapwing/ucd.table -/
noncomputable def ucd_table_wide (text : ByteArray) : Option T_ranges_Table :=
  cutO (bindO (strings_Split text (⟨#[44]⟩ : ByteArray)) fun v =>
    loopO (fun ((v1, o1) : Int × List T_ranges_Row) =>
        iteO (decide (v1 < (lenL v)))
          (cutO (chk (0 ≤ v1 ∧ v1 < (lenL v)) <|
             let e := (getL ByteArray.empty v (0 + v1))
             bindO (ucd_words e) fun v2 =>
             cutO (cutO (iteO ((lenL v2) == 3)
                   (chk ((0 : Int) ≤ 1 ∧ (1 : Int) < (lenL v2)) <|
                    bindO (ucd_hex (getL ByteArray.empty v2 (0 + 1))) fun v5 =>
                    some (.go v5))
                   (iteO ((lenL v2) == 2)
                      (some (.go 0))
                      (some (.out (.go (0, 0, 0)))))) fun b9_11 =>
               chk ((0 : Int) ≤ 0 ∧ (0 : Int) < (lenL v2)) <|
               bindO (ucd_hex (getL ByteArray.empty v2 (0 + 0))) fun v3 =>
               chk (inR .i64 ((lenL v2) - 1)) <|
               chk (0 ≤ ((lenL v2) - 1) ∧ ((lenL v2) - 1) < (lenL v2)) <|
               bindO (ucd_wideName (getL ByteArray.empty v2 (0 + ((lenL v2) - 1)))) fun v4 =>
               some (.go (v3, b9_11, v4))) fun (b9_0, b9_1, b9_2) =>
             chk (growOk 24 ((lenL o1) + 1)) <|
             some (.go (o1 ++ ([(T_ranges_Row.mk b9_0 (imaxI b9_0 b9_1) b9_2)] : List T_ranges_Row)))) fun o2 =>
           chk (inR .i64 (v1 + 1)) <|
           some (.go ((v1 + 1), o2)))
          (some (.out (.go o1)))) (0, ([] : List T_ranges_Row))) fun o =>
  some (T_ranges_Table.mk o)

/-- lapwing/ucd.table -/
noncomputable def ucd_table_join (text : ByteArray) : Option T_ranges_Table :=
  cutO (bindO (strings_Split text (⟨#[44]⟩ : ByteArray)) fun v =>
    loopO (fun ((v1, o1) : Int × List T_ranges_Row) =>
        iteO (decide (v1 < (lenL v)))
          (cutO (chk (0 ≤ v1 ∧ v1 < (lenL v)) <|
             let e := (getL ByteArray.empty v (0 + v1))
             bindO (ucd_words e) fun v2 =>
             cutO (cutO (iteO ((lenL v2) == 3)
                   (chk ((0 : Int) ≤ 1 ∧ (1 : Int) < (lenL v2)) <|
                    bindO (ucd_hex (getL ByteArray.empty v2 (0 + 1))) fun v5 =>
                    some (.go v5))
                   (iteO ((lenL v2) == 2)
                      (some (.go 0))
                      (some (.out (.go (0, 0, 0)))))) fun b9_11 =>
               chk ((0 : Int) ≤ 0 ∧ (0 : Int) < (lenL v2)) <|
               bindO (ucd_hex (getL ByteArray.empty v2 (0 + 0))) fun v3 =>
               chk (inR .i64 ((lenL v2) - 1)) <|
               chk (0 ≤ ((lenL v2) - 1) ∧ ((lenL v2) - 1) < (lenL v2)) <|
               bindO (ucd_joinName (getL ByteArray.empty v2 (0 + ((lenL v2) - 1)))) fun v4 =>
               some (.go (v3, b9_11, v4))) fun (b9_0, b9_1, b9_2) =>
             chk (growOk 24 ((lenL o1) + 1)) <|
             some (.go (o1 ++ ([(T_ranges_Row.mk b9_0 (imaxI b9_0 b9_1) b9_2)] : List T_ranges_Row)))) fun o2 =>
           chk (inR .i64 (v1 + 1)) <|
           some (.go ((v1 + 1), o2)))
          (some (.out (.go o1)))) (0, ([] : List T_ranges_Row))) fun o =>
  some (T_ranges_Table.mk o)

/-- lapwing/ucd.pairs -/
noncomputable def ucd_pairs (text : ByteArray) : Option (List T_ucd_Pair) :=
  cutO (bindO (strings_Split text (⟨#[44]⟩ : ByteArray)) fun v =>
    loopO (fun ((v1, l'1) : Int × List T_ucd_Pair) =>
        iteO (decide (v1 < (lenL v)))
          (chk (0 ≤ v1 ∧ v1 < (lenL v)) <|
           let e := (getL ByteArray.empty v (0 + v1))
           bindO (ucd_words e) fun v2 =>
           iteO ((lenL v2) == 2)
             (chk ((0 : Int) ≤ 0 ∧ (0 : Int) < (lenL v2)) <|
              bindO (ucd_hex (getL ByteArray.empty v2 (0 + 0))) fun v3 =>
              chk ((0 : Int) ≤ 1 ∧ (1 : Int) < (lenL v2)) <|
              bindO (ucd_hex (getL ByteArray.empty v2 (0 + 1))) fun v4 =>
              chk (growOk 16 ((lenL l'1) + 1)) <|
              chk (inR .i64 (v1 + 1)) <|
              some (.go ((v1 + 1), (l'1 ++ ([(T_ucd_Pair.mk v3 v4)] : List T_ucd_Pair)))))
             (chk (inR .i64 (v1 + 1)) <|
              some (.go ((v1 + 1), l'1))))
          (some (.out (.go l'1)))) (0, ([] : List T_ucd_Pair))) fun l' =>
  some l'

/-- lapwing/ucd.forms -/
noncomputable def ucd_forms (text : ByteArray) : Option (List T_ucd_Form) :=
  cutO (bindO (strings_Split text (⟨#[44]⟩ : ByteArray)) fun v =>
    loopO (fun ((v1, l'1) : Int × List T_ucd_Form) =>
        iteO (decide (v1 < (lenL v)))
          (chk (0 ≤ v1 ∧ v1 < (lenL v)) <|
           let e := (getL ByteArray.empty v (0 + v1))
           bindO (ucd_words e) fun v2 =>
           iteO ((lenL v2) == 3)
             (chk ((0 : Int) ≤ 0 ∧ (0 : Int) < (lenL v2)) <|
              bindO (ucd_hex (getL ByteArray.empty v2 (0 + 0))) fun v3 =>
              chk ((0 : Int) ≤ 1 ∧ (1 : Int) < (lenL v2)) <|
              bindO (ucd_hex (getL ByteArray.empty v2 (0 + 1))) fun v4 =>
              chk ((0 : Int) ≤ 2 ∧ (2 : Int) < (lenL v2)) <|
              bindO (ucd_hex (getL ByteArray.empty v2 (0 + 2))) fun v5 =>
              chk (growOk 24 ((lenL l'1) + 1)) <|
              chk (inR .i64 (v1 + 1)) <|
              some (.go ((v1 + 1), (l'1 ++ ([(T_ucd_Form.mk v3 v4 v5)] : List T_ucd_Form)))))
             (chk (inR .i64 (v1 + 1)) <|
              some (.go ((v1 + 1), l'1))))
          (some (.out (.go l'1)))) (0, ([] : List T_ucd_Form))) fun l' =>
  some l'

/-- lapwing/ucd.Load -/
noncomputable def ucd_Load  : Option T_ucd_Data :=
  bindO (ucd_table_class kS1) fun v =>
  bindO (ucd_table_wide kS2) fun v1 =>
  bindO (ucd_table_join kS3) fun v2 =>
  bindO (ucd_pairs kS4) fun v3 =>
  bindO (ucd_pairs kS5) fun v4 =>
  bindO (ucd_forms kS6) fun v5 =>
  some (T_ucd_Data.mk v v1 v2 v3 v4 v5)

/-- lapwing/ranges.Get -/
noncomputable def ranges_Get (t' : T_ranges_Table) (r' : Int) : Option Int :=
  cutO (loopO (fun (v : Int) =>
        iteO (decide (v < (lenL t'.fL)))
          (chk (0 ≤ v ∧ v < (lenL t'.fL)) <|
           iteO (if (decide ((getL d_ranges_Row t'.fL v).fLo ≤ r')) = true then (decide (r' ≤ (getL d_ranges_Row t'.fL v).fHi)) else false)
             (some (.out (.out (getL d_ranges_Row t'.fL v).fV)))
             (chk (inR .i64 (v + 1)) <|
              some (.go (v + 1))))
          (some (.out (.go ())))) 0) fun (_ : Unit) =>
  some 0

/-- lapwing/ranges.fits -/
noncomputable def ranges_fits (r' : T_ranges_Row) : Option Bool :=
  some (if (if (if (if (decide (0 ≤ r'.fLo)) = true then (decide (r'.fLo ≤ r'.fHi)) else false) = true then (decide (r'.fHi ≤ 1114111)) else false) = true then (decide (1 ≤ r'.fV)) else false) = true then (decide (r'.fV ≤ 255)) else false)

/-- lapwing/ranges.touches -/
noncomputable def ranges_touches (a : T_ranges_Row) (b : T_ranges_Row) : Option Bool :=
  chk (inR .i64 (a.fHi + 1)) <|
  some (if (b.fLo == (a.fHi + 1)) = true then (b.fV == a.fV) else false)

/-- lapwing/ranges.Sane -/
noncomputable def ranges_Sane (t' : T_ranges_Table) : Option Bool :=
  iteO (decide (4096 < (lenL t'.fL)))
    (some false)
    (cutO (loopO (fun (v : Int) =>
           iteO (decide (v < (lenL t'.fL)))
             (chk (0 ≤ v ∧ v < (lenL t'.fL)) <|
              bindO (ranges_fits (getL d_ranges_Row t'.fL v)) fun v1 =>
              iteO (!v1)
                (some (.out (.out false)))
                (chk ((decide (0 < v)) = true → inR .i64 (v - 1)) <|
                 chk ((decide (0 < v)) = true → 0 ≤ (v - 1) ∧ (v - 1) < (lenL t'.fL)) <|
                 chk (((decide (0 < v)) && ((decide (0 < v)) && (!(decide ((getL d_ranges_Row t'.fL v).fLo ≤ (getL d_ranges_Row t'.fL (v - 1)).fHi))))) = true → inR .i64 (v - 1)) <|
                 chk (((decide (0 < v)) && ((decide (0 < v)) && (!(decide ((getL d_ranges_Row t'.fL v).fLo ≤ (getL d_ranges_Row t'.fL (v - 1)).fHi))))) = true → 0 ≤ (v - 1) ∧ (v - 1) < (lenL t'.fL)) <|
                 bindO (if ((decide (0 < v)) && ((decide (0 < v)) && (!(decide ((getL d_ranges_Row t'.fL v).fLo ≤ (getL d_ranges_Row t'.fL (v - 1)).fHi))))) = true then ranges_touches (getL d_ranges_Row t'.fL (v - 1)) (getL d_ranges_Row t'.fL v) else some false) fun v2 =>
                 iteO (if (decide (0 < v)) = true then (if (decide ((getL d_ranges_Row t'.fL v).fLo ≤ (getL d_ranges_Row t'.fL (v - 1)).fHi)) = true then true else v2) else false)
                   (some (.out (.out false)))
                   (chk (inR .i64 (v + 1)) <|
                    some (.go (v + 1)))))
             (some (.out (.go ())))) 0) fun (_ : Unit) =>
     some true)

/-- lapwing/ucd.Shape -/
noncomputable def ucd_Shape (d' : T_ucd_Data) (r' : Int) (which : Int) : Option Int :=
  iteO (if (decide (which < 0)) = true then true else (decide (3 < which)))
    (some r')
    (cutO (loopO (fun (v : Int) =>
           iteO (decide (v < (lenL d'.fForms)))
             (chk (0 ≤ v ∧ v < (lenL d'.fForms)) <|
              iteO (!((getL d_ucd_Form d'.fForms v).fR == r'))
                (chk (inR .i64 (v + 1)) <|
                 some (.go (v + 1)))
                (iteO ((getL d_ucd_Form d'.fForms v).fN == 4)
                   (chk (inR .i64 ((getL d_ucd_Form d'.fForms v).fAt + which)) <|
                    some (.out (.out ((getL d_ucd_Form d'.fForms v).fAt + which))))
                   (iteO (if ((getL d_ucd_Form d'.fForms v).fN == 2) = true then (if (which == 1) = true then true else (which == 3)) else false)
                      (chk (inR .i64 ((getL d_ucd_Form d'.fForms v).fAt + 1)) <|
                       some (.out (.out ((getL d_ucd_Form d'.fForms v).fAt + 1))))
                      (some (.out (.out (getL d_ucd_Form d'.fForms v).fAt))))))
             (some (.out (.go ())))) 0) fun (_ : Unit) =>
     some r')

/-- lapwing/ucd.Join -/
noncomputable def ucd_Join (d' : T_ucd_Data) (r' : Int) : Option Int :=
  bindO (ranges_Get d'.fJoin r') fun v =>
  some v

/-- lapwing/ucd.Bracket -/
noncomputable def ucd_Bracket (d' : T_ucd_Data) (r' : Int) : Option (Int × Int) :=
  cutO (loopO (fun (v : Int) =>
        iteO (decide (v < (lenL d'.fBrackets)))
          (chk (0 ≤ v ∧ v < (lenL d'.fBrackets)) <|
           iteO (r' == (getL d_ucd_Pair d'.fBrackets v).fA)
             (some (.out (.out ((getL d_ucd_Pair d'.fBrackets v).fB, 1))))
             (iteO (r' == (getL d_ucd_Pair d'.fBrackets v).fB)
                (some (.out (.out ((getL d_ucd_Pair d'.fBrackets v).fA, 2))))
                (chk (inR .i64 (v + 1)) <|
                 some (.go (v + 1)))))
          (some (.out (.go ())))) 0) fun (_ : Unit) =>
  some (0, 0)

/-- lapwing/ucd.Mirror -/
noncomputable def ucd_Mirror (d' : T_ucd_Data) (r' : Int) : Option Int :=
  cutO (loopO (fun (v : Int) =>
        iteO (decide (v < (lenL d'.fMirror)))
          (chk (0 ≤ v ∧ v < (lenL d'.fMirror)) <|
           iteO (r' == (getL d_ucd_Pair d'.fMirror v).fA)
             (some (.out (.out (getL d_ucd_Pair d'.fMirror v).fB)))
             (iteO (r' == (getL d_ucd_Pair d'.fMirror v).fB)
                (some (.out (.out (getL d_ucd_Pair d'.fMirror v).fA)))
                (chk (inR .i64 (v + 1)) <|
                 some (.go (v + 1)))))
          (some (.out (.go ())))) 0) fun (_ : Unit) =>
  some r'

/-- lapwing/ucd.Class -/
noncomputable def ucd_Class (d' : T_ucd_Data) (r' : Int) : Option Int :=
  bindO (ranges_Get d'.fClass r') fun v =>
  iteO (decide (0 < v))
    (some v)
    (some 1)

/-- lapwing/ucd.Width -/
noncomputable def ucd_Width (d' : T_ucd_Data) (r' : Int) : Option Int :=
  bindO (ranges_Get d'.fWide r') fun v =>
  iteO (decide (0 < v))
    (chk (inR .i64 (v - 1)) <|
     some (v - 1))
    (some 1)

/-- lapwing/ucd.Ligature -/
noncomputable def ucd_Ligature (lam : Int) (alef : Int) (final : Bool) : Option (Int × Bool) :=
  iteO (!(lam == 1604))
    (some (0, false))
    (iteO (alef == 1570)
       (iteO final
          (chk (inR .i64 (65269 + 1)) <|
           let r' := (65269 + 1)
           some (r', true))
          (some (65269, true)))
       (iteO (alef == 1571)
          (iteO final
             (chk (inR .i64 (65271 + 1)) <|
              let r'1 := (65271 + 1)
              some (r'1, true))
             (some (65271, true)))
          (iteO (alef == 1573)
             (iteO final
                (chk (inR .i64 (65273 + 1)) <|
                 let r'2 := (65273 + 1)
                 some (r'2, true))
                (some (65273, true)))
             (iteO (alef == 1575)
                (iteO final
                   (chk (inR .i64 (65275 + 1)) <|
                    let r'3 := (65275 + 1)
                    some (r'3, true))
                   (some (65275, true)))
                (some (0, false))))))

/-- lapwing/lapwinglaw02.awake -/
noncomputable def lapwinglaw02_awake  : Option Bool :=
  bindO (ucd_Load) fun v =>
  bindO (ucd_Class v 1488) fun v1 =>
  bindO (if (v1 == 2) = true then ucd_Mirror v 40 else some 0) fun v2 =>
  bindO (if (if (v1 == 2) = true then (v2 == 41) else false) = true then ucd_Class v 65 else some 0) fun v3 =>
  bindO (if (if (if (v1 == 2) = true then (v2 == 41) else false) = true then (v3 == 1) else false) = true then ucd_Width v 65 else some 0) fun v4 =>
  bindO (if (if (if (if (v1 == 2) = true then (v2 == 41) else false) = true then (v3 == 1) else false) = true then (v4 == 1) else false) = true then ucd_Shape v 1576 3 else some 0) fun v5 =>
  some (if (if (if (if (v1 == 2) = true then (v2 == 41) else false) = true then (v3 == 1) else false) = true then (v4 == 1) else false) = true then (v5 == 65170) else false)

/-- lapwing/lapwinglaw02.UcdForms -/
noncomputable def lapwinglaw02_UcdForms (a : Int) (b : Int) (i : Int) (j : Int) : Option Bool :=
  bindO (lapwinglaw02_awake) fun v =>
  bindO (ucd_Load) fun v1 =>
  bindO (ucd_Shape v1 a (bndI .i64 i 3)) fun v2 =>
  bindO (ucd_Shape v1 b (bndI .i64 j 3)) fun v3 =>
  iteO (if (if (if (!(a == b)) = true then (v2 == v3) else false) = true then (!(v2 == a)) else false) = true then (!(v3 == b)) else false)
    (some false)
    (bindO (if v = true then ucd_Join v1 a else some 0) fun v4 =>
     bindO (if (v && (v && (!(!(v4 == 0))))) = true then ucd_Shape v1 a 0 else some 0) fun v5 =>
     bindO (if (if v = true then (if (!(v4 == 0)) = true then true else (v5 == v2)) else false) = true then ucd_Join v1 a else some 0) fun v6 =>
     bindO (if ((if v = true then (if (!(v4 == 0)) = true then true else (v5 == v2)) else false) && ((if v = true then (if (!(v4 == 0)) = true then true else (v5 == v2)) else false) && (!(!(v6 == 1))))) = true then ucd_Shape v1 a 0 else some 0) fun v7 =>
     bindO (if ((if v = true then (if (!(v4 == 0)) = true then true else (v5 == v2)) else false) && ((if v = true then (if (!(v4 == 0)) = true then true else (v5 == v2)) else false) && (!(!(v6 == 1))))) = true then ucd_Shape v1 a 2 else some 0) fun v8 =>
     bindO (if (((if v = true then (if (!(v4 == 0)) = true then true else (v5 == v2)) else false) && ((if v = true then (if (!(v4 == 0)) = true then true else (v5 == v2)) else false) && (!(!(v6 == 1))))) && (((if v = true then (if (!(v4 == 0)) = true then true else (v5 == v2)) else false) && ((if v = true then (if (!(v4 == 0)) = true then true else (v5 == v2)) else false) && (!(!(v6 == 1))))) && (v7 == v8))) = true then ucd_Shape v1 a 1 else some 0) fun v9 =>
     bindO (if (((if v = true then (if (!(v4 == 0)) = true then true else (v5 == v2)) else false) && ((if v = true then (if (!(v4 == 0)) = true then true else (v5 == v2)) else false) && (!(!(v6 == 1))))) && (((if v = true then (if (!(v4 == 0)) = true then true else (v5 == v2)) else false) && ((if v = true then (if (!(v4 == 0)) = true then true else (v5 == v2)) else false) && (!(!(v6 == 1))))) && (v7 == v8))) = true then ucd_Shape v1 a 3 else some 0) fun v10 =>
     chk ((if (if v = true then (if (!(v4 == 0)) = true then true else (v5 == v2)) else false) = true then (if (!(v6 == 1)) = true then true else (if (v7 == v8) = true then (v9 == v10) else false)) else false) = true → inR .i64 ((-1) - (bndI .i64 i 3))) <|
     bindO (if (if (if v = true then (if (!(v4 == 0)) = true then true else (v5 == v2)) else false) = true then (if (!(v6 == 1)) = true then true else (if (v7 == v8) = true then (v9 == v10) else false)) else false) = true then ucd_Shape v1 a ((-1) - (bndI .i64 i 3)) else some 0) fun v11 =>
     some (if (if (if v = true then (if (!(v4 == 0)) = true then true else (v5 == v2)) else false) = true then (if (!(v6 == 1)) = true then true else (if (v7 == v8) = true then (v9 == v10) else false)) else false) = true then (v11 == a) else false))

/-- lapwing/lapwinglaw02.UcdPairs -/
noncomputable def lapwinglaw02_UcdPairs (r' : Int) : Option Bool :=
  bindO (lapwinglaw02_awake) fun v =>
  bindO (ucd_Load) fun v1 =>
  bindO (ucd_Bracket v1 r') fun v2 =>
  let o := v2.1
  let is := v2.2
  bindO (ucd_Bracket v1 o) fun v3 =>
  let p' := v3.1
  let as := v3.2
  chk (((!(is == 0)) && ((!(is == 0)) && (!(!(p' == r'))))) = true → inR .i64 (is + as)) <|
  bindO (if ((!(is == 0)) && ((!(is == 0)) && (!(if (!(p' == r')) = true then true else (!((is + as) == 3)))))) = true then ucd_Mirror v1 r' else some 0) fun v4 =>
  iteO (if (!(is == 0)) = true then (if (if (!(p' == r')) = true then true else (!((is + as) == 3))) = true then true else (!(v4 == o))) else false)
    (some false)
    (bindO (if v = true then ucd_Mirror v1 r' else some 0) fun v5 =>
     bindO (if v = true then ucd_Mirror v1 v5 else some 0) fun v6 =>
     some (if (if (if v = true then (v6 == r') else false) = true then (decide (0 ≤ is)) else false) = true then (decide (is ≤ 2)) else false))

/-- lapwing/lapwinglaw02.UcdSane -/
noncomputable def lapwinglaw02_UcdSane (r' : Int) : Option Bool :=
  bindO (lapwinglaw02_awake) fun v =>
  bindO (ucd_Load) fun v1 =>
  bindO (ucd_Class v1 r') fun v2 =>
  bindO (ucd_Width v1 r') fun v3 =>
  bindO (ucd_Join v1 r') fun v4 =>
  bindO (if v = true then ranges_Sane v1.fClass else some false) fun v5 =>
  bindO (if (if v = true then v5 else false) = true then ranges_Sane v1.fWide else some false) fun v6 =>
  bindO (if (if (if v = true then v5 else false) = true then v6 else false) = true then ranges_Sane v1.fJoin else some false) fun v7 =>
  some (if (if (if (if (if (if (if (if (if (if (if v = true then v5 else false) = true then v6 else false) = true then v7 else false) = true then (decide (1 ≤ v2)) else false) = true then (decide (v2 ≤ 23)) else false) = true then (decide (0 ≤ v3)) else false) = true then (decide (v3 ≤ 2)) else false) = true then (decide (0 ≤ v4)) else false) = true then (decide (v4 ≤ 4)) else false) = true then (if (!(v2 == 9)) = true then true else (v3 == 0)) else false) = true then (if (!(v4 == 4)) = true then true else (v3 == 0)) else false)

/-- lapwing/lapwinglaw02.UcdLigature -/
noncomputable def lapwinglaw02_UcdLigature (a : Int) (b : Int) (i : Bool) (j : Bool) : Option Bool :=
  bindO (lapwinglaw02_awake) fun v =>
  bindO (ucd_Load) fun v1 =>
  bindO (ucd_Ligature 1604 a i) fun v2 =>
  let x' := v2.1
  let ok := v2.2
  bindO (ucd_Ligature 1604 b j) fun v3 =>
  let y' := v3.1
  let also := v3.2
  iteO (if (if ok = true then also else false) = true then (!((x' == y') == (if (a == b) = true then (i == j) else false))) else false)
    (some false)
    (bindO (if ((v && (v && (!(!ok)))) && ((v && (v && (!(!ok)))) && (if (decide (65269 ≤ x')) = true then (decide (x' ≤ 65276)) else false))) = true then ucd_Class v1 x' else some 0) fun v4 =>
     bindO (if ((v && (v && (!(!ok)))) && ((v && (v && (!(!ok)))) && (if (if (decide (65269 ≤ x')) = true then (decide (x' ≤ 65276)) else false) = true then (v4 == 3) else false))) = true then ucd_Join v1 a else some 0) fun v5 =>
     some (if (if v = true then (if (!ok) = true then true else (if (if (if (decide (65269 ≤ x')) = true then (decide (x' ≤ 65276)) else false) = true then (v4 == 3) else false) = true then (v5 == 1) else false)) else false) = true then (if ok = true then true else (x' == 0)) else false))

/-- lapwing/lapwinglaw02.UcdWide -/
noncomputable def lapwinglaw02_UcdWide (r' : Int) : Option Bool :=
  bindO (lapwinglaw02_awake) fun v =>
  bindO (ucd_Load) fun v1 =>
  iteO (if (decide (0 ≤ r')) = true then (decide (r' ≤ 262141)) else false)
    (some v)
    (bindO (ucd_Bracket v1 r') fun v2 =>
     let o := v2.1
     let k' := v2.2
     bindO (ucd_Ligature r' 1575 true) fun v3 =>
     let _ := v3.1
     let ok := v3.2
     bindO (if v = true then ucd_Class v1 r' else some 0) fun v4 =>
     bindO (if (if v = true then (v4 == 1) else false) = true then ucd_Width v1 r' else some 0) fun v5 =>
     bindO (if (if (if v = true then (v4 == 1) else false) = true then (v5 == 1) else false) = true then ucd_Join v1 r' else some 0) fun v6 =>
     bindO (if (if (if (if v = true then (v4 == 1) else false) = true then (v5 == 1) else false) = true then (v6 == 0) else false) = true then ucd_Mirror v1 r' else some 0) fun v7 =>
     bindO (if (if (if (if (if (if (if v = true then (v4 == 1) else false) = true then (v5 == 1) else false) = true then (v6 == 0) else false) = true then (v7 == r') else false) = true then (o == 0) else false) = true then (k' == 0) else false) = true then ucd_Shape v1 r' 1 else some 0) fun v8 =>
     some (if (if (if (if (if (if (if (if v = true then (v4 == 1) else false) = true then (v5 == 1) else false) = true then (v6 == 0) else false) = true then (v7 == r') else false) = true then (o == 0) else false) = true then (k' == 0) else false) = true then (v8 == r') else false) = true then (!ok) else false))

/-- lapwing/order.Invert -/
noncomputable def order_Invert (l' : (List Int)) : Option ((List Int) × Bool) :=
  chk (makeOk 8 (lenL l') (lenL l')) <|
  cutO (loopO (fun ((v1, out3) : Int × List Int) =>
        iteO (decide (v1 < (lenL l')))
          (chk (0 ≤ v1 ∧ v1 < (lenL l')) <|
           chk (inR .i64 (v1 + 1)) <|
           some (.go ((v1 + 1), (setL out3 v1 (-1)))))
          (some (.out (.go out3)))) (0, (repL (lenL l') 0))) fun out =>
  cutO (loopO (fun ((v, out2) : Int × List Int) =>
        iteO (decide (v < (lenL l')))
          (chk (0 ≤ v ∧ v < (lenL l')) <|
           let x' := (getL 0 l' v)
           chk ((!(if (decide (x' < 0)) = true then true else (decide ((lenL l') ≤ x')))) = true → 0 ≤ x' ∧ x' < (lenL l')) <|
           iteO (if (if (decide (x' < 0)) = true then true else (decide ((lenL l') ≤ x'))) = true then true else (decide (0 ≤ (getL 0 out2 (0 + x')))))
             (some (.out (.out (([] : List Int), false))))
             (chk (0 ≤ x' ∧ x' < (lenL l')) <|
              chk (inR .i64 (v + 1)) <|
              some (.go ((v + 1), (setL out2 x' v)))))
          (some (.out (.go out2)))) (0, out)) fun out1 =>
  some (out1, true)

/-- slices.Reverse[[]int,int] -/
noncomputable def slices_Reverse___int_int_ (s : List Int) (s_off : Int) (s_n : Int) : Option (List Int) :=
  chk (0 ≤ s_off ∧ 0 ≤ s_n ∧ s_off + s_n ≤ lenL s) <|
  chk (inR .i64 (s_n - 1)) <|
  let j := (s_n - 1)
  loopO (fun ((i, j1, s1) : Int × Int × List Int) =>
      iteO (decide (i < j1))
        (chk (0 ≤ j1 ∧ j1 < s_n) <|
         chk (0 ≤ i ∧ i < s_n) <|
         chk (0 ≤ i ∧ i < s_n) <|
         chk (0 ≤ j1 ∧ j1 < s_n) <|
         chk (inR .i64 (i + 1)) <|
         chk (inR .i64 (j1 - 1)) <|
         let i1 := (i + 1)
         let j2 := (j1 - 1)
         some (.go (i1, j2, (setL (setL s1 (s_off + i) (getL 0 s1 (s_off + j1))) (s_off + j1) (getL 0 s1 (s_off + i))))))
        (some (.out s1))) (0, j, s)

/-- lapwing/order.Visual -/
noncomputable def order_Visual (levels : (List Int)) : Option (List Int) :=
  chk (makeOk 8 (lenL levels) (lenL levels)) <|
  chk (makeOk 8 (lenL levels) (lenL levels)) <|
  cutO (loopO (fun ((most1, least1, v1, l'1, out5) : Int × Int × Int × List Int × List Int) =>
        iteO (decide (v1 < (lenL levels)))
          (chk (0 ≤ v1 ∧ v1 < (lenL levels)) <|
           let x' := (getL 0 levels v1)
           let x'1 := (imaxI 0 (iminI x' 127))
           chk (0 ≤ v1 ∧ v1 < (lenL levels)) <|
           chk (0 ≤ v1 ∧ v1 < (lenL levels)) <|
           let most2 := (imaxI most1 x'1)
           chk ((2 : Int) ≠ 0) <|
           iteO ((Int.tmod x'1 2) == 1)
             (let least2 := (iminI least1 x'1)
              chk (inR .i64 (v1 + 1)) <|
              some (.go (most2, least2, (v1 + 1), (setL l'1 v1 x'1), (setL out5 v1 v1))))
             (chk (inR .i64 (v1 + 1)) <|
              some (.go (most2, least1, (v1 + 1), (setL l'1 v1 x'1), (setL out5 v1 v1)))))
          (some (.out (.go (most1, least1, l'1, out5))))) (0, 128, 0, (repL (lenL levels) 0), (repL (lenL levels) 0))) fun (most, least, l', out) =>
  cutO (loopO (fun ((level, out2) : Int × List Int) =>
        iteO (decide (least ≤ level))
          (cutO (loopO (fun ((from', out4) : Int × List Int) =>
                 iteO (decide (from' < (lenL levels)))
                   (cutO (loopO (fun (to1 : Int) =>
                          chk ((decide (to1 < (lenL levels))) = true → 0 ≤ to1 ∧ to1 < (lenL levels)) <|
                          iteO (if (decide (to1 < (lenL levels))) = true then (decide (level ≤ (getL 0 l' (0 + to1)))) else false)
                            (chk (inR .i64 (to1 + 1)) <|
                             let to2 := (to1 + 1)
                             some (.go to2))
                            (some (.out (.go to1)))) from') fun to =>
                    chk (0 ≤ from' ∧ from' ≤ to ∧ to ≤ (lenL levels)) <|
                    bindO (slices_Reverse___int_int_ out4 (0 + from') (to - from')) fun v =>
                    chk (lenL v = lenL out4) <|
                    chk (inR .i64 (to + 1)) <|
                    let from'1 := (to + 1)
                    some (.go (from'1, v)))
                   (some (.out (.go out4)))) (0, out2)) fun out3 =>
           chk (inR .i64 (level - 1)) <|
           let level1 := (level - 1)
           some (.go (level1, out3)))
          (some (.out (.go out2)))) (most, out)) fun out1 =>
  some out1

/-- lapwing/lapwingref03.Ints -/
noncomputable def lapwingref03_Ints (a : (List Int)) (b : (List Int)) : Option Bool :=
  iteO (!((lenL a) == (lenL b)))
    (some false)
    (cutO (loopO (fun (i : Int) =>
           iteO (decide (i < (lenL a)))
             (chk (0 ≤ i ∧ i < (lenL a)) <|
              chk (0 ≤ i ∧ i < (lenL b)) <|
              iteO (!((getL 0 a i) == (getL 0 b i)))
                (some (.out (.out false)))
                (chk (inR .i64 (i + 1)) <|
                 let i1 := (i + 1)
                 some (.go i1)))
             (some (.out (.go ())))) 0) fun (_ : Unit) =>
     some true)

/-- slices.Clone[[]int,int] -/
noncomputable def slices_Clone___int_int_ (s : (List Int)) : Option (List Int) :=
  nilO (lenL s)
    (cutO (some (.out ([] : List Int))) fun (_ : Unit) =>
     chk (growOk 8 (lenL s)) <|
     some s)
    (cutO (some (.go ())) fun (_ : Unit) =>
     chk (growOk 8 (lenL s)) <|
     some s)

/-- lapwing/order.passed -/
noncomputable def order_passed (c' : Int) : Option Bool :=
  cutO (cutO (iteO (c' == 13)
        (some (.go (c' == 13)))
        (iteO (c' == 10)
           (some (.go (c' == 10)))
           (iteO (c' == 15)
              (some (.go (c' == 15)))
              (iteO (c' == 16)
                 (some (.go (c' == 16)))
                 (iteO (c' == 17)
                    (some (.go (c' == 17)))
                    (iteO (c' == 18)
                       (some (.go (c' == 18)))
                       (iteO (c' == 19)
                          (some (.go (c' == 19)))
                          (iteO (c' == 20)
                             (some (.go (c' == 20)))
                             (iteO (c' == 21)
                                (some (.go (c' == 21)))
                                (iteO (c' == 22)
                                   (some (.go (c' == 22)))
                                   (some (.go (c' == 23))))))))))))) fun v =>
    iteO v
      (some (.out true))
      (some (.go ()))) fun (_ : Unit) =>
  some false

/-- lapwing/order.Reset -/
noncomputable def order_Reset (d' : T_ucd_Data) (r' : (List Int)) (levels : (List Int)) (base : Int) : Option (List Int) :=
  bindO (slices_Clone___int_int_ levels) fun v =>
  iteO (!((lenL r') == (lenL levels)))
    (some v)
    (cutO (chk (inR .i64 ((lenL r') - 1)) <|
       let i := ((lenL r') - 1)
       loopO (fun ((end', i1, out1) : Bool × Int × List Int) =>
           iteO (decide (0 ≤ i1))
             (chk (0 ≤ i1 ∧ i1 < (lenL r')) <|
              bindO (ucd_Class d' (getL 0 r' i1)) fun v1 =>
              iteO (if (v1 == 11) = true then true else (v1 == 12))
                (chk (0 ≤ i1 ∧ i1 < (lenL v)) <|
                 chk (inR .i64 (i1 - 1)) <|
                 let i2 := (i1 - 1)
                 some (.go (true, i2, (setL out1 i1 base))))
                (bindO (order_passed v1) fun v2 =>
                 iteO (!v2)
                   (chk (inR .i64 (i1 - 1)) <|
                    let i3 := (i1 - 1)
                    some (.go (false, i3, out1)))
                   (iteO end'
                      (chk (0 ≤ i1 ∧ i1 < (lenL v)) <|
                       chk (inR .i64 (i1 - 1)) <|
                       let i4 := (i1 - 1)
                       some (.go (end', i4, (setL out1 i1 base))))
                      (chk (inR .i64 (i1 - 1)) <|
                       let i5 := (i1 - 1)
                       some (.go (end', i5, out1))))))
             (some (.out (.go out1)))) (true, i, v)) fun out =>
     some out)

/-- lapwing/lapwinglaw19.awake -/
noncomputable def lapwinglaw19_awake  : Option Bool :=
  bindO (order_Invert ([2, 0, 1] : List Int)) fun v =>
  let ok := v.2
  bindO (if ok = true then order_Visual ([0, 1, 1, 0] : List Int) else some []) fun v1 =>
  bindO (if ok = true then lapwingref03_Ints v1 ([0, 2, 1, 3] : List Int) else some false) fun v2 =>
  bindO (if (if ok = true then v2 else false) = true then lapwingref03_Ints v.1 ([1, 2, 0] : List Int) else some false) fun v3 =>
  some (if (if ok = true then v2 else false) = true then v3 else false)

/-- lapwing/lapwinglaw19.OrderReset -/
noncomputable def lapwinglaw19_OrderReset (r' : (List Int)) (levels : (List Int)) (base : Int) (n : Int) : Option Bool :=
  bindO (lapwinglaw19_awake) fun v =>
  iteO (if (decide (200 < (lenL r'))) = true then true else (!((lenL levels) == (lenL r'))))
    (some v)
    (bindO (ucd_Load) fun v1 =>
     let m := (bndI .i64 n 7)
     chk (growOk 8 (lenL r')) <|
     chk (growOk 8 (lenL levels)) <|
     cutO (loopO (fun ((i2, s1, t'7) : Int × List Int × List Int) =>
           iteO (decide (i2 < m))
             (chk (growOk 8 ((lenL s1) + 1)) <|
              chk (growOk 8 ((lenL t'7) + 1)) <|
              chk (inR .i64 (i2 + 1)) <|
              let i3 := (i2 + 1)
              some (.go (i3, (s1 ++ ([32] : List Int)), (t'7 ++ ([99] : List Int)))))
             (some (.out (.go (s1, t'7))))) (0, r', levels)) fun (s, t'1) =>
     cutO (bindO (order_Reset v1 s t'1 base) fun v5 =>
       some (.go v5)) fun a =>
     bindO (if (!(!((lenL a) == (lenL s)))) = true then order_Reset v1 s a base else some []) fun v2 =>
     bindO (if (!(!((lenL a) == (lenL s)))) = true then lapwingref03_Ints v2 a else some false) fun v3 =>
     iteO (if (!((lenL a) == (lenL s))) = true then true else (!v3))
       (some false)
       (cutO (loopO (fun (i : Int) =>
              iteO (decide (i < (lenL s)))
                (cutO (chk (0 ≤ i ∧ i < (lenL s)) <|
                   bindO (ucd_Class v1 (getL 0 s i)) fun v4 =>
                   chk ((decide ((lenL r') ≤ i)) = true → 0 ≤ i ∧ i < (lenL a)) <|
                   chk ((!(if (decide ((lenL r') ≤ i)) = true then (!((getL 0 a i) == base)) else false)) = true → 0 ≤ i ∧ i < (lenL a)) <|
                   chk ((!(if (decide ((lenL r') ≤ i)) = true then (!((getL 0 a i) == base)) else false)) = true → 0 ≤ i ∧ i < (lenL t'1)) <|
                   chk (((!(if (decide ((lenL r') ≤ i)) = true then (!((getL 0 a i) == base)) else false)) && ((!(if (decide ((lenL r') ≤ i)) = true then (!((getL 0 a i) == base)) else false)) && (!((getL 0 a i) == (getL 0 t'1 (0 + i)))))) = true → 0 ≤ i ∧ i < (lenL a)) <|
                   chk (((!(if (if (decide ((lenL r') ≤ i)) = true then (!((getL 0 a i) == base)) else false) = true then true else (if (!((getL 0 a i) == (getL 0 t'1 (0 + i)))) = true then (!((getL 0 a i) == base)) else false))) && ((!(if (if (decide ((lenL r') ≤ i)) = true then (!((getL 0 a i) == base)) else false) = true then true else (if (!((getL 0 a i) == (getL 0 t'1 (0 + i)))) = true then (!((getL 0 a i) == base)) else false))) && (if (if (if (v4 == 1) = true then true else (v4 == 2)) = true then true else (v4 == 3)) = true then true else (v4 == 4)))) = true → 0 ≤ i ∧ i < (lenL a)) <|
                   chk (((!(if (if (decide ((lenL r') ≤ i)) = true then (!((getL 0 a i) == base)) else false) = true then true else (if (!((getL 0 a i) == (getL 0 t'1 (0 + i)))) = true then (!((getL 0 a i) == base)) else false))) && ((!(if (if (decide ((lenL r') ≤ i)) = true then (!((getL 0 a i) == base)) else false) = true then true else (if (!((getL 0 a i) == (getL 0 t'1 (0 + i)))) = true then (!((getL 0 a i) == base)) else false))) && (if (if (if (v4 == 1) = true then true else (v4 == 2)) = true then true else (v4 == 3)) = true then true else (v4 == 4)))) = true → 0 ≤ i ∧ i < (lenL t'1)) <|
                   iteO (if (if (if (decide ((lenL r') ≤ i)) = true then (!((getL 0 a i) == base)) else false) = true then true else (if (!((getL 0 a i) == (getL 0 t'1 (0 + i)))) = true then (!((getL 0 a i) == base)) else false)) = true then true else (if (if (if (if (v4 == 1) = true then true else (v4 == 2)) = true then true else (v4 == 3)) = true then true else (v4 == 4)) = true then (!((getL 0 a i) == (getL 0 t'1 (0 + i)))) else false))
                     (some (.out (.out (.out false))))
                     (some (.go ()))) fun (_ : Unit) =>
                 chk (inR .i64 (i + 1)) <|
                 let i1 := (i + 1)
                 some (.go i1))
                (some (.out (.go ())))) 0) fun (_ : Unit) =>
        some v))

/-- lapwing/shape.Before -/
noncomputable def shape_Before (d' : T_ucd_Data) (r' : (List Int)) (at' : Int) : Option Int :=
  iteO (if (decide (at' < 0)) = true then true else (decide ((lenL r') ≤ at')))
    (some (-1))
    (cutO (chk (inR .i64 (at' - 1)) <|
       let i := (at' - 1)
       loopO (fun (i1 : Int) =>
           iteO (decide (0 ≤ i1))
             (chk (0 ≤ i1 ∧ i1 < (lenL r')) <|
              bindO (ucd_Join d' (getL 0 r' i1)) fun v =>
              iteO (!(v == 4))
                (some (.out (.out i1)))
                (chk (inR .i64 (i1 - 1)) <|
                 let i2 := (i1 - 1)
                 some (.go i2)))
             (some (.out (.go ())))) i) fun (_ : Unit) =>
     some (-1))

/-- lapwing/shape.After -/
noncomputable def shape_After (d' : T_ucd_Data) (r' : (List Int)) (at' : Int) : Option Int :=
  iteO (if (decide (at' < 0)) = true then true else (decide ((lenL r') ≤ at')))
    (some (-1))
    (cutO (chk (inR .i64 (at' + 1)) <|
       let i := (at' + 1)
       loopO (fun (i1 : Int) =>
           iteO (decide (i1 < (lenL r')))
             (chk (0 ≤ i1 ∧ i1 < (lenL r')) <|
              bindO (ucd_Join d' (getL 0 r' i1)) fun v =>
              iteO (!(v == 4))
                (some (.out (.out i1)))
                (chk (inR .i64 (i1 + 1)) <|
                 let i2 := (i1 + 1)
                 some (.go i2)))
             (some (.out (.go ())))) i) fun (_ : Unit) =>
     some (-1))

/-- lapwing/shape.Forms$1 -/
noncomputable def shape_Forms_1 (at' : Int) (side : Int) (cap0 : (List (Int × Int))) (cap1 : T_ucd_Data) (cap2 : (List Int)) : Option Bool :=
  chk ((decide (0 ≤ at')) = true → 0 ≤ at' ∧ at' < (lenL cap2)) <|
  bindO (if (decide (0 ≤ at')) = true then ucd_Join cap1 (getL 0 cap2 at') else some 0) fun v =>
  some (if (decide (0 ≤ at')) = true then (!((bndI .i64 (mgetI cap0 v) side) == 0)) else false)

/-- lapwing/shape.Forms -/
noncomputable def shape_Forms (d' : T_ucd_Data) (r' : (List Int)) : Option (List Int) :=
  bindO (shape_sides) fun v =>
  chk (makeOk 8 (lenL r') (lenL r')) <|
  cutO (loopO (fun ((v1, out1) : Int × List Int) =>
        iteO (decide (v1 < (lenL r')))
          (bindO (shape_Forms_1 v1 1 v d' r') fun v2 =>
           bindO (if v2 = true then shape_Before d' r' v1 else some 0) fun v3 =>
           bindO (if v2 = true then shape_Forms_1 v3 2 v d' r' else some false) fun v4 =>
           let first := (if v2 = true then v4 else false)
           bindO (shape_Forms_1 v1 2 v d' r') fun v5 =>
           bindO (if v5 = true then shape_After d' r' v1 else some 0) fun v6 =>
           bindO (if v5 = true then shape_Forms_1 v6 1 v d' r' else some false) fun v7 =>
           let second := (if v5 = true then v7 else false)
           iteO (if first = true then second else false)
             (chk (0 ≤ v1 ∧ v1 < (lenL r')) <|
              chk (inR .i64 (v1 + 1)) <|
              some (.go ((v1 + 1), (setL out1 v1 3))))
             (iteO first
                (chk (0 ≤ v1 ∧ v1 < (lenL r')) <|
                 chk (inR .i64 (v1 + 1)) <|
                 some (.go ((v1 + 1), (setL out1 v1 1))))
                (iteO second
                   (chk (0 ≤ v1 ∧ v1 < (lenL r')) <|
                    chk (inR .i64 (v1 + 1)) <|
                    some (.go ((v1 + 1), (setL out1 v1 2))))
                   (chk (0 ≤ v1 ∧ v1 < (lenL r')) <|
                    chk (inR .i64 (v1 + 1)) <|
                    some (.go ((v1 + 1), (setL out1 v1 0)))))))
          (some (.out (.go out1)))) (0, (repL (lenL r') 0))) fun out =>
  some out

/-- lapwing/shape.Mirror -/
noncomputable def shape_Mirror (d' : T_ucd_Data) (r' : Int) (level : Int) (boxes : Bool) : Option Int :=
  iteO (if ((bndI .i64 level 1) == 0) = true then true else (if (if (decide (9472 ≤ r')) = true then (decide (r' ≤ 9631)) else false) = true then (!boxes) else false))
    (some r')
    (bindO (ucd_Mirror d' r') fun v =>
     some v)

/-- lapwing/shape.Glyphs -/
noncomputable def shape_Glyphs (d' : T_ucd_Data) (r' : (List Int)) (levels : (List Int)) (boxes : Bool) : Option (List Int) :=
  bindO (slices_Clone___int_int_ r') fun v =>
  iteO (!((lenL r') == (lenL levels)))
    (some v)
    (bindO (shape_Forms d' r') fun v1 =>
     cutO (loopO (fun ((v5, out3) : Int × List Int) =>
           iteO (decide (v5 < (lenL r')))
             (cutO (cutO (chk (0 ≤ v5 ∧ v5 < (lenL r')) <|
                  let x'1 := (getL 0 r' v5)
                  chk (0 ≤ v5 ∧ v5 < (lenL v1)) <|
                  bindO (ucd_Shape d' x'1 (getL 0 v1 (0 + v5))) fun v7 =>
                  chk (0 ≤ v5 ∧ v5 < (lenL v)) <|
                  some (.go (setL out3 v5 v7))) fun out5 =>
                chk (0 ≤ v5 ∧ v5 < (lenL v)) <|
                iteO ((getL 0 out5 (0 + v5)) == (getL 0 r' v5))
                  (chk (0 ≤ v5 ∧ v5 < (lenL levels)) <|
                   bindO (shape_Mirror d' (getL 0 r' v5) (getL 0 levels v5) boxes) fun v6 =>
                   chk (0 ≤ v5 ∧ v5 < (lenL v)) <|
                   some (.go (setL out5 v5 v6)))
                  (some (.go out5))) fun out4 =>
              chk (inR .i64 (v5 + 1)) <|
              some (.go ((v5 + 1), out4)))
             (some (.out (.go out3)))) (0, v)) fun out =>
     cutO (loopO (fun ((v2, out2) : Int × List Int) =>
           iteO (decide (v2 < (lenL r')))
             (chk (0 ≤ v2 ∧ v2 < (lenL r')) <|
              let x' := (getL 0 r' v2)
              bindO (shape_After d' r' v2) fun v3 =>
              iteO (if (!(x' == 1604)) = true then true else (decide (v3 < 0)))
                (chk (inR .i64 (v2 + 1)) <|
                 some (.go ((v2 + 1), out2)))
                (chk (0 ≤ v2 ∧ v2 < (lenL v1)) <|
                 chk ((!((getL 0 v1 (0 + v2)) == 1)) = true → 0 ≤ v2 ∧ v2 < (lenL v1)) <|
                 let final := (if ((getL 0 v1 (0 + v2)) == 1) = true then true else ((getL 0 v1 (0 + v2)) == 3))
                 chk (0 ≤ v3 ∧ v3 < (lenL r')) <|
                 bindO (ucd_Ligature x' (getL 0 r' v3) final) fun v4 =>
                 let g' := v4.1
                 let ok := v4.2
                 iteO ok
                   (chk (0 ≤ v2 ∧ v2 < (lenL v)) <|
                    chk (0 ≤ v3 ∧ v3 < (lenL v)) <|
                    chk (inR .i64 (v2 + 1)) <|
                    some (.go ((v2 + 1), (setL (setL out2 v2 g') v3 0))))
                   (chk (inR .i64 (v2 + 1)) <|
                    some (.go ((v2 + 1), out2)))))
             (some (.out (.go out2)))) (0, out)) fun out1 =>
     some out1)

/-- lapwing/lapwinglaw20.awake -/
noncomputable def lapwinglaw20_awake  : Option Bool :=
  bindO (ucd_Load) fun v =>
  bindO (shape_Glyphs v ([1576, 1576, 1576] : List Int) ([1, 1, 1] : List Int) false) fun v1 =>
  bindO (lapwingref03_Ints v1 ([65169, 65170, 65168] : List Int)) fun v2 =>
  bindO (if v2 = true then shape_Forms v ([1576, 1576, 1576] : List Int) else some []) fun v3 =>
  bindO (if v2 = true then lapwingref03_Ints v3 ([2, 3, 1] : List Int) else some false) fun v4 =>
  bindO (if (if v2 = true then v4 else false) = true then shape_Mirror v 40 1 false else some 0) fun v5 =>
  some (if (if v2 = true then v4 else false) = true then (v5 == 41) else false)

/-- lapwing/lapwinglaw20.ShapeJoins -/
noncomputable def lapwinglaw20_ShapeJoins (r' : (List Int)) : Option Bool :=
  bindO (lapwinglaw20_awake) fun v =>
  iteO (decide (150 < (lenL r')))
    (some v)
    (bindO (ucd_Load) fun v1 =>
     bindO (shape_Forms v1 r') fun v2 =>
     iteO (!((lenL v2) == (lenL r')))
       (some false)
       (cutO (loopO (fun (i : Int) =>
              iteO (decide (i < (lenL r')))
                (bindO (shape_After v1 r' i) fun v3 =>
                 chk (0 ≤ i ∧ i < (lenL v2)) <|
                 chk ((!((getL 0 v2 (0 + i)) == 2)) = true → 0 ≤ i ∧ i < (lenL v2)) <|
                 let forth := (if ((getL 0 v2 (0 + i)) == 2) = true then true else ((getL 0 v2 (0 + i)) == 3))
                 iteO (if (if (decide (v3 < 0)) = true then forth else false) = true then true else (decide ((lenL r') ≤ v3)))
                   (some (.out (.out false)))
                   (chk ((decide (0 ≤ v3)) = true → 0 ≤ i ∧ i < (lenL r')) <|
                    bindO (if (decide (0 ≤ v3)) = true then ucd_Join v1 (getL 0 r' i) else some 0) fun v4 =>
                    chk ((if (decide (0 ≤ v3)) = true then (!(v4 == 4)) else false) = true → 0 ≤ v3 ∧ v3 < (lenL v2)) <|
                    chk (((if (decide (0 ≤ v3)) = true then (!(v4 == 4)) else false) && ((if (decide (0 ≤ v3)) = true then (!(v4 == 4)) else false) && (!((getL 0 v2 (0 + v3)) == 1)))) = true → 0 ≤ v3 ∧ v3 < (lenL v2)) <|
                    iteO (if (if (decide (0 ≤ v3)) = true then (!(v4 == 4)) else false) = true then (!(forth == (if ((getL 0 v2 (0 + v3)) == 1) = true then true else ((getL 0 v2 (0 + v3)) == 3)))) else false)
                      (some (.out (.out false)))
                      (chk (inR .i64 (i + 1)) <|
                       let i1 := (i + 1)
                       some (.go i1))))
                (some (.out (.go ())))) 0) fun (_ : Unit) =>
        some v))

/-- lapwing/lapwinglaw20.ShapeKeeps -/
noncomputable def lapwinglaw20_ShapeKeeps (r' : (List Int)) (levels : (List Int)) (boxes : Bool) : Option Bool :=
  bindO (lapwinglaw20_awake) fun v =>
  iteO (if (decide (150 < (lenL r'))) = true then true else (!((lenL levels) == (lenL r'))))
    (some v)
    (bindO (ucd_Load) fun v1 =>
     bindO (shape_Glyphs v1 r' levels boxes) fun v2 =>
     iteO (!((lenL v2) == (lenL r')))
       (some false)
       (cutO (loopO (fun (i : Int) =>
              iteO (decide (i < (lenL r')))
                (chk (0 ≤ i ∧ i < (lenL r')) <|
                 bindO (ucd_Join v1 (getL 0 r' i)) fun v3 =>
                 chk ((v3 == 0) = true → 0 ≤ i ∧ i < (lenL r')) <|
                 bindO (if (v3 == 0) = true then ucd_Shape v1 (getL 0 r' i) 0 else some 0) fun v4 =>
                 chk ((v3 == 0) = true → 0 ≤ i ∧ i < (lenL r')) <|
                 chk ((if (v3 == 0) = true then (v4 == (getL 0 r' i)) else false) = true → 0 ≤ i ∧ i < (lenL r')) <|
                 let plain := (if (if (v3 == 0) = true then (v4 == (getL 0 r' i)) else false) = true then (!((getL 0 r' i) == 0)) else false)
                 chk (plain = true → 0 ≤ i ∧ i < (lenL levels)) <|
                 chk ((plain && (plain && (!((bndI .i64 (getL 0 levels i) 1) == 0)))) = true → 0 ≤ i ∧ i < (lenL r')) <|
                 bindO (if (plain && (plain && (!((bndI .i64 (getL 0 levels i) 1) == 0)))) = true then ucd_Mirror v1 (getL 0 r' i) else some 0) fun v5 =>
                 chk ((plain && (plain && (!((bndI .i64 (getL 0 levels i) 1) == 0)))) = true → 0 ≤ i ∧ i < (lenL r')) <|
                 chk ((if plain = true then (if ((bndI .i64 (getL 0 levels i) 1) == 0) = true then true else (v5 == (getL 0 r' i))) else false) = true → 0 ≤ i ∧ i < (lenL v2)) <|
                 chk ((if plain = true then (if ((bndI .i64 (getL 0 levels i) 1) == 0) = true then true else (v5 == (getL 0 r' i))) else false) = true → 0 ≤ i ∧ i < (lenL r')) <|
                 iteO (if (if plain = true then (if ((bndI .i64 (getL 0 levels i) 1) == 0) = true then true else (v5 == (getL 0 r' i))) else false) = true then (!((getL 0 v2 (0 + i)) == (getL 0 r' i))) else false)
                   (some (.out (.out false)))
                   (chk (0 ≤ i ∧ i < (lenL v2)) <|
                    chk (((getL 0 v2 (0 + i)) == 0) = true → 0 ≤ i ∧ i < (lenL r')) <|
                    iteO (if ((getL 0 v2 (0 + i)) == 0) = true then (!((getL 0 r' i) == 0)) else false)
                      (bindO (shape_Before v1 r' i) fun v6 =>
                       chk ((!(decide (v6 < 0))) = true → 0 ≤ v6 ∧ v6 < (lenL r')) <|
                       chk ((!(if (decide (v6 < 0)) = true then true else (!((getL 0 r' v6) == 1604)))) = true → 0 ≤ v6 ∧ v6 < (lenL v2)) <|
                       chk ((!(if (if (decide (v6 < 0)) = true then true else (!((getL 0 r' v6) == 1604))) = true then true else (decide ((getL 0 v2 (0 + v6)) < 65269)))) = true → 0 ≤ v6 ∧ v6 < (lenL v2)) <|
                       iteO (if (if (if (decide (v6 < 0)) = true then true else (!((getL 0 r' v6) == 1604))) = true then true else (decide ((getL 0 v2 (0 + v6)) < 65269))) = true then true else (decide (65276 < (getL 0 v2 (0 + v6)))))
                         (some (.out (.out false)))
                         (chk (inR .i64 (i + 1)) <|
                          let i1 := (i + 1)
                          some (.go i1)))
                      (chk (inR .i64 (i + 1)) <|
                       let i2 := (i + 1)
                       some (.go i2))))
                (some (.out (.go ())))) 0) fun (_ : Unit) =>
        some v))

/-- lapwing/lapwinglaw20.ShapeMirrors -/
noncomputable def lapwinglaw20_ShapeMirrors (r' : Int) (level : Int) (boxes : Bool) : Option Bool :=
  bindO (lapwinglaw20_awake) fun v =>
  bindO (ucd_Load) fun v1 =>
  bindO (shape_Mirror v1 r' level boxes) fun v2 =>
  let box := (if (decide (9472 ≤ r')) = true then (decide (r' ≤ 9631)) else false)
  bindO (if v = true then shape_Mirror v1 v2 level boxes else some 0) fun v3 =>
  some (if (if (if v = true then (v3 == r') else false) = true then (if ((bndI .i64 level 1) == 1) = true then true else (v2 == r')) else false) = true then (if (if (!box) = true then true else boxes) = true then true else (v2 == r')) else false)

/-- lapwing/lapwinglaw20.ShapeApart -/
noncomputable def lapwinglaw20_ShapeApart (a : (List Int)) (b : (List Int)) : Option Bool :=
  bindO (lapwinglaw20_awake) fun v =>
  iteO (if (decide (70 < (lenL a))) = true then true else (decide (70 < (lenL b))))
    (some v)
    (bindO (ucd_Load) fun v1 =>
     chk (growOk 8 (lenL a)) <|
     chk (growOk 8 ((lenL a) + 1)) <|
     chk (growOk 8 (((lenL a) + 1) + (lenL b))) <|
     chk (makeOk 8 (((lenL a) + 1) + (lenL b)) (((lenL a) + 1) + (lenL b))) <|
     bindO (shape_Glyphs v1 ((a ++ ([32] : List Int)) ++ b) (repL (((lenL a) + 1) + (lenL b)) 0) false) fun v2 =>
     chk (makeOk 8 (lenL a) (lenL a)) <|
     bindO (shape_Glyphs v1 a (repL (lenL a) 0) false) fun v3 =>
     chk (makeOk 8 (lenL b) (lenL b)) <|
     bindO (shape_Glyphs v1 b (repL (lenL b) 0) false) fun v4 =>
     iteO (!((lenL v2) == (((lenL a) + 1) + (lenL b))))
       (some false)
       (chk (v = true → (0 : Int) ≤ 0 ∧ (0 : Int) ≤ (lenL a) ∧ (lenL a) ≤ (lenL v2)) <|
        bindO (if v = true then lapwingref03_Ints (subL v2 (0 + 0) ((0 + 0) + ((lenL a) - 0))) v3 else some false) fun v5 =>
        chk ((if v = true then v5 else false) = true → inR .i64 ((lenL a) + 1)) <|
        chk ((if v = true then v5 else false) = true → 0 ≤ ((lenL a) + 1) ∧ ((lenL a) + 1) ≤ (lenL v2) ∧ (lenL v2) ≤ (lenL v2)) <|
        bindO (if (if v = true then v5 else false) = true then lapwingref03_Ints (subL v2 (0 + ((lenL a) + 1)) ((0 + ((lenL a) + 1)) + ((lenL v2) - ((lenL a) + 1)))) v4 else some false) fun v6 =>
        chk ((if (if v = true then v5 else false) = true then v6 else false) = true → 0 ≤ (lenL a) ∧ (lenL a) < (lenL v2)) <|
        some (if (if (if v = true then v5 else false) = true then v6 else false) = true then ((getL 0 v2 (0 + (lenL a))) == 32) else false)))

/-- lapwing/lapwinglaw20.ShapePass -/
noncomputable def lapwinglaw20_ShapePass (r' : (List Int)) : Option Bool :=
  bindO (lapwinglaw20_awake) fun v =>
  iteO (decide (100 < (lenL r')))
    (some v)
    (bindO (ucd_Load) fun v1 =>
     cutO (loopO (fun ((i3, bare1) : Int × List Int) =>
           iteO (decide (i3 < (lenL r')))
             (chk (0 ≤ i3 ∧ i3 < (lenL r')) <|
              bindO (ucd_Join v1 (getL 0 r' i3)) fun v5 =>
              iteO (!(v5 == 4))
                (chk (0 ≤ i3 ∧ i3 < (lenL r')) <|
                 chk (growOk 8 ((lenL bare1) + 1)) <|
                 chk (inR .i64 (i3 + 1)) <|
                 let i4 := (i3 + 1)
                 some (.go (i4, (bare1 ++ ([(getL 0 r' i3)] : List Int)))))
                (chk (inR .i64 (i3 + 1)) <|
                 let i5 := (i3 + 1)
                 some (.go (i5, bare1))))
             (some (.out (.go bare1)))) (0, ([] : List Int))) fun bare =>
     chk (makeOk 8 (lenL r') (lenL r')) <|
     bindO (shape_Glyphs v1 r' (repL (lenL r') 0) false) fun v2 =>
     chk (makeOk 8 (lenL bare) (lenL bare)) <|
     bindO (shape_Glyphs v1 bare (repL (lenL bare) 0) false) fun v3 =>
     iteO (if (!((lenL v2) == (lenL r'))) = true then true else (!((lenL v3) == (lenL bare))))
       (some false)
       (cutO (loopO (fun ((k', i) : Int × Int) =>
              iteO (decide (i < (lenL r')))
                (chk (0 ≤ i ∧ i < (lenL r')) <|
                 bindO (ucd_Join v1 (getL 0 r' i)) fun v4 =>
                 iteO (v4 == 4)
                   (chk (0 ≤ i ∧ i < (lenL v2)) <|
                    chk (0 ≤ i ∧ i < (lenL r')) <|
                    iteO (!((getL 0 v2 (0 + i)) == (getL 0 r' i)))
                      (some (.out (.out false)))
                      (chk (inR .i64 (i + 1)) <|
                       let i1 := (i + 1)
                       some (.go (k', i1))))
                   (chk (0 ≤ i ∧ i < (lenL v2)) <|
                    chk (0 ≤ k' ∧ k' < (lenL v3)) <|
                    iteO (!((getL 0 v2 (0 + i)) == (getL 0 v3 (0 + k'))))
                      (some (.out (.out false)))
                      (chk (inR .i64 (k' + 1)) <|
                       let k'1 := (k' + 1)
                       chk (inR .i64 (i + 1)) <|
                       let i2 := (i + 1)
                       some (.go (k'1, i2)))))
                (some (.out (.go ())))) (0, 0)) fun (_ : Unit) =>
        some v))
end Go.Vx
