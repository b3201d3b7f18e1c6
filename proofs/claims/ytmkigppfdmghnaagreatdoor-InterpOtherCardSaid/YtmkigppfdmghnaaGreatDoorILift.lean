/- Lifted functions, by program (lift.py). -/
import Derived.Test.YtmkigppfdmghnaaGreatDoorVxCut
import Derived.Lib.Bytealg
set_option linter.all false
namespace Go.Vx
structure T_cursor_Region where
 fH:Int
 fW:Int
 fTop:Int
 fBottom:Int
def d_cursor_Region:T_cursor_Region:=⟨0,0,0,0⟩
instance:Inhabited T_cursor_Region:=⟨d_cursor_Region⟩
structure T_Arr4_u8 where
 x0:Int
 x1:Int
 x2:Int
 x3:Int
def d_Arr4_u8:T_Arr4_u8:=⟨0,0,0,0⟩
instance:Inhabited T_Arr4_u8:=⟨d_Arr4_u8⟩
structure T_charset_State where
 fG:T_Arr4_u8
 fGL:Int
 fGR:Int
 fOnce:Int
def d_charset_State:T_charset_State:=⟨d_Arr4_u8,0,0,0⟩
instance:Inhabited T_charset_State:=⟨d_charset_State⟩
structure T_api_Pen where
 fFg:Int
 fBg:Int
 fFlags:Int
def d_api_Pen:T_api_Pen:=⟨0,0,0⟩
instance:Inhabited T_api_Pen:=⟨d_api_Pen⟩
structure T_cursor_Cursor where
 fX:Int
 fY:Int
 fWrap:Bool
 fOrigin:Bool
 fPen:T_api_Pen
 fSet:T_charset_State
def d_cursor_Cursor:T_cursor_Cursor:=⟨0,0,false,false,d_api_Pen,d_charset_State⟩
instance:Inhabited T_cursor_Cursor:=⟨d_cursor_Cursor⟩
structure T_Arr2_i64 where
 x0:Int
 x1:Int
def d_Arr2_i64:T_Arr2_i64:=⟨0,0⟩
instance:Inhabited T_Arr2_i64:=⟨d_Arr2_i64⟩
structure T_api_Cell where
 fR:Int
 fM:T_Arr2_i64
 fW:Int
 fPen:T_api_Pen
def d_api_Cell:T_api_Cell:=⟨0,d_Arr2_i64,0,d_api_Pen⟩
instance:Inhabited T_api_Cell:=⟨d_api_Cell⟩
structure T_api_Row where
 fCells:(List T_api_Cell)
 fWrap:Bool
 fDir:Int
 fExplicit:Bool
def d_api_Row:T_api_Row:=⟨[],false,0,false⟩
instance:Inhabited T_api_Row:=⟨d_api_Row⟩
structure T_grid_Grid where
 fRows:(List T_api_Row)
def d_grid_Grid:T_grid_Grid:=⟨[]⟩
instance:Inhabited T_grid_Grid:=⟨d_grid_Grid⟩
structure T_tabs_Stops where
 fL:(List Int)
 fW:Int
def d_tabs_Stops:T_tabs_Stops:=⟨[],0⟩
instance:Inhabited T_tabs_Stops:=⟨d_tabs_Stops⟩
structure T_history_Kept where
 fRows:(List T_api_Row)
 fCap:Int
def d_history_Kept:T_history_Kept:=⟨[],0⟩
instance:Inhabited T_history_Kept:=⟨d_history_Kept⟩
structure T_screen_Screen where
 fG:T_grid_Grid
 fC:T_cursor_Cursor
 fR:T_cursor_Region
 fT:T_tabs_Stops
 fK:T_history_Kept
 fDir:Int
 fExplicit:Bool
def d_screen_Screen:T_screen_Screen:=⟨d_grid_Grid,d_cursor_Cursor,d_cursor_Region,d_tabs_Stops,d_history_Kept,0,false⟩
instance:Inhabited T_screen_Screen:=⟨d_screen_Screen⟩
structure T_modes_Modes where
 fBits:Int
def d_modes_Modes:T_modes_Modes:=⟨0⟩
instance:Inhabited T_modes_Modes:=⟨d_modes_Modes⟩
structure T_modes_mode where
 fprivate:Bool
 fn:Int
def d_modes_mode:T_modes_mode:=⟨false,0⟩
instance:Inhabited T_modes_mode:=⟨d_modes_mode⟩
structure T_Arr24_modes_mode where
 x0:T_modes_mode
 x1:T_modes_mode
 x2:T_modes_mode
 x3:T_modes_mode
 x4:T_modes_mode
 x5:T_modes_mode
 x6:T_modes_mode
 x7:T_modes_mode
 x8:T_modes_mode
 x9:T_modes_mode
 x10:T_modes_mode
 x11:T_modes_mode
 x12:T_modes_mode
 x13:T_modes_mode
 x14:T_modes_mode
 x15:T_modes_mode
 x16:T_modes_mode
 x17:T_modes_mode
 x18:T_modes_mode
 x19:T_modes_mode
 x20:T_modes_mode
 x21:T_modes_mode
 x22:T_modes_mode
 x23:T_modes_mode
def d_Arr24_modes_mode:T_Arr24_modes_mode:=⟨d_modes_mode,d_modes_mode,d_modes_mode,d_modes_mode,d_modes_mode,d_modes_mode,d_modes_mode,d_modes_mode,d_modes_mode,d_modes_mode,d_modes_mode,d_modes_mode,d_modes_mode,d_modes_mode,d_modes_mode,d_modes_mode,d_modes_mode,d_modes_mode,d_modes_mode,d_modes_mode,d_modes_mode,d_modes_mode,d_modes_mode,d_modes_mode⟩
instance:Inhabited T_Arr24_modes_mode:=⟨d_Arr24_modes_mode⟩
structure T_Arr2_cursor_Cursor where
 x0:T_cursor_Cursor
 x1:T_cursor_Cursor
def d_Arr2_cursor_Cursor:T_Arr2_cursor_Cursor:=⟨d_cursor_Cursor,d_cursor_Cursor⟩
instance:Inhabited T_Arr2_cursor_Cursor:=⟨d_Arr2_cursor_Cursor⟩
structure T_interp_State where
 fMain:T_screen_Screen
 fOther:T_screen_Screen
 fOn:Bool
 fM:T_modes_Modes
 fSaved:T_Arr2_cursor_Cursor
 fOut:(List Int)
 fTitle:ByteArray
 fLast:Int
def d_interp_State:T_interp_State:=⟨d_screen_Screen,d_screen_Screen,false,d_modes_Modes,d_Arr2_cursor_Cursor,[],ByteArray.empty,0⟩
instance:Inhabited T_interp_State:=⟨d_interp_State⟩
structure T_strings_span where
 fstart:Int
 fend:Int
def d_strings_span:T_strings_span:=⟨0,0⟩
instance:Inhabited T_strings_span:=⟨d_strings_span⟩
structure T_ranges_Row where
 fLo:Int
 fHi:Int
 fV:Int
def d_ranges_Row:T_ranges_Row:=⟨0,0,0⟩
instance:Inhabited T_ranges_Row:=⟨d_ranges_Row⟩
structure T_ranges_Table where
 fL:(List T_ranges_Row)
def d_ranges_Table:T_ranges_Table:=⟨[]⟩
instance:Inhabited T_ranges_Table:=⟨d_ranges_Table⟩
structure T_ucd_Pair where
 fA:Int
 fB:Int
def d_ucd_Pair:T_ucd_Pair:=⟨0,0⟩
instance:Inhabited T_ucd_Pair:=⟨d_ucd_Pair⟩
structure T_ucd_Form where
 fR:Int
 fAt:Int
 fN:Int
def d_ucd_Form:T_ucd_Form:=⟨0,0,0⟩
instance:Inhabited T_ucd_Form:=⟨d_ucd_Form⟩
structure T_ucd_Data where
 fClass:T_ranges_Table
 fWide:T_ranges_Table
 fJoin:T_ranges_Table
 fMirror:(List T_ucd_Pair)
 fBrackets:(List T_ucd_Pair)
 fForms:(List T_ucd_Form)
def d_ucd_Data:T_ucd_Data:=⟨d_ranges_Table,d_ranges_Table,d_ranges_Table,[],[],[]⟩
instance:Inhabited T_ucd_Data:=⟨d_ucd_Data⟩
structure T_api_Action where
 fWhat:Int
 fR:Int
 fFinal:Int
 fInter:ByteArray
 fParams:(List (List Int))
 fText:ByteArray
def d_api_Action:T_api_Action:=⟨0,0,0,ByteArray.empty,[],ByteArray.empty⟩
instance:Inhabited T_api_Action:=⟨d_api_Action⟩
structure T_interp_line where
 finter:ByteArray
 ffinal:Int
 fdo:FV
def d_interp_line:T_interp_line:=⟨ByteArray.empty,0,d_FV⟩
instance:Inhabited T_interp_line:=⟨d_interp_line⟩
structure T_Arr24_u8 where
 x0:Int
 x1:Int
 x2:Int
 x3:Int
 x4:Int
 x5:Int
 x6:Int
 x7:Int
 x8:Int
 x9:Int
 x10:Int
 x11:Int
 x12:Int
 x13:Int
 x14:Int
 x15:Int
 x16:Int
 x17:Int
 x18:Int
 x19:Int
 x20:Int
 x21:Int
 x22:Int
 x23:Int
def d_Arr24_u8:T_Arr24_u8:=⟨0,0,0,0,0,0,0,0,0,0,0,0,0,0,0,0,0,0,0,0,0,0,0,0⟩
instance:Inhabited T_Arr24_u8:=⟨d_Arr24_u8⟩
structure T_lapwingref09_Grid where
 fRows:(List T_api_Row)
def d_lapwingref09_Grid:T_lapwingref09_Grid:=⟨[]⟩
instance:Inhabited T_lapwingref09_Grid:=⟨d_lapwingref09_Grid⟩
structure T_lapwingref04_State where
 fG:T_Arr4_u8
 fGL:Int
 fGR:Int
 fOnce:Int
def d_lapwingref04_State:T_lapwingref04_State:=⟨d_Arr4_u8,0,0,0⟩
instance:Inhabited T_lapwingref04_State:=⟨d_lapwingref04_State⟩
structure T_lapwingref14_Cursor where
 fX:Int
 fY:Int
 fWrap:Bool
 fOrigin:Bool
 fPen:T_api_Pen
 fSet:T_lapwingref04_State
def d_lapwingref14_Cursor:T_lapwingref14_Cursor:=⟨0,0,false,false,d_api_Pen,d_lapwingref04_State⟩
instance:Inhabited T_lapwingref14_Cursor:=⟨d_lapwingref14_Cursor⟩
structure T_lapwingref14_Region where
 fH:Int
 fW:Int
 fTop:Int
 fBottom:Int
def d_lapwingref14_Region:T_lapwingref14_Region:=⟨0,0,0,0⟩
instance:Inhabited T_lapwingref14_Region:=⟨d_lapwingref14_Region⟩
structure T_lapwingref12_Stops where
 fL:(List Int)
 fW:Int
def d_lapwingref12_Stops:T_lapwingref12_Stops:=⟨[],0⟩
instance:Inhabited T_lapwingref12_Stops:=⟨d_lapwingref12_Stops⟩
structure T_lapwingref10_Kept where
 fRows:(List T_api_Row)
 fCap:Int
def d_lapwingref10_Kept:T_lapwingref10_Kept:=⟨[],0⟩
instance:Inhabited T_lapwingref10_Kept:=⟨d_lapwingref10_Kept⟩
structure T_lapwingref15_Screen where
 fG:T_lapwingref09_Grid
 fC:T_lapwingref14_Cursor
 fR:T_lapwingref14_Region
 fT:T_lapwingref12_Stops
 fK:T_lapwingref10_Kept
 fDir:Int
 fExplicit:Bool
def d_lapwingref15_Screen:T_lapwingref15_Screen:=⟨d_lapwingref09_Grid,d_lapwingref14_Cursor,d_lapwingref14_Region,d_lapwingref12_Stops,d_lapwingref10_Kept,0,false⟩
instance:Inhabited T_lapwingref15_Screen:=⟨d_lapwingref15_Screen⟩
structure T_lapwingref13_Modes where
 fBits:Int
def d_lapwingref13_Modes:T_lapwingref13_Modes:=⟨0⟩
instance:Inhabited T_lapwingref13_Modes:=⟨d_lapwingref13_Modes⟩
structure T_Arr2_lapwingref14_Cursor where
 x0:T_lapwingref14_Cursor
 x1:T_lapwingref14_Cursor
def d_Arr2_lapwingref14_Cursor:T_Arr2_lapwingref14_Cursor:=⟨d_lapwingref14_Cursor,d_lapwingref14_Cursor⟩
instance:Inhabited T_Arr2_lapwingref14_Cursor:=⟨d_Arr2_lapwingref14_Cursor⟩
structure T_lapwingref16_State where
 fMain:T_lapwingref15_Screen
 fOther:T_lapwingref15_Screen
 fOn:Bool
 fM:T_lapwingref13_Modes
 fSaved:T_Arr2_lapwingref14_Cursor
 fOut:(List Int)
 fTitle:ByteArray
 fLast:Int
def d_lapwingref16_State:T_lapwingref16_State:=⟨d_lapwingref15_Screen,d_lapwingref15_Screen,false,d_lapwingref13_Modes,d_Arr2_lapwingref14_Cursor,[],ByteArray.empty,0⟩
instance:Inhabited T_lapwingref16_State:=⟨d_lapwingref16_State⟩
def kS0:ByteArray:=(⟨#[76,32,82,32,65,76,32,69,78,32,69,83,32,69,84,32,65,78,32,67,83,32,78,83,77,32,66,78,32,66,32,83,32,87,83,32,79,78,32,76,82,69,32,76,82,79,32,82,76,69,32,82,76,79,32,80,68,70,32,76,82,73,32,82,76,73,32,70,83,73,32,80,68,73]⟩:ByteArray)
def kS1:ByteArray:=(⟨#[48,45,56,32,66,78,44,32,57,32,83,44,32,65,32,66,44,32,66,32,83,44,32,67,32,87,83,44,32,68,32,66,44,32,69,45,49,66,32,66,78,44,32,49,67,45,49,69,32,66,44,32,49,70,32,83,44,32,50,48,32,87,83,44,10,50,49,45,50,50,32,79,78,44,32,50,51,45,50,53,32,69,84,44,32,50,54,45,50,65,32,79,78,44,32,50,66,32,69,83,44,32,50,67,32,67,83,44,32,50,68,32,69,83,44,32,50,69,45,50,70,32,67,83,44,32,51,48,45,51,57,32,69,78,44,32,51,65,32,67,83,44,32,51,66,45,52,48,32,79,78,44,10,53,66,45,54,48,32,79,78,44,32,55,66,45,55,69,32,79,78,44,32,55,70,45,56,52,32,66,78,44,32,56,53,32,66,44,32,56,54,45,57,70,32,66,78,44,32,65,48,32,67,83,44,32,65,49,32,79,78,44,32,65,50,45,65,53,32,69,84,44,32,65,54,45,65,57,32,79,78,44,32,65,66,45,65,67,32,79,78,44,10,65,68,32,66,78,44,32,65,69,45,65,70,32,79,78,44,32,66,48,45,66,49,32,69,84,44,32,66,50,45,66,51,32,69,78,44,32,66,52,32,79,78,44,32,66,54,45,66,56,32,79,78,44,32,66,57,32,69,78,44,32,66,66,45,66,70,32,79,78,44,32,68,55,32,79,78,44,32,70,55,32,79,78,44,10,51,48,48,45,51,54,70,32,78,83,77,44,32,53,57,48,32,82,44,32,53,57,49,45,53,66,68,32,78,83,77,44,32,53,66,69,32,82,44,32,53,66,70,32,78,83,77,44,32,53,67,48,32,82,44,32,53,67,49,45,53,67,50,32,78,83,77,44,32,53,67,51,32,82,44,32,53,67,52,45,53,67,53,32,78,83,77,44,32,53,67,54,32,82,44,10,53,67,55,32,78,83,77,44,32,53,67,56,45,53,70,70,32,82,44,32,54,48,48,45,54,48,53,32,65,78,44,32,54,48,54,45,54,48,55,32,79,78,44,32,54,48,56,32,65,76,44,32,54,48,57,45,54,48,65,32,69,84,44,32,54,48,66,32,65,76,44,32,54,48,67,32,67,83,44,32,54,48,68,32,65,76,44,32,54,48,69,45,54,48,70,32,79,78,44,10,54,49,48,45,54,49,65,32,78,83,77,44,32,54,49,66,45,54,52,65,32,65,76,44,32,54,52,66,45,54,53,70,32,78,83,77,44,32,54,54,48,45,54,54,57,32,65,78,44,32,54,54,65,32,69,84,44,32,54,54,66,45,54,54,67,32,65,78,44,32,54,54,68,45,54,54,70,32,65,76,44,32,54,55,48,32,78,83,77,44,32,54,55,49,45,54,68,53,32,65,76,44,32,54,68,54,45,54,68,67,32,78,83,77,44,10,54,68,68,32,65,78,44,32,54,68,69,32,79,78,44,32,54,68,70,45,54,69,52,32,78,83,77,44,32,54,69,53,45,54,69,54,32,65,76,44,32,54,69,55,45,54,69,56,32,78,83,77,44,32,54,69,57,32,79,78,44,32,54,69,65,45,54,69,68,32,78,83,77,44,32,54,69,69,45,54,69,70,32,65,76,44,32,54,70,48,45,54,70,57,32,69,78,44,32,54,70,65,45,54,70,70,32,65,76,44,10,50,48,48,48,45,50,48,48,65,32,87,83,44,32,50,48,48,66,45,50,48,48,68,32,66,78,44,32,50,48,48,70,32,82,44,32,50,48,49,48,45,50,48,50,55,32,79,78,44,32,50,48,50,56,32,87,83,44,32,50,48,50,57,32,66,44,32,50,48,50,65,32,76,82,69,44,32,50,48,50,66,32,82,76,69,44,32,50,48,50,67,32,80,68,70,44,32,50,48,50,68,32,76,82,79,44,10,50,48,50,69,32,82,76,79,44,32,50,48,50,70,32,67,83,44,32,50,48,51,48,45,50,48,51,52,32,69,84,44,32,50,48,51,53,45,50,48,52,51,32,79,78,44,32,50,48,52,52,32,67,83,44,32,50,48,52,53,45,50,48,53,69,32,79,78,44,32,50,48,53,70,32,87,83,44,32,50,48,54,48,45,50,48,54,53,32,66,78,44,32,50,48,54,54,32,76,82,73,44,32,50,48,54,55,32,82,76,73,44,10,50,48,54,56,32,70,83,73,44,32,50,48,54,57,32,80,68,73,44,32,50,48,54,65,45,50,48,54,70,32,66,78,44,32,50,49,57,48,45,50,50,49,49,32,79,78,44,32,50,50,49,50,32,69,83,44,32,50,50,49,51,32,69,84,44,32,50,50,49,52,45,50,51,51,53,32,79,78,44,32,50,53,48,48,45,50,53,57,70,32,79,78,44,32,51,48,48,48,32,87,83,44,32,51,48,48,49,45,51,48,48,52,32,79,78,44,10,51,48,48,56,45,51,48,50,48,32,79,78,44,32,70,66,49,68,32,82,44,32,70,66,49,69,32,78,83,77,44,32,70,66,49,70,45,70,66,50,56,32,82,44,32,70,66,50,57,32,69,83,44,32,70,66,50,65,45,70,66,52,70,32,82,44,32,70,66,53,48,45,70,68,67,70,32,65,76,44,32,70,69,55,48,45,70,69,70,69,32,65,76,44,32,70,69,70,70,32,66,78,44,32,70,70,70,57,45,70,70,70,68,32,79,78]⟩:ByteArray)
def kS2:ByteArray:=(⟨#[51,48,48,45,51,54,70,32,48,44,32,53,57,49,45,53,66,68,32,48,44,32,53,66,70,32,48,44,32,53,67,49,45,53,67,50,32,48,44,32,53,67,52,45,53,67,53,32,48,44,32,53,67,55,32,48,44,32,54,49,48,45,54,49,65,32,48,44,32,54,52,66,45,54,53,70,32,48,44,32,54,55,48,32,48,44,32,54,68,54,45,54,68,67,32,48,44,10,54,68,70,45,54,69,52,32,48,44,32,54,69,55,45,54,69,56,32,48,44,32,54,69,65,45,54,69,68,32,48,44,32,49,49,48,48,45,49,49,53,70,32,50,44,32,50,48,48,66,45,50,48,48,70,32,48,44,32,50,48,50,65,45,50,48,50,69,32,48,44,32,50,48,54,48,45,50,48,54,70,32,48,44,32,50,69,56,48,45,51,48,51,69,32,50,44,32,51,48,52,49,45,65,52,67,70,32,50,44,32,65,67,48,48,45,68,55,65,51,32,50,44,10,70,57,48,48,45,70,65,70,70,32,50,44,32,70,66,49,69,32,48,44,32,70,69,51,48,45,70,69,54,70,32,50,44,32,70,69,70,70,32,48,44,32,70,70,48,48,45,70,70,54,48,32,50,44,32,70,70,69,48,45,70,70,69,54,32,50,44,32,49,70,51,48,48,45,49,70,54,52,70,32,50,44,32,49,70,57,48,48,45,49,70,57,70,70,32,50,44,32,50,48,48,48,48,45,51,70,70,70,68,32,50]⟩:ByteArray)
def kS3:ByteArray:=(⟨#[51,48,48,45,51,54,70,32,84,44,32,53,57,49,45,53,66,68,32,84,44,32,53,66,70,32,84,44,32,53,67,49,45,53,67,50,32,84,44,32,53,67,52,45,53,67,53,32,84,44,32,53,67,55,32,84,44,32,54,49,48,45,54,49,65,32,84,44,32,54,50,48,32,68,44,32,54,50,50,45,54,50,53,32,82,44,32,54,50,54,32,68,44,10,54,50,55,32,82,44,32,54,50,56,32,68,44,32,54,50,57,32,82,44,32,54,50,65,45,54,50,69,32,68,44,32,54,50,70,45,54,51,50,32,82,44,32,54,51,51,45,54,51,70,32,68,44,32,54,52,48,32,67,44,32,54,52,49,45,54,52,55,32,68,44,32,54,52,56,45,54,52,57,32,82,44,32,54,52,65,32,68,44,10,54,52,66,45,54,53,70,32,84,44,32,54,54,69,45,54,54,70,32,68,44,32,54,55,48,32,84,44,32,54,55,49,45,54,55,51,32,82,44,32,54,55,53,45,54,55,55,32,82,44,32,54,55,56,45,54,56,55,32,68,44,32,54,56,56,45,54,57,57,32,82,44,32,54,57,65,45,54,66,70,32,68,44,32,54,67,48,32,82,44,32,54,67,49,45,54,67,50,32,68,44,10,54,67,51,45,54,67,66,32,82,44,32,54,67,67,32,68,44,32,54,67,68,32,82,44,32,54,67,69,32,68,44,32,54,67,70,32,82,44,32,54,68,48,45,54,68,49,32,68,44,32,54,68,50,45,54,68,51,32,82,44,32,54,68,53,32,82,44,32,54,68,54,45,54,68,67,32,84,44,32,54,68,70,45,54,69,52,32,84,44,10,54,69,55,45,54,69,56,32,84,44,32,54,69,65,45,54,69,68,32,84,44,32,54,69,69,45,54,69,70,32,82,44,32,54,70,65,45,54,70,67,32,68,44,32,54,70,70,32,68,44,32,50,48,48,66,32,84,44,32,50,48,48,68,32,67,44,32,70,66,49,69,32,84]⟩:ByteArray)
def kS4:ByteArray:=(⟨#[50,56,32,50,57,44,32,51,67,32,51,69,44,32,53,66,32,53,68,44,32,55,66,32,55,68,44,32,65,66,32,66,66,44,32,50,48,51,57,32,50,48,51,65,44,32,50,50,48,56,32,50,50,48,66,44,32,50,50,54,52,32,50,50,54,53,44,32,51,48,48,56,32,51,48,48,57,44,32,51,48,48,65,32,51,48,48,66,44,32,51,48,48,67,32,51,48,48,68,44,32,51,48,48,69,32,51,48,48,70,44,10,51,48,49,48,32,51,48,49,49,44,32,50,53,48,67,32,50,53,49,48,44,32,50,53,48,70,32,50,53,49,51,44,32,50,53,49,52,32,50,53,49,56,44,32,50,53,49,55,32,50,53,49,66,44,32,50,53,49,67,32,50,53,50,52,44,32,50,53,50,51,32,50,53,50,66,44,32,50,53,53,52,32,50,53,53,55,44,32,50,53,53,65,32,50,53,53,68,44,32,50,53,54,48,32,50,53,54,51,44,32,50,53,54,68,32,50,53,54,69,44,32,50,53,55,48,32,50,53,54,70,44,10,50,53,55,49,32,50,53,55,50,44,32,50,53,55,52,32,50,53,55,54,44,32,50,53,56,67,32,50,53,57,48]⟩:ByteArray)
def kS5:ByteArray:=(⟨#[50,56,32,50,57,44,32,53,66,32,53,68,44,32,55,66,32,55,68,44,32,51,48,48,56,32,51,48,48,57,44,32,51,48,48,65,32,51,48,48,66,44,32,51,48,48,67,32,51,48,48,68,44,32,51,48,48,69,32,51,48,48,70,44,32,51,48,49,48,32,51,48,49,49]⟩:ByteArray)
def kS6:ByteArray:=(⟨#[54,50,49,32,70,69,56,48,32,49,44,32,54,50,50,32,70,69,56,49,32,50,44,32,54,50,51,32,70,69,56,51,32,50,44,32,54,50,52,32,70,69,56,53,32,50,44,32,54,50,53,32,70,69,56,55,32,50,44,32,54,50,54,32,70,69,56,57,32,52,44,32,54,50,55,32,70,69,56,68,32,50,44,32,54,50,56,32,70,69,56,70,32,52,44,32,54,50,57,32,70,69,57,51,32,50,44,32,54,50,65,32,70,69,57,53,32,52,44,10,54,50,66,32,70,69,57,57,32,52,44,32,54,50,67,32,70,69,57,68,32,52,44,32,54,50,68,32,70,69,65,49,32,52,44,32,54,50,69,32,70,69,65,53,32,52,44,32,54,50,70,32,70,69,65,57,32,50,44,32,54,51,48,32,70,69,65,66,32,50,44,32,54,51,49,32,70,69,65,68,32,50,44,32,54,51,50,32,70,69,65,70,32,50,44,32,54,51,51,32,70,69,66,49,32,52,44,32,54,51,52,32,70,69,66,53,32,52,44,10,54,51,53,32,70,69,66,57,32,52,44,32,54,51,54,32,70,69,66,68,32,52,44,32,54,51,55,32,70,69,67,49,32,52,44,32,54,51,56,32,70,69,67,53,32,52,44,32,54,51,57,32,70,69,67,57,32,52,44,32,54,51,65,32,70,69,67,68,32,52,44,32,54,52,49,32,70,69,68,49,32,52,44,32,54,52,50,32,70,69,68,53,32,52,44,32,54,52,51,32,70,69,68,57,32,52,44,32,54,52,52,32,70,69,68,68,32,52,44,10,54,52,53,32,70,69,69,49,32,52,44,32,54,52,54,32,70,69,69,53,32,52,44,32,54,52,55,32,70,69,69,57,32,52,44,32,54,52,56,32,70,69,69,68,32,50,44,32,54,52,57,32,70,69,69,70,32,50,44,32,54,52,65,32,70,69,70,49,32,52]⟩:ByteArray)
def kS7:ByteArray:=(⟨#[48,49,50,51,52,53,54,55,56,57,97,98,99,100,101,102,103,104,105,106,107,108,109,110,111,112,113,114,115,116,117,118,119,120,121,122]⟩:ByteArray)
def kS8:ByteArray:=(⟨#[48,48,48,49,48,50,48,51,48,52,48,53,48,54,48,55,48,56,48,57,49,48,49,49,49,50,49,51,49,52,49,53,49,54,49,55,49,56,49,57,50,48,50,49,50,50,50,51,50,52,50,53,50,54,50,55,50,56,50,57,51,48,51,49,51,50,51,51,51,52,51,53,51,54,51,55,51,56,51,57,52,48,52,49,52,50,52,51,52,52,52,53,52,54,52,55,52,56,52,57,53,48,53,49,53,50,53,51,53,52,53,53,53,54,53,55,53,56,53,57,54,48,54,49,54,50,54,51,54,52,54,53,54,54,54,55,54,56,54,57,55,48,55,49,55,50,55,51,55,52,55,53,55,54,55,55,55,56,55,57,56,48,56,49,56,50,56,51,56,52,56,53,56,54,56,55,56,56,56,57,57,48,57,49,57,50,57,51,57,52,57,53,57,54,57,55,57,56,57,57]⟩:ByteArray)
def bytealg_CountString (s:ByteArray) (c:Int):Option Int:=some (Lib.countByte s.data.toList c.toNat.toUInt8:Nat)
def bytealg_IndexByteString (s:ByteArray) (c:Int):Option Int:=some (Lib.indexByte s.data.toList c.toNat.toUInt8)
noncomputable def cursor_between (v:Int) (least:Int) (most:Int):Option Int :=
 some (imaxI least (iminI v most))
noncomputable def cursor_full (h':Int) (w:Int):Option T_cursor_Region :=
 some (T_cursor_Region.mk h' w 0 h')
noncomputable def charset_New  : Option T_charset_State :=
 some (T_charset_State.mk (T_Arr4_u8.mk 66 66 66 66) 0 2 0)
noncomputable def cursor_New (h':Int) (w:Int):Option (T_cursor_Cursor × T_cursor_Region) :=
 bindO (cursor_between h' 1 1000) fun v =>
 bindO (cursor_between w 1 4096) fun v1 =>
 bindO (cursor_full v v1) fun v2 =>
 bindO (charset_New) fun v3 =>
 some ((T_cursor_Cursor.mk 0 0 false false d_api_Pen v3),v2)
noncomputable def row_width (w:Int):Option Int :=
 some (imaxI 1 (iminI w 4096))
noncomputable def row_Blank (p':T_api_Pen):Option T_api_Cell :=
 some (T_api_Cell.mk 0 d_Arr2_i64 1 p')
noncomputable def row_lay (l':List T_api_Cell) (l'_off:Int) (l'_n:Int) (p':T_api_Pen):Option (List T_api_Cell) :=
 chk (0≤l'_off∧0≤l'_n∧l'_off+l'_n≤lenL l') <|
 loopO (fun ((v,l'1):Int × List T_api_Cell) =>
  iteO (decide (v < l'_n))
   (bindO (row_Blank p') fun v1 =>
    chk (0≤v∧v < l'_n) <|
    chk (inR .i64 (v+1)) <|
    some (.go ((v+1),(setL l'1 (l'_off+v) v1))))
   (some (.out l'1))) (0,l')
noncomputable def row_New (w:Int) (p':T_api_Pen):Option T_api_Row :=
 cutO (bindO (row_width w) fun v1 =>
  chk (makeOk 56 v1 v1) <|
  some (.go (repL v1 d_api_Cell))) fun l' =>
 bindO (row_lay l' 0 (lenL l') p') fun v =>
 chk (lenL v=lenL l') <|
 some (T_api_Row.mk v false 0 false)
noncomputable def grid_lay (l':List T_api_Row) (l'_off:Int) (l'_n:Int) (w:Int) (p':T_api_Pen):Option (List T_api_Row) :=
 chk (0≤l'_off∧0≤l'_n∧l'_off+l'_n≤lenL l') <|
 loopO (fun ((v,l'1):Int × List T_api_Row) =>
  iteO (decide (v < l'_n))
   (bindO (row_New w p') fun v1 =>
    chk (0≤v∧v < l'_n) <|
    chk (inR .i64 (v+1)) <|
    some (.go ((v+1),(setL l'1 (l'_off+v) v1))))
   (some (.out l'1))) (0,l')
noncomputable def grid_New (h':Int) (w:Int) (p':T_api_Pen):Option T_grid_Grid :=
 cutO (chk (makeOk 48 (imaxI 1 (iminI h' 1000)) (imaxI 1 (iminI h' 1000))) <|
  some (.go ())) fun (_:Unit) =>
 bindO (grid_lay (repL (imaxI 1 (iminI h' 1000)) d_api_Row) 0 (imaxI 1 (iminI h' 1000)) w p') fun v =>
 chk (lenL v=lenL (repL (imaxI 1 (iminI h' 1000)) d_api_Row)) <|
 some (T_grid_Grid.mk v)
noncomputable def tabs_width (w:Int):Option Int :=
 some (imaxI 1 (iminI w 4096))
noncomputable def tabs_New (w:Int):Option T_tabs_Stops :=
 bindO (tabs_width w) fun v =>
 cutO (loopO (fun ((at',o1):Int × List Int) =>
  iteO (decide (at' < v))
   (chk (growOk 8 ((lenL o1)+1)) <|
    chk (inR .i64 (at'+8)) <|
    let at'1:=(at'+8)
    some (.go (at'1,(o1++([at']:List Int)))))
   (some (.out (.go o1)))) (8,([]:List Int))) fun o =>
 some (T_tabs_Stops.mk o v)
noncomputable def history_bounded (n:Int) (most:Int):Option Int :=
 some (imaxI 0 (iminI n most))
noncomputable def history_New (c':Int):Option T_history_Kept :=
 bindO (history_bounded c' 200) fun v =>
 some (T_history_Kept.mk ([]:List T_api_Row) v)
noncomputable def screen_New (h':Int) (w:Int) (kept:Int):Option T_screen_Screen :=
 bindO (cursor_New h' w) fun v =>
 bindO (grid_New h' w d_api_Pen) fun v1 =>
 bindO (tabs_New w) fun v2 =>
 bindO (history_New kept) fun v3 =>
 some (T_screen_Screen.mk v1 v.1 v.2 v2 v3 0 false)
noncomputable def modes_New  : Option T_modes_Modes :=
 some (T_modes_Modes.mk 322)
noncomputable def modes_Place (private':Bool) (n:Int):Option Int :=
 cutO (cutO (iteO (if (false == private')=true then (4 == n) else false)
   (some (.out (.out 0)))
   (chk (inR .i64 (0+1)) <|
    some (.go ()))) fun (_:Unit) =>
  cutO (iteO (if (false == private')=true then (8 == n) else false)
   (some (.out (.out 1)))
   (chk (inR .i64 (1+1)) <|
    some (.go ()))) fun (_:Unit) =>
  cutO (iteO (if (false == private')=true then (20 == n) else false)
   (some (.out (.out 2)))
   (chk (inR .i64 (2+1)) <|
    some (.go ()))) fun (_:Unit) =>
  cutO (iteO (if (true == private')=true then (1 == n) else false)
   (some (.out (.out 3)))
   (chk (inR .i64 (3+1)) <|
    some (.go ()))) fun (_:Unit) =>
  cutO (iteO (if (true == private')=true then (5 == n) else false)
   (some (.out (.out 4)))
   (chk (inR .i64 (4+1)) <|
    some (.go ()))) fun (_:Unit) =>
  cutO (iteO (if (true == private')=true then (6 == n) else false)
   (some (.out (.out 5)))
   (chk (inR .i64 (5+1)) <|
    some (.go ()))) fun (_:Unit) =>
  cutO (iteO (if (true == private')=true then (7 == n) else false)
   (some (.out (.out 6)))
   (chk (inR .i64 (6+1)) <|
    some (.go ()))) fun (_:Unit) =>
  cutO (iteO (if (true == private')=true then (9 == n) else false)
   (some (.out (.out 7)))
   (chk (inR .i64 (7+1)) <|
    some (.go ()))) fun (_:Unit) =>
  cutO (iteO (if (true == private')=true then (25 == n) else false)
   (some (.out (.out 8)))
   (chk (inR .i64 (8+1)) <|
    some (.go ()))) fun (_:Unit) =>
  cutO (iteO (if (true == private')=true then (45 == n) else false)
   (some (.out (.out 9)))
   (chk (inR .i64 (9+1)) <|
    some (.go ()))) fun (_:Unit) =>
  cutO (iteO (if (true == private')=true then (47 == n) else false)
   (some (.out (.out 10)))
   (chk (inR .i64 (10+1)) <|
    some (.go ()))) fun (_:Unit) =>
  cutO (iteO (if (true == private')=true then (66 == n) else false)
   (some (.out (.out 11)))
   (chk (inR .i64 (11+1)) <|
    some (.go ()))) fun (_:Unit) =>
  cutO (iteO (if (true == private')=true then (1000 == n) else false)
   (some (.out (.out 12)))
   (chk (inR .i64 (12+1)) <|
    some (.go ()))) fun (_:Unit) =>
  cutO (iteO (if (true == private')=true then (1002 == n) else false)
   (some (.out (.out 13)))
   (chk (inR .i64 (13+1)) <|
    some (.go ()))) fun (_:Unit) =>
  cutO (iteO (if (true == private')=true then (1003 == n) else false)
   (some (.out (.out 14)))
   (chk (inR .i64 (14+1)) <|
    some (.go ()))) fun (_:Unit) =>
  cutO (iteO (if (true == private')=true then (1004 == n) else false)
   (some (.out (.out 15)))
   (chk (inR .i64 (15+1)) <|
    some (.go ()))) fun (_:Unit) =>
  cutO (iteO (if (true == private')=true then (1006 == n) else false)
   (some (.out (.out 16)))
   (chk (inR .i64 (16+1)) <|
    some (.go ()))) fun (_:Unit) =>
  cutO (iteO (if (true == private')=true then (1015 == n) else false)
   (some (.out (.out 17)))
   (chk (inR .i64 (17+1)) <|
    some (.go ()))) fun (_:Unit) =>
  cutO (iteO (if (true == private')=true then (1047 == n) else false)
   (some (.out (.out 18)))
   (chk (inR .i64 (18+1)) <|
    some (.go ()))) fun (_:Unit) =>
  cutO (iteO (if (true == private')=true then (1048 == n) else false)
   (some (.out (.out 19)))
   (chk (inR .i64 (19+1)) <|
    some (.go ()))) fun (_:Unit) =>
  cutO (iteO (if (true == private')=true then (1049 == n) else false)
   (some (.out (.out 20)))
   (chk (inR .i64 (20+1)) <|
    some (.go ()))) fun (_:Unit) =>
  cutO (iteO (if (true == private')=true then (2004 == n) else false)
   (some (.out (.out 21)))
   (chk (inR .i64 (21+1)) <|
    some (.go ()))) fun (_:Unit) =>
  cutO (iteO (if (true == private')=true then (2500 == n) else false)
   (some (.out (.out 22)))
   (chk (inR .i64 (22+1)) <|
    some (.go ()))) fun (_:Unit) =>
  cutO (iteO (if (true == private')=true then (2501 == n) else false)
   (some (.out (.out 23)))
   (chk (inR .i64 (23+1)) <|
    some (.go ()))) fun (_:Unit) =>
  some (.go ())) fun (_:Unit) =>
 some (-1)
noncomputable def modes_single (bits:Int):Option Bool :=
 chk (inR .i64 (bits-1)) <|
 some ((bndI .i64 bits (bits-1)) == 0)
noncomputable def modes_Sane (m:T_modes_Modes):Option Bool :=
 iteO (if (decide (m.fBits < 0))=true then true else (decide (16777216≤m.fBits)))
  (some false)
  (bindO (modes_single (bndI .i64 m.fBits 28800)) fun v =>
   bindO (if v=true then modes_single (bndI .i64 m.fBits 196608) else some false) fun v1 =>
   some (if v=true then v1 else false))
noncomputable def modes_Has (m:T_modes_Modes) (private':Bool) (n:Int):Option Bool :=
 bindO (modes_Place private' n) fun v =>
 bindO (modes_Sane m) fun v1 =>
 chk ((if v1=true then (decide (0≤v)) else false)=true→(0:Int)≤v) <|
 some (if (if v1=true then (decide (0≤v)) else false)=true then (!((bndI .i64 m.fBits (shlI .i64 1 v)) == 0)) else false)
noncomputable def interp_explicit (s:T_interp_State):Option T_interp_State :=
 bindO (modes_Has s.fM false 8) fun v =>
 let on:=(!v)
 some (T_interp_State.mk (T_screen_Screen.mk s.fMain.fG s.fMain.fC s.fMain.fR s.fMain.fT s.fMain.fK s.fMain.fDir on) (T_screen_Screen.mk s.fOther.fG s.fOther.fC s.fOther.fR s.fOther.fT s.fOther.fK s.fOther.fDir on) s.fOn s.fM s.fSaved s.fOut s.fTitle s.fLast)
noncomputable def interp_New (h':Int) (w:Int) (kept:Int):Option T_interp_State :=
 bindO (cursor_New h' w) fun v =>
 bindO (screen_New h' w kept) fun v1 =>
 bindO (screen_New h' w 0) fun v2 =>
 bindO (modes_New) fun v3 =>
 bindO (interp_explicit (T_interp_State.mk v1 v2 false v3 (T_Arr2_cursor_Cursor.mk v.1 v.1) ([]:List Int) ByteArray.empty 0)) fun v4 =>
 some v4
noncomputable def stringslite_IndexByte (s:ByteArray) (c':Int):Option Int :=
 bindO (bytealg_IndexByteString s c') fun v =>
 some v
noncomputable def stringslite_Index (s:ByteArray) (substr:ByteArray):Option Int :=
 let n:=(slenS substr)
 iteO (if (n == 0)=true then true else (seqS substr s))
  (some 0)
  (iteO (n == 1)
   (chk ((0:Int)≤0∧(0:Int) < (slenS substr)) <|
    bindO (stringslite_IndexByte s (sidxS substr 0)) fun v =>
    some v)
   (iteO (decide ((slenS s)≤n))
    (some (-1))
    (none)))
noncomputable def strings_Index (s:ByteArray) (substr:ByteArray):Option Int :=
 bindO (stringslite_Index s substr) fun v =>
 some v
noncomputable def strings_Count (s:ByteArray) (substr:ByteArray):Option Int :=
 iteO ((slenS substr) == 0)
  (none)
  (iteO ((slenS substr) == 1)
   (chk ((0:Int)≤0∧(0:Int) < (slenS substr)) <|
    bindO (bytealg_CountString s (sidxS substr 0)) fun v =>
    some v)
   (loopO (fun ((s1,n):ByteArray × Int) =>
    bindO (strings_Index s1 substr) fun v1 =>
    iteO (v1 == (-1))
     (some (.out n))
     (chk (inR .i64 (n+1)) <|
      let n1:=(n+1)
      chk (inR .i64 (v1+(slenS substr))) <|
      chk (0≤(v1+(slenS substr))∧(v1+(slenS substr))≤(slenS s1)∧(slenS s1)≤(slenS s1)) <|
      let s2:=(ssubS s1 (v1+(slenS substr)) (slenS s1))
      some (.go (s2,n1)))) (s,0)))
noncomputable def strings_genSplit (s:ByteArray) (sep:ByteArray) (sepSave:Int) (n:Int):Option (List ByteArray) :=
 iteO (n == 0)
  (some ([]:List ByteArray))
  (iteO (seqS sep (⟨#[]⟩:ByteArray))
   (none)
   (cutO (iteO (decide (n < 0))
     (bindO (strings_Count s sep) fun v1 =>
      chk (inR .i64 (v1+1)) <|
      let n4:=(v1+1)
      some (.go n4))
     (some (.go n))) fun n1 =>
    chk (inR .i64 ((slenS s)+1)) <|
    let n2:=(iminI n1 ((slenS s)+1))
    chk (makeOk 16 n2 n2) <|
    chk (inR .i64 (n2-1)) <|
    let n3:=(n2-1)
    cutO (loopO (fun ((s2,i1,a1):ByteArray × Int × List ByteArray) =>
     iteO (decide (i1 < n3))
      (bindO (strings_Index s2 sep) fun v =>
       iteO (decide (v < 0))
        (some (.out (.go (s2,i1,a1))))
        (chk (inR .i64 (v+sepSave)) <|
         chk ((0:Int)≤0∧(0:Int)≤(v+sepSave)∧(v+sepSave)≤(slenS s2)) <|
         chk (0≤i1∧i1 < n2) <|
         chk (inR .i64 (v+(slenS sep))) <|
         chk (0≤(v+(slenS sep))∧(v+(slenS sep))≤(slenS s2)∧(slenS s2)≤(slenS s2)) <|
         let s3:=(ssubS s2 (v+(slenS sep)) (slenS s2))
         chk (inR .i64 (i1+1)) <|
         let i2:=(i1+1)
         some (.go (s3,i2,(setL a1 i1 (ssubS s2 0 (v+sepSave)))))))
      (some (.out (.go (s2,i1,a1))))) (s,0,(repL n2 ByteArray.empty))) fun (s1,i,a) =>
    chk (0≤i∧i < n2) <|
    chk (inR .i64 (i+1)) <|
    chk ((0:Int)≤0∧(0:Int)≤(i+1)∧(i+1)≤n2) <|
    some (subL (setL a i s1) (0+0) ((0+0)+((i+1)-0)))))
noncomputable def strings_Split (s:ByteArray) (sep:ByteArray):Option (List ByteArray) :=
 bindO (strings_genSplit s sep 0 (-1)) fun v =>
 some v
noncomputable def ucd_words_1 (c':Int):Option Bool :=
 some (if (if (c' == 32)=true then true else (c' == 10))=true then true else (c' == 45))
noncomputable def strings_FieldsFunc_52 (s:ByteArray):Option (List ByteArray) :=
 chk (makeOk 16 0 32) <|
 cutO (loopO (fun ((start1,spans2,pos):Int × List T_strings_span × Int) =>
  iteO (decide (pos < (slenS s)))
   (let rune:=(rdecS s pos)
    bindO (ucd_words_1 rune) fun v1 =>
    iteO v1
     (iteO (decide (0≤start1))
      (chk (growOk 16 ((lenL spans2)+1)) <|
       let start2:=(bxorI .i64 (-1) start1)
       some (.go (start2,(spans2++([(T_strings_span.mk start1 pos)]:List T_strings_span)),(if (decide (pos < (slenS s)))=true then (pos+(rwidS s pos)) else pos))))
      (some (.go (start1,spans2,(if (decide (pos < (slenS s)))=true then (pos+(rwidS s pos)) else pos)))))
     (iteO (decide (start1 < 0))
      (some (.go (pos,spans2,(if (decide (pos < (slenS s)))=true then (pos+(rwidS s pos)) else pos))))
      (some (.go (start1,spans2,(if (decide (pos < (slenS s)))=true then (pos+(rwidS s pos)) else pos))))))
   (some (.out (.go (start1,spans2))))) ((-1),(repL 0 d_strings_span),0)) fun (start,spans) =>
 cutO (iteO (decide (0≤start))
  (chk (growOk 16 ((lenL spans)+1)) <|
   some (.go (spans++([(T_strings_span.mk start (slenS s))]:List T_strings_span))))
  (some (.go spans))) fun spans1 =>
 chk (makeOk 16 (lenL spans1) (lenL spans1)) <|
 cutO (loopO (fun ((v,a1):Int × List ByteArray) =>
  iteO (decide (v < (lenL spans1)))
   (chk (0≤v∧v < (lenL spans1)) <|
    chk (0≤(getL d_strings_span spans1 (0+v)).fstart∧(getL d_strings_span spans1 (0+v)).fstart≤(getL d_strings_span spans1 (0+v)).fend∧(getL d_strings_span spans1 (0+v)).fend≤(slenS s)) <|
    chk (0≤v∧v < (lenL spans1)) <|
    chk (inR .i64 (v+1)) <|
    some (.go ((v+1),(setL a1 v (ssubS s (getL d_strings_span spans1 (0+v)).fstart (getL d_strings_span spans1 (0+v)).fend)))))
   (some (.out (.go a1)))) (0,(repL (lenL spans1) ByteArray.empty))) fun a =>
 some a
noncomputable def ucd_words (e:ByteArray):Option (List ByteArray) :=
 bindO (strings_FieldsFunc_52 e) fun v =>
 some v
noncomputable def strconv_lower (c':Int):Option Int :=
 some (borI .u8 c' 32)
def istrconv_underscoreOK (a0:ByteArray):Option Bool:=none
noncomputable def istrconv_ParseUint (s:ByteArray) (base:Int) (bitSize:Int):Option (Int × Unit) :=
 iteO (seqS s (⟨#[]⟩:ByteArray))
  (none)
  (let base0:=(base == 0)
   cutO (iteO (if (decide (2≤base))=true then (decide (base≤36)) else false)
    (some (.go (s,base)))
    (iteO (base == 0)
     (chk ((0:Int)≤0∧(0:Int) < (slenS s)) <|
      iteO ((sidxS s 0) == 48)
       (chk ((decide (3≤(slenS s)))=true→(0:Int)≤1∧(1:Int) < (slenS s)) <|
        bindO (if (decide (3≤(slenS s)))=true then strconv_lower (sidxS s 1) else some 0) fun v4 =>
        iteO (if (decide (3≤(slenS s)))=true then (v4 == 98) else false)
         (chk ((0:Int)≤2∧(2:Int)≤(slenS s)∧(slenS s)≤(slenS s)) <|
          let s2:=(ssubS s 2 (slenS s))
          some (.go (s2,2)))
         (chk ((decide (3≤(slenS s)))=true→(0:Int)≤1∧(1:Int) < (slenS s)) <|
          bindO (if (decide (3≤(slenS s)))=true then strconv_lower (sidxS s 1) else some 0) fun v4 =>
          iteO (if (decide (3≤(slenS s)))=true then (v4 == 111) else false)
           (chk ((0:Int)≤2∧(2:Int)≤(slenS s)∧(slenS s)≤(slenS s)) <|
            let s3:=(ssubS s 2 (slenS s))
            some (.go (s3,8)))
           (chk ((decide (3≤(slenS s)))=true→(0:Int)≤1∧(1:Int) < (slenS s)) <|
            bindO (if (decide (3≤(slenS s)))=true then strconv_lower (sidxS s 1) else some 0) fun v4 =>
            iteO (if (decide (3≤(slenS s)))=true then (v4 == 120) else false)
             (chk ((0:Int)≤2∧(2:Int)≤(slenS s)∧(slenS s)≤(slenS s)) <|
              let s4:=(ssubS s 2 (slenS s))
              some (.go (s4,16)))
             (chk ((0:Int)≤1∧(1:Int)≤(slenS s)∧(slenS s)≤(slenS s)) <|
              let s5:=(ssubS s 1 (slenS s))
              some (.go (s5,8))))))
       (some (.go (s,10))))
     (none))) fun (s1,base1) =>
   cutO (iteO (bitSize == 0)
    (some (.go 64))
    (iteO (if (decide (bitSize < 0))=true then true else (decide (64 < bitSize)))
     (none)
     (some (.go bitSize)))) fun bitSize1 =>
   cutO (iteO (base1 == 10)
    (some (.go 1844674407370955162))
    (iteO (base1 == 16)
     (some (.go 1152921504606846976))
     (chk (((IntKind.wrap .u64 base1):Int)≠0) <|
      chk (inR .u64 (Int.tdiv 18446744073709551615 (IntKind.wrap .u64 base1))) <|
      chk (inR .u64 ((Int.tdiv 18446744073709551615 (IntKind.wrap .u64 base1))+1)) <|
      let cutoff1:=((Int.tdiv 18446744073709551615 (IntKind.wrap .u64 base1))+1)
      some (.go cutoff1)))) fun cutoff =>
   chk ((0:Int)≤(IntKind.wrap .u64 bitSize1)) <|
   chk (inR .u64 ((shlI .u64 1 (IntKind.wrap .u64 bitSize1))-1)) <|
   let maxVal:=((shlI .u64 1 (IntKind.wrap .u64 bitSize1))-1)
   cutO (loopO (fun ((underscores1,n1,v1):Bool × Int × Int) =>
    iteO (decide (v1 < (slenS s1)))
     (cutO (chk (0≤v1∧v1 < (lenL (bytesL s1))) <|
       let c':=(getL 0 (bytesL s1) v1)
       cutO (iteO (if (c' == 95)=true then base0 else false)
        (some (.out (.go (true,n1))))
        (iteO (if (decide (48≤c'))=true then (decide (c'≤57)) else false)
         (chk (inR .u8 (c'-48)) <|
          let d'1:=(c'-48)
          some (.go d'1))
         (bindO (strconv_lower c') fun v2 =>
          bindO (if (decide (97≤v2))=true then strconv_lower c' else some 0) fun v3 =>
          iteO (if (decide (97≤v2))=true then (decide (v3≤122)) else false)
           (bindO (strconv_lower c') fun v2 =>
            chk (inR .u8 (v2-97)) <|
            chk (inR .u8 ((v2-97)+10)) <|
            let d'2:=((v2-97)+10)
            some (.go d'2))
           (none)))) fun d' =>
       iteO (decide ((IntKind.wrap .u8 base1)≤d'))
        (none)
        (iteO (decide (cutoff≤n1))
         (none)
         (chk (inR .u64 (n1*(IntKind.wrap .u64 base1))) <|
          let n3:=(n1*(IntKind.wrap .u64 base1))
          chk (inR .u64 (n3+(IntKind.wrap .u64 d'))) <|
          let n11:=(n3+(IntKind.wrap .u64 d'))
          iteO (if (decide (n11 < n3))=true then true else (decide (maxVal < n11)))
           (none)
           (some (.go (underscores1,n11)))))) fun (underscores2,n2) =>
      chk (inR .i64 (v1+1)) <|
      some (.go (underscores2,n2,(v1+1))))
     (some (.out (.go (underscores1,n1))))) (false,0,0)) fun (underscores,n) =>
   bindO (if underscores=true then istrconv_underscoreOK s else some false) fun v =>
   iteO (if underscores=true then (!v) else false)
    (none)
    (some (n,())))
noncomputable def istrconv_ParseInt (s:ByteArray) (base:Int) (bitSize:Int):Option (Int × Unit) :=
 iteO (seqS s (⟨#[]⟩:ByteArray))
  (none)
  (cutO (chk ((0:Int)≤0∧(0:Int) < (slenS s)) <|
    iteO ((sidxS s 0) == 43)
     (chk ((0:Int)≤1∧(1:Int)≤(slenS s)∧(slenS s)≤(slenS s)) <|
      let s2:=(ssubS s 1 (slenS s))
      some (.go (s2,false)))
     (iteO ((sidxS s 0) == 45)
      (chk ((0:Int)≤1∧(1:Int)≤(slenS s)∧(slenS s)≤(slenS s)) <|
       let s3:=(ssubS s 1 (slenS s))
       some (.go (s3,true)))
      (some (.go (s,false))))) fun (s1,neg) =>
   bindO (istrconv_ParseUint s1 base bitSize) fun v =>
   let un:=v.1
   iteO (if false=true then false else false)
    (some (0,()))
    (iteO (bitSize == 0)
     (chk (inR .i64 (64-1)) <|
      chk ((0:Int)≤(IntKind.wrap .u64 (64-1))) <|
      let cutoff:=(shlI .u64 1 (IntKind.wrap .u64 (64-1)))
      iteO (if (!neg)=true then (decide (cutoff≤un)) else false)
       (none)
       (iteO (if neg=true then (decide (cutoff < un)) else false)
        (none)
        (let n:=(IntKind.wrap .i64 un)
         iteO neg
          (chk (inR .i64 (0-n)) <|
           let n1:=(0-n)
           some (n1,()))
          (some (n,())))))
     (chk (inR .i64 (bitSize-1)) <|
      chk ((0:Int)≤(IntKind.wrap .u64 (bitSize-1))) <|
      let cutoff1:=(shlI .u64 1 (IntKind.wrap .u64 (bitSize-1)))
      iteO (if (!neg)=true then (decide (cutoff1≤un)) else false)
       (none)
       (iteO (if neg=true then (decide (cutoff1 < un)) else false)
        (none)
        (let n2:=(IntKind.wrap .i64 un)
         iteO neg
          (chk (inR .i64 (0-n2)) <|
           let n3:=(0-n2)
           some (n3,()))
          (some (n2,())))))))
noncomputable def strconv_ParseInt (s:ByteArray) (base:Int) (bitSize:Int):Option (Int × Unit) :=
 bindO (istrconv_ParseInt s base bitSize) fun v =>
 let x':=v.1
 some (x',())
noncomputable def ucd_hex (s:ByteArray):Option Int :=
 bindO (strconv_ParseInt s 16 32) fun v =>
 let n:=v.1
 some n
noncomputable def strings_Fields (s:ByteArray):Option (List ByteArray) :=
 cutO (loopO (fun ((n1,wasSpace,setBits1,i9):Int × Int × Int × Int) =>
  iteO (decide (i9 < (slenS s)))
   (chk (0≤i9∧i9 < (slenS s)) <|
    let r':=(sidxS s i9)
    let setBits2:=(borI .u8 setBits1 r')
    chk (0≤r'∧r' < (256:Int)) <|
    let isSpace:=(IntKind.wrap .i64 (gtabS 0 r'))
    chk (inR .i64 (n1+(bndI .i64 wasSpace (bxorI .i64 (-1) isSpace)))) <|
    let n2:=(n1+(bndI .i64 wasSpace (bxorI .i64 (-1) isSpace)))
    chk (inR .i64 (i9+1)) <|
    let i10:=(i9+1)
    some (.go (n2,isSpace,setBits2,i10)))
   (some (.out (.go (n1,setBits1))))) (0,1,0,0)) fun (n,setBits) =>
 iteO (decide (128≤setBits))
  (none)
  (chk (makeOk 16 n n) <|
   cutO (loopO (fun (i7:Int) =>
    chk ((decide (i7 < (slenS s)))=true→0≤i7∧i7 < (slenS s)) <|
    chk ((decide (i7 < (slenS s)))=true→0≤(sidxS s i7)∧(sidxS s i7) < (256:Int)) <|
    iteO (if (decide (i7 < (slenS s)))=true then (!((gtabS 0 (sidxS s i7)) == 0)) else false)
     (chk (inR .i64 (i7+1)) <|
      let i8:=(i7+1)
      some (.go i8))
     (some (.out (.go i7)))) 0) fun i =>
   cutO (loopO (fun ((na1,fieldStart1,i1,a1):Int × Int × Int × List ByteArray) =>
    iteO (decide (i1 < (slenS s)))
     (chk (0≤i1∧i1 < (slenS s)) <|
      chk (0≤(sidxS s i1)∧(sidxS s i1) < (256:Int)) <|
      iteO ((gtabS 0 (sidxS s i1)) == 0)
       (chk (inR .i64 (i1+1)) <|
        let i2:=(i1+1)
        some (.go (na1,fieldStart1,i2,a1)))
       (chk (0≤fieldStart1∧fieldStart1≤i1∧i1≤(slenS s)) <|
        chk (0≤na1∧na1 < n) <|
        chk (inR .i64 (na1+1)) <|
        let na2:=(na1+1)
        chk (inR .i64 (i1+1)) <|
        let i3:=(i1+1)
        cutO (loopO (fun (i5:Int) =>
         chk ((decide (i5 < (slenS s)))=true→0≤i5∧i5 < (slenS s)) <|
         chk ((decide (i5 < (slenS s)))=true→0≤(sidxS s i5)∧(sidxS s i5) < (256:Int)) <|
         iteO (if (decide (i5 < (slenS s)))=true then (!((gtabS 0 (sidxS s i5)) == 0)) else false)
          (chk (inR .i64 (i5+1)) <|
           let i6:=(i5+1)
           some (.go i6))
          (some (.out (.go i5)))) i3) fun i4 =>
        some (.go (na2,i4,i4,(setL a1 na1 (ssubS s fieldStart1 i1))))))
     (some (.out (.go (na1,fieldStart1,a1))))) (0,i,i,(repL n ByteArray.empty))) fun (na,fieldStart,a) =>
   iteO (decide (fieldStart < (slenS s)))
    (chk (0≤fieldStart∧fieldStart≤(slenS s)∧(slenS s)≤(slenS s)) <|
     chk (0≤na∧na < n) <|
     some (setL a na (ssubS s fieldStart (slenS s))))
    (some a))
noncomputable def ucd_className (s:ByteArray):Option Int :=
 cutO (bindO (strings_Fields kS0) fun v =>
  loopO (fun (v1:Int) =>
   iteO (decide (v1 < (lenL v)))
    (chk (0≤v1∧v1 < (lenL v)) <|
     let n:=(getL ByteArray.empty v (0+v1))
     iteO (seqS n s)
      (chk (inR .i64 (v1+1)) <|
       some (.out (.out (v1+1))))
      (chk (inR .i64 (v1+1)) <|
       some (.go (v1+1))))
    (some (.out (.go ())))) 0) fun (_:Unit) =>
 some 0
noncomputable def ucd_wideName (s:ByteArray):Option Int :=
 bindO (ucd_hex s) fun v =>
 chk (inR .i64 (v+1)) <|
 some (v+1)
noncomputable def ucd_joinName (s:ByteArray):Option Int :=
 iteO (seqS s (⟨#[82]⟩:ByteArray))
  (some 1)
  (iteO (seqS s (⟨#[68]⟩:ByteArray))
   (some 2)
   (iteO (seqS s (⟨#[67]⟩:ByteArray))
    (some 3)
    (iteO (seqS s (⟨#[84]⟩:ByteArray))
     (some 4)
     (some 0))))
noncomputable def ucd_table_class (text:ByteArray):Option T_ranges_Table :=
 cutO (bindO (strings_Split text (⟨#[44]⟩:ByteArray)) fun v =>
  loopO (fun ((v1,o1):Int × List T_ranges_Row) =>
   iteO (decide (v1 < (lenL v)))
    (cutO (chk (0≤v1∧v1 < (lenL v)) <|
      let e:=(getL ByteArray.empty v (0+v1))
      bindO (ucd_words e) fun v2 =>
      cutO (cutO (iteO ((lenL v2) == 3)
        (chk ((0:Int)≤1∧(1:Int) < (lenL v2)) <|
         bindO (ucd_hex (getL ByteArray.empty v2 (0+1))) fun v5 =>
         some (.go v5))
        (iteO ((lenL v2) == 2)
         (some (.go 0))
         (some (.out (.go (0,0,0)))))) fun b9_11 =>
       chk ((0:Int)≤0∧(0:Int) < (lenL v2)) <|
       bindO (ucd_hex (getL ByteArray.empty v2 (0+0))) fun v3 =>
       chk (inR .i64 ((lenL v2)-1)) <|
       chk (0≤((lenL v2)-1)∧((lenL v2)-1) < (lenL v2)) <|
       bindO (ucd_className (getL ByteArray.empty v2 (0+((lenL v2)-1)))) fun v4 =>
       some (.go (v3,b9_11,v4))) fun (b9_0,b9_1,b9_2) =>
      chk (growOk 24 ((lenL o1)+1)) <|
      some (.go (o1++([(T_ranges_Row.mk b9_0 (imaxI b9_0 b9_1) b9_2)]:List T_ranges_Row)))) fun o2 =>
     chk (inR .i64 (v1+1)) <|
     some (.go ((v1+1),o2)))
    (some (.out (.go o1)))) (0,([]:List T_ranges_Row))) fun o =>
 some (T_ranges_Table.mk o)
noncomputable def ucd_table_wide (text:ByteArray):Option T_ranges_Table :=
 cutO (bindO (strings_Split text (⟨#[44]⟩:ByteArray)) fun v =>
  loopO (fun ((v1,o1):Int × List T_ranges_Row) =>
   iteO (decide (v1 < (lenL v)))
    (cutO (chk (0≤v1∧v1 < (lenL v)) <|
      let e:=(getL ByteArray.empty v (0+v1))
      bindO (ucd_words e) fun v2 =>
      cutO (cutO (iteO ((lenL v2) == 3)
        (chk ((0:Int)≤1∧(1:Int) < (lenL v2)) <|
         bindO (ucd_hex (getL ByteArray.empty v2 (0+1))) fun v5 =>
         some (.go v5))
        (iteO ((lenL v2) == 2)
         (some (.go 0))
         (some (.out (.go (0,0,0)))))) fun b9_11 =>
       chk ((0:Int)≤0∧(0:Int) < (lenL v2)) <|
       bindO (ucd_hex (getL ByteArray.empty v2 (0+0))) fun v3 =>
       chk (inR .i64 ((lenL v2)-1)) <|
       chk (0≤((lenL v2)-1)∧((lenL v2)-1) < (lenL v2)) <|
       bindO (ucd_wideName (getL ByteArray.empty v2 (0+((lenL v2)-1)))) fun v4 =>
       some (.go (v3,b9_11,v4))) fun (b9_0,b9_1,b9_2) =>
      chk (growOk 24 ((lenL o1)+1)) <|
      some (.go (o1++([(T_ranges_Row.mk b9_0 (imaxI b9_0 b9_1) b9_2)]:List T_ranges_Row)))) fun o2 =>
     chk (inR .i64 (v1+1)) <|
     some (.go ((v1+1),o2)))
    (some (.out (.go o1)))) (0,([]:List T_ranges_Row))) fun o =>
 some (T_ranges_Table.mk o)
noncomputable def ucd_table_join (text:ByteArray):Option T_ranges_Table :=
 cutO (bindO (strings_Split text (⟨#[44]⟩:ByteArray)) fun v =>
  loopO (fun ((v1,o1):Int × List T_ranges_Row) =>
   iteO (decide (v1 < (lenL v)))
    (cutO (chk (0≤v1∧v1 < (lenL v)) <|
      let e:=(getL ByteArray.empty v (0+v1))
      bindO (ucd_words e) fun v2 =>
      cutO (cutO (iteO ((lenL v2) == 3)
        (chk ((0:Int)≤1∧(1:Int) < (lenL v2)) <|
         bindO (ucd_hex (getL ByteArray.empty v2 (0+1))) fun v5 =>
         some (.go v5))
        (iteO ((lenL v2) == 2)
         (some (.go 0))
         (some (.out (.go (0,0,0)))))) fun b9_11 =>
       chk ((0:Int)≤0∧(0:Int) < (lenL v2)) <|
       bindO (ucd_hex (getL ByteArray.empty v2 (0+0))) fun v3 =>
       chk (inR .i64 ((lenL v2)-1)) <|
       chk (0≤((lenL v2)-1)∧((lenL v2)-1) < (lenL v2)) <|
       bindO (ucd_joinName (getL ByteArray.empty v2 (0+((lenL v2)-1)))) fun v4 =>
       some (.go (v3,b9_11,v4))) fun (b9_0,b9_1,b9_2) =>
      chk (growOk 24 ((lenL o1)+1)) <|
      some (.go (o1++([(T_ranges_Row.mk b9_0 (imaxI b9_0 b9_1) b9_2)]:List T_ranges_Row)))) fun o2 =>
     chk (inR .i64 (v1+1)) <|
     some (.go ((v1+1),o2)))
    (some (.out (.go o1)))) (0,([]:List T_ranges_Row))) fun o =>
 some (T_ranges_Table.mk o)
noncomputable def ucd_pairs (text:ByteArray):Option (List T_ucd_Pair) :=
 cutO (bindO (strings_Split text (⟨#[44]⟩:ByteArray)) fun v =>
  loopO (fun ((v1,l'1):Int × List T_ucd_Pair) =>
   iteO (decide (v1 < (lenL v)))
    (chk (0≤v1∧v1 < (lenL v)) <|
     let e:=(getL ByteArray.empty v (0+v1))
     bindO (ucd_words e) fun v2 =>
     iteO ((lenL v2) == 2)
      (chk ((0:Int)≤0∧(0:Int) < (lenL v2)) <|
       bindO (ucd_hex (getL ByteArray.empty v2 (0+0))) fun v3 =>
       chk ((0:Int)≤1∧(1:Int) < (lenL v2)) <|
       bindO (ucd_hex (getL ByteArray.empty v2 (0+1))) fun v4 =>
       chk (growOk 16 ((lenL l'1)+1)) <|
       chk (inR .i64 (v1+1)) <|
       some (.go ((v1+1),(l'1++([(T_ucd_Pair.mk v3 v4)]:List T_ucd_Pair)))))
      (chk (inR .i64 (v1+1)) <|
       some (.go ((v1+1),l'1))))
    (some (.out (.go l'1)))) (0,([]:List T_ucd_Pair))) fun l' =>
 some l'
noncomputable def ucd_forms (text:ByteArray):Option (List T_ucd_Form) :=
 cutO (bindO (strings_Split text (⟨#[44]⟩:ByteArray)) fun v =>
  loopO (fun ((v1,l'1):Int × List T_ucd_Form) =>
   iteO (decide (v1 < (lenL v)))
    (chk (0≤v1∧v1 < (lenL v)) <|
     let e:=(getL ByteArray.empty v (0+v1))
     bindO (ucd_words e) fun v2 =>
     iteO ((lenL v2) == 3)
      (chk ((0:Int)≤0∧(0:Int) < (lenL v2)) <|
       bindO (ucd_hex (getL ByteArray.empty v2 (0+0))) fun v3 =>
       chk ((0:Int)≤1∧(1:Int) < (lenL v2)) <|
       bindO (ucd_hex (getL ByteArray.empty v2 (0+1))) fun v4 =>
       chk ((0:Int)≤2∧(2:Int) < (lenL v2)) <|
       bindO (ucd_hex (getL ByteArray.empty v2 (0+2))) fun v5 =>
       chk (growOk 24 ((lenL l'1)+1)) <|
       chk (inR .i64 (v1+1)) <|
       some (.go ((v1+1),(l'1++([(T_ucd_Form.mk v3 v4 v5)]:List T_ucd_Form)))))
      (chk (inR .i64 (v1+1)) <|
       some (.go ((v1+1),l'1))))
    (some (.out (.go l'1)))) (0,([]:List T_ucd_Form))) fun l' =>
 some l'
noncomputable def ucd_Load  : Option T_ucd_Data :=
 bindO (ucd_table_class kS1) fun v =>
 bindO (ucd_table_wide kS2) fun v1 =>
 bindO (ucd_table_join kS3) fun v2 =>
 bindO (ucd_pairs kS4) fun v3 =>
 bindO (ucd_pairs kS5) fun v4 =>
 bindO (ucd_forms kS6) fun v5 =>
 some (T_ucd_Data.mk v v1 v2 v3 v4 v5)
noncomputable def lapwinglaw16_ask (inter:ByteArray) (l':(List (List Int))) (final:Int):Option T_api_Action :=
 some (T_api_Action.mk 4 0 final inter l' ByteArray.empty)
noncomputable def cursor_region (r':T_cursor_Region):Option Bool :=
 iteO (if (if (if (decide (r'.fH < 1))=true then true else (decide (1000 < r'.fH)))=true then true else (decide (r'.fW < 1)))=true then true else (decide (4096 < r'.fW)))
  (some false)
  (some (if (if (decide (0≤r'.fTop))=true then (decide (r'.fTop < r'.fBottom)) else false)=true then (decide (r'.fBottom≤r'.fH)) else false))
noncomputable def cursor_inside (c':T_cursor_Cursor) (r':T_cursor_Region):Option Bool :=
 some (if (decide (r'.fTop≤c'.fY))=true then (decide (c'.fY < r'.fBottom)) else false)
noncomputable def pen_isColour (c':Int):Option Bool :=
 some (if (if (decide (0≤c'))=true then (decide (c'≤256)) else false)=true then true else (if (decide (16777216≤c'))=true then (decide (c' < 33554432)) else false))
noncomputable def pen_Sane (p':T_api_Pen):Option Bool :=
 bindO (pen_isColour p'.fFg) fun v =>
 bindO (if v=true then pen_isColour p'.fBg else some false) fun v1 =>
 some (if (if (if v=true then v1 else false)=true then (decide (0≤p'.fFlags)) else false)=true then (decide (p'.fFlags≤511)) else false)
noncomputable def charset_isSet (final:Int):Option Bool :=
 some (if (if (final == 66)=true then true else (final == 48))=true then true else (final == 65))
noncomputable def charset_isPlace (which:Int):Option Bool :=
 some (if (decide (0≤which))=true then (decide (which≤3)) else false)
noncomputable def charset_isShift (which:Int):Option Bool :=
 some (if (which == 2)=true then true else (which == 3))
noncomputable def charset_Sane (s:T_charset_State):Option Bool :=
 cutO (cutO (let f'3:=s.fG.x0
   bindO (charset_isSet f'3) fun v6 =>
   iteO (!v6)
    (some (.out (.out false)))
    (chk (inR .i64 (0+1)) <|
     some (.go ()))) fun (_:Unit) =>
  cutO (let f'2:=s.fG.x1
   bindO (charset_isSet f'2) fun v5 =>
   iteO (!v5)
    (some (.out (.out false)))
    (chk (inR .i64 (1+1)) <|
     some (.go ()))) fun (_:Unit) =>
  cutO (let f'1:=s.fG.x2
   bindO (charset_isSet f'1) fun v4 =>
   iteO (!v4)
    (some (.out (.out false)))
    (chk (inR .i64 (2+1)) <|
     some (.go ()))) fun (_:Unit) =>
  cutO (let f':=s.fG.x3
   bindO (charset_isSet f') fun v3 =>
   iteO (!v3)
    (some (.out (.out false)))
    (chk (inR .i64 (3+1)) <|
     some (.go ()))) fun (_:Unit) =>
  some (.go ())) fun (_:Unit) =>
 bindO (charset_isPlace s.fGL) fun v =>
 bindO (if v=true then charset_isPlace s.fGR else some false) fun v1 =>
 bindO (if ((if v=true then v1 else false) && ((if v=true then v1 else false) && (!(s.fOnce == 0))))=true then charset_isShift s.fOnce else some false) fun v2 =>
 some (if (if v=true then v1 else false)=true then (if (s.fOnce == 0)=true then true else v2) else false)
noncomputable def cursor_Sane (c':T_cursor_Cursor) (r':T_cursor_Region):Option Bool :=
 bindO (cursor_region r') fun v =>
 iteO (if (if (if (if (!v)=true then true else (decide (c'.fX < 0)))=true then true else (decide (r'.fW≤c'.fX)))=true then true else (decide (c'.fY < 0)))=true then true else (decide (r'.fH≤c'.fY)))
  (some false)
  (chk (c'.fWrap=true→inR .i64 (r'.fW-1)) <|
   bindO (if ((!(if c'.fWrap=true then (!(c'.fX == (r'.fW-1))) else false)) && ((!(if c'.fWrap=true then (!(c'.fX == (r'.fW-1))) else false)) && c'.fOrigin))=true then cursor_inside c' r' else some false) fun v1 =>
   iteO (if (if c'.fWrap=true then (!(c'.fX == (r'.fW-1))) else false)=true then true else (if c'.fOrigin=true then (!v1) else false))
    (some false)
    (bindO (pen_Sane c'.fPen) fun v2 =>
     bindO (if v2=true then charset_Sane c'.fSet else some false) fun v3 =>
     some (if v2=true then v3 else false)))
noncomputable def tabs_Sane (s:T_tabs_Stops):Option Bool :=
 iteO (if (decide (s.fW < 1))=true then true else (decide (4096 < s.fW)))
  (some false)
  (cutO (loopO (fun ((ahead,v):Int × Int) =>
    iteO (decide (v < (lenL s.fL)))
     (chk (0≤v∧v < (lenL s.fL)) <|
      let x':=(getL 0 s.fL v)
      iteO (if (decide (x'≤ahead))=true then true else (decide (s.fW≤x')))
       (some (.out (.out false)))
       (chk (inR .i64 (v+1)) <|
        some (.go (x',(v+1)))))
     (some (.out (.go ())))) ((-1),0)) fun (_:Unit) =>
   some true)
noncomputable def row_fits (c':T_api_Cell):Option Bool :=
 cutO (cutO (let m1:=c'.fM.x0
   iteO (if (if (decide (m1 < 0))=true then true else (decide (1114111 < m1)))=true then true else (if (!(m1 == 0))=true then (c'.fR == 0) else false))
    (some (.out (.out false)))
    (chk (inR .i64 (0+1)) <|
     some (.go ()))) fun (_:Unit) =>
  cutO (let m:=c'.fM.x1
   iteO (if (if (decide (m < 0))=true then true else (decide (1114111 < m)))=true then true else (if (!(m == 0))=true then (c'.fR == 0) else false))
    (some (.out (.out false)))
    (chk (inR .i64 (1+1)) <|
     some (.go ()))) fun (_:Unit) =>
  some (.go ())) fun (_:Unit) =>
 bindO (if (!(if (if (decide (c'.fR < 0))=true then true else (decide (1114111 < c'.fR)))=true then true else (if (c'.fM.x0 == 0)=true then (!(c'.fM.x1 == 0)) else false)))=true then pen_Sane c'.fPen else some false) fun v =>
 iteO (if (if (if (decide (c'.fR < 0))=true then true else (decide (1114111 < c'.fR)))=true then true else (if (c'.fM.x0 == 0)=true then (!(c'.fM.x1 == 0)) else false))=true then true else (!v))
  (some false)
  (iteO (c'.fW == 0)
   (some (c'.fR == 0))
   (iteO (c'.fW == 1)
    (some true)
    (iteO (c'.fW == 2)
     (some (!(c'.fR == 0)))
     (some false))))
noncomputable def row_lost (l':(List T_api_Cell)) (i:Int):Option Bool :=
 chk (0≤i∧i < (lenL l')) <|
 iteO ((getL d_api_Cell l' i).fW == 0)
  (chk ((!(i == 0))=true→inR .i64 (i-1)) <|
   chk ((!(i == 0))=true→0≤(i-1)∧(i-1) < (lenL l')) <|
   some (if (i == 0)=true then true else (!((getL d_api_Cell l' (i-1)).fW == 2))))
  (iteO ((getL d_api_Cell l' i).fW == 2)
   (chk (inR .i64 (i+1)) <|
    chk ((!((i+1) == (lenL l')))=true→inR .i64 (i+1)) <|
    chk ((!((i+1) == (lenL l')))=true→0≤(i+1)∧(i+1) < (lenL l')) <|
    some (if ((i+1) == (lenL l'))=true then true else (!((getL d_api_Cell l' (i+1)).fW == 0))))
   (some false))
noncomputable def row_Sane (r':T_api_Row):Option Bool :=
 iteO (if (if (if (decide ((lenL r'.fCells) < 1))=true then true else (decide (4096 < (lenL r'.fCells))))=true then true else (decide (r'.fDir < 0)))=true then true else (decide (2 < r'.fDir)))
  (some false)
  (cutO (loopO (fun (v:Int) =>
    iteO (decide (v < (lenL r'.fCells)))
     (chk (0≤v∧v < (lenL r'.fCells)) <|
      bindO (row_fits (getL d_api_Cell r'.fCells v)) fun v1 =>
      bindO (if (!(!v1))=true then row_lost r'.fCells v else some false) fun v2 =>
      iteO (if (!v1)=true then true else v2)
       (some (.out (.out false)))
       (chk (inR .i64 (v+1)) <|
        some (.go (v+1))))
     (some (.out (.go ())))) 0) fun (_:Unit) =>
   some true)
noncomputable def grid_Sane (g':T_grid_Grid):Option Bool :=
 iteO (if (decide ((lenL g'.fRows) < 1))=true then true else (decide (1000 < (lenL g'.fRows))))
  (some false)
  (cutO (loopO (fun (v:Int) =>
    iteO (decide (v < (lenL g'.fRows)))
     (chk (0≤v∧v < (lenL g'.fRows)) <|
      chk ((0:Int)≤0∧(0:Int) < (lenL g'.fRows)) <|
      bindO (if (!(!((lenL (getL d_api_Row g'.fRows v).fCells) == (lenL (getL d_api_Row g'.fRows 0).fCells))))=true then row_Sane (getL d_api_Row g'.fRows v) else some false) fun v1 =>
      iteO (if (!((lenL (getL d_api_Row g'.fRows v).fCells) == (lenL (getL d_api_Row g'.fRows 0).fCells)))=true then true else (!v1))
       (some (.out (.out false)))
       (chk (inR .i64 (v+1)) <|
        some (.go (v+1))))
     (some (.out (.go ())))) 0) fun (_:Unit) =>
   some true)
noncomputable def grid_Size (g':T_grid_Grid):Option (Int × Int) :=
 bindO (grid_Sane g') fun v =>
 iteO (!v)
  (some (0,0))
  (chk ((0:Int)≤0∧(0:Int) < (lenL g'.fRows)) <|
   some ((lenL g'.fRows),(lenL (getL d_api_Row g'.fRows 0).fCells)))
noncomputable def history_Sane (k':T_history_Kept):Option Bool :=
 iteO (if (if (decide (k'.fCap < 0))=true then true else (decide (200 < k'.fCap)))=true then true else (decide (k'.fCap < (lenL k'.fRows))))
  (some false)
  (cutO (loopO (fun (v:Int) =>
    iteO (decide (v < (lenL k'.fRows)))
     (chk (0≤v∧v < (lenL k'.fRows)) <|
      bindO (row_Sane (getL d_api_Row k'.fRows v)) fun v1 =>
      iteO (!v1)
       (some (.out (.out false)))
       (chk (inR .i64 (v+1)) <|
        some (.go (v+1))))
     (some (.out (.go ())))) 0) fun (_:Unit) =>
   some true)
noncomputable def screen_Sane (s:T_screen_Screen):Option Bool :=
 iteO (if (decide (s.fDir < 0))=true then true else (decide (2 < s.fDir)))
  (some false)
  (bindO (cursor_Sane s.fC s.fR) fun v =>
   bindO (if (!(!v))=true then tabs_Sane s.fT else some false) fun v1 =>
   iteO (if (if (!v)=true then true else (!v1))=true then true else (!(s.fT.fW == s.fR.fW)))
    (some false)
    (bindO (grid_Size s.fG) fun v2 =>
     let h':=v2.1
     let w:=v2.2
     iteO (if (!(h' == s.fR.fH))=true then true else (!(w == s.fR.fW)))
      (some false)
      (bindO (history_Sane s.fK) fun v3 =>
       some v3)))
noncomputable def interp_whole (r':T_cursor_Region):Option T_cursor_Region :=
 some (T_cursor_Region.mk r'.fH r'.fW 0 r'.fH)
noncomputable def interp_Sane (s:T_interp_State):Option Bool :=
 bindO (screen_Sane s.fMain) fun v =>
 bindO (if (!(!v))=true then screen_Sane s.fOther else some false) fun v1 =>
 bindO (if (!(if (!v)=true then true else (!v1)))=true then modes_Sane s.fM else some false) fun v2 =>
 iteO (if (if (!v)=true then true else (!v1))=true then true else (!v2))
  (some false)
  (bindO (interp_whole s.fMain.fR) fun v3 =>
   bindO (interp_whole s.fOther.fR) fun v4 =>
   iteO (!((v3.fH == v4.fH) && ((v3.fW == v4.fW) && ((v3.fTop == v4.fTop) && ((v3.fBottom == v4.fBottom) && true)))))
    (some false)
    (cutO (cutO (bindO (cursor_Sane s.fSaved.x0 v3) fun v6 =>
       iteO (!v6)
        (some (.out (.out false)))
        (chk (inR .i64 (0+1)) <|
         some (.go ()))) fun (_:Unit) =>
      cutO (bindO (cursor_Sane s.fSaved.x1 v3) fun v5 =>
       iteO (!v5)
        (some (.out (.out false)))
        (chk (inR .i64 (1+1)) <|
         some (.go ()))) fun (_:Unit) =>
      some (.go ())) fun (_:Unit) =>
     iteO (if (decide (4096 < (lenL s.fOut)))=true then true else (decide (1024 < (slenS s.fTitle))))
      (some false)
      (some (if (decide (0≤s.fLast))=true then (decide (s.fLast≤1114111)) else false))))
noncomputable def interp_Active (s:T_interp_State):Option T_screen_Screen :=
 iteO s.fOn
  (some s.fOther)
  (some s.fMain)
noncomputable def charset_Graphic (r':Int):Option Int :=
 iteO (r' == 95)
  (some 32)
  (iteO (if (decide (96≤r'))=true then (decide (r'≤126)) else false)
   (chk (inR .i64 (r'-96)) <|
    chk (0≤(r'-96)∧(r'-96) < (31:Int)) <|
    some (gtabS 1 (r'-96)))
   (some r'))
noncomputable def charset_UK (r':Int):Option Int :=
 iteO (r' == 35)
  (some 163)
  (some r')
noncomputable def charset_by (final:Int) (r':Int):Option Int :=
 iteO (final == 48)
  (bindO (charset_Graphic r') fun v =>
   some v)
  (iteO (final == 65)
   (bindO (charset_UK r') fun v1 =>
    some v1)
   (some r'))
noncomputable def charset_Map (s:T_charset_State) (r':Int):Option (T_charset_State × Int) :=
 bindO (charset_Sane s) fun v =>
 iteO (!v)
  (bindO (charset_New) fun v1 =>
   some (v1,r'))
  (iteO (if (if (decide (32≤r'))=true then (decide (r'≤127)) else false)=true then (!(s.fOnce == 0)) else false)
   (chk (0≤s.fOnce∧s.fOnce < (4:Int)) <|
    bindO (charset_by (if (s.fOnce == 0)=true then s.fG.x0 else (if (s.fOnce == 1)=true then s.fG.x1 else (if (s.fOnce == 2)=true then s.fG.x2 else s.fG.x3))) r') fun v2 =>
    iteO (if (decide (32≤r'))=true then (!(if (decide (127≤r'))=true then (decide (r'≤159)) else false)) else false)
     (some ((T_charset_State.mk s.fG s.fGL s.fGR 0),v2))
     (some (s,v2)))
   (iteO (if (decide (32≤r'))=true then (decide (r'≤127)) else false)
    (chk (0≤s.fGL∧s.fGL < (4:Int)) <|
     bindO (charset_by (if (s.fGL == 0)=true then s.fG.x0 else (if (s.fGL == 1)=true then s.fG.x1 else (if (s.fGL == 2)=true then s.fG.x2 else s.fG.x3))) r') fun v3 =>
     iteO (if (decide (32≤r'))=true then (!(if (decide (127≤r'))=true then (decide (r'≤159)) else false)) else false)
      (some ((T_charset_State.mk s.fG s.fGL s.fGR 0),v3))
      (some (s,v3)))
    (chk ((if (decide (160≤r'))=true then (decide (r'≤255)) else false)=true→0≤s.fGR∧s.fGR < (4:Int)) <|
     iteO (if (if (decide (160≤r'))=true then (decide (r'≤255)) else false)=true then (!((if (s.fGR == 0)=true then s.fG.x0 else (if (s.fGR == 1)=true then s.fG.x1 else (if (s.fGR == 2)=true then s.fG.x2 else s.fG.x3))) == 66)) else false)
      (chk (0≤s.fGR∧s.fGR < (4:Int)) <|
       chk (inR .i64 (r'-128)) <|
       bindO (charset_by (if (s.fGR == 0)=true then s.fG.x0 else (if (s.fGR == 1)=true then s.fG.x1 else (if (s.fGR == 2)=true then s.fG.x2 else s.fG.x3))) (r'-128)) fun v4 =>
       iteO (if (decide (32≤r'))=true then (!(if (decide (127≤r'))=true then (decide (r'≤159)) else false)) else false)
        (some ((T_charset_State.mk s.fG s.fGL s.fGR 0),v4))
        (some (s,v4)))
      (iteO (if (decide (32≤r'))=true then (!(if (decide (127≤r'))=true then (decide (r'≤159)) else false)) else false)
       (some ((T_charset_State.mk s.fG s.fGL s.fGR 0),r'))
       (some (s,r'))))))
noncomputable def interp_with (s:T_interp_State) (x':T_screen_Screen):Option T_interp_State :=
 iteO s.fOn
  (some (T_interp_State.mk s.fMain x' s.fOn s.fM s.fSaved s.fOut s.fTitle s.fLast))
  (some (T_interp_State.mk x' s.fOther s.fOn s.fM s.fSaved s.fOut s.fTitle s.fLast))
noncomputable def ranges_Get (t':T_ranges_Table) (r':Int):Option Int :=
 cutO (loopO (fun (v:Int) =>
  iteO (decide (v < (lenL t'.fL)))
   (chk (0≤v∧v < (lenL t'.fL)) <|
    iteO (if (decide ((getL d_ranges_Row t'.fL v).fLo≤r'))=true then (decide (r'≤(getL d_ranges_Row t'.fL v).fHi)) else false)
     (some (.out (.out (getL d_ranges_Row t'.fL v).fV)))
     (chk (inR .i64 (v+1)) <|
      some (.go (v+1))))
   (some (.out (.go ())))) 0) fun (_:Unit) =>
 some 0
noncomputable def ucd_Width (d':T_ucd_Data) (r':Int):Option Int :=
 bindO (ranges_Get d'.fWide r') fun v =>
 iteO (decide (0 < v))
  (chk (inR .i64 (v-1)) <|
   some (v-1))
  (some 1)
noncomputable def row_cells (r':T_api_Row):Option (List T_api_Cell) :=
 chk (makeOk 56 (lenL r'.fCells) (lenL r'.fCells)) <|
 some (cpyL (repL (lenL r'.fCells) d_api_Cell) 0 r'.fCells (iminI (lenL r'.fCells) (lenL r'.fCells)))
noncomputable def row_Mark (r':T_api_Row) (at':Int) (m:Int):Option T_api_Row :=
 bindO (row_Sane r') fun v =>
 iteO (if (if (if (if (!v)=true then true else (decide (at' < 0)))=true then true else (decide ((lenL r'.fCells)≤at')))=true then true else (decide (m < 1)))=true then true else (decide (1114111 < m)))
  (some r')
  (cutO (chk (0≤at'∧at' < (lenL r'.fCells)) <|
    iteO ((getL d_api_Cell r'.fCells at').fW == 0)
     (chk (inR .i64 (at'-1)) <|
      let at'2:=(at'-1)
      some (.go at'2))
     (some (.go at'))) fun at'1 =>
   chk (0≤at'1∧at'1 < (lenL r'.fCells)) <|
   iteO ((getL d_api_Cell r'.fCells at'1).fR == 0)
    (some r')
    (cutO (chk (0≤at'1∧at'1 < (lenL r'.fCells)) <|
      cutO (let x'1:=(getL d_api_Cell r'.fCells at'1).fM.x0
       iteO (x'1 == 0)
        (bindO (row_cells r') fun v2 =>
         chk (0≤at'1∧at'1 < (lenL v2)) <|
         some (.out (.out (T_api_Row.mk (setL v2 at'1 (T_api_Cell.mk (getL d_api_Cell v2 (0+at'1)).fR (T_Arr2_i64.mk m (getL d_api_Cell v2 (0+at'1)).fM.x1) (getL d_api_Cell v2 (0+at'1)).fW (getL d_api_Cell v2 (0+at'1)).fPen)) r'.fWrap r'.fDir r'.fExplicit))))
        (chk (inR .i64 (0+1)) <|
         some (.go ()))) fun (_:Unit) =>
      cutO (let x':=(getL d_api_Cell r'.fCells at'1).fM.x1
       iteO (x' == 0)
        (bindO (row_cells r') fun v1 =>
         chk (0≤at'1∧at'1 < (lenL v1)) <|
         some (.out (.out (T_api_Row.mk (setL v1 at'1 (T_api_Cell.mk (getL d_api_Cell v1 (0+at'1)).fR (T_Arr2_i64.mk (getL d_api_Cell v1 (0+at'1)).fM.x0 m) (getL d_api_Cell v1 (0+at'1)).fW (getL d_api_Cell v1 (0+at'1)).fPen)) r'.fWrap r'.fDir r'.fExplicit))))
        (chk (inR .i64 (1+1)) <|
         some (.go ()))) fun (_:Unit) =>
      some (.go ())) fun (_:Unit) =>
     some r'))
noncomputable def screen_Mark_1 (r':T_api_Row) (cap0:Int) (cap1:Int):Option T_api_Row :=
 bindO (row_Mark r' cap0 cap1) fun v =>
 some v
noncomputable def grid_rows (g':T_grid_Grid):Option (List T_api_Row) :=
 chk (growOk 48 (lenL g'.fRows)) <|
 some g'.fRows
noncomputable def grid_Set (g':T_grid_Grid) (y':Int) (r':T_api_Row):Option T_grid_Grid :=
 cutO (bindO (grid_Sane g') fun v =>
  chk ((!(if (if (!v)=true then true else (decide (y' < 0)))=true then true else (decide ((lenL g'.fRows)≤y'))))=true→(0:Int)≤0∧(0:Int) < (lenL g'.fRows)) <|
  bindO (if (!(if (if (if (!v)=true then true else (decide (y' < 0)))=true then true else (decide ((lenL g'.fRows)≤y')))=true then true else (!((lenL r'.fCells) == (lenL (getL d_api_Row g'.fRows 0).fCells)))))=true then row_Sane r' else some false) fun v1 =>
  iteO (if (if (if (if (!v)=true then true else (decide (y' < 0)))=true then true else (decide ((lenL g'.fRows)≤y')))=true then true else (!((lenL r'.fCells) == (lenL (getL d_api_Row g'.fRows 0).fCells))))=true then true else (!v1))
   (some (.out g'))
   (bindO (grid_rows g') fun v2 =>
    chk (0≤y'∧y' < (lenL v2)) <|
    some (.go (setL v2 y' r')))) fun l' =>
 some (T_grid_Grid.mk l')
noncomputable def screen_wraps_1 (r':T_api_Row) (cap0:Bool):Option T_api_Row :=
 some (T_api_Row.mk r'.fCells cap0 r'.fDir r'.fExplicit)
noncomputable def row_between (r':T_api_Row) (from':Int) (to:Int):Option (Int × Int) :=
 let w:=(lenL r'.fCells)
 let from'1:=(imaxI 0 (iminI from' w))
 let to1:=(imaxI 0 (iminI to w))
 some (from'1,(imaxI from'1 to1))
noncomputable def row_mended (r':T_api_Row) (l':List T_api_Cell) (l'_off:Int) (l'_n:Int):Option (T_api_Row) :=
 chk (0≤l'_off∧0≤l'_n∧l'_off+l'_n≤lenL l') <|
 cutO (loopO (fun ((v,l'2):Int × List T_api_Cell) =>
  iteO (decide (v < l'_n))
   (bindO (row_lost (subL l'2 l'_off (l'_off+l'_n)) v) fun v1 =>
    iteO v1
     (chk (0≤v∧v < l'_n) <|
      bindO (row_Blank (getL d_api_Cell l'2 (l'_off+v)).fPen) fun v2 =>
      chk (0≤v∧v < l'_n) <|
      chk (inR .i64 (v+1)) <|
      some (.go ((v+1),(setL l'2 (l'_off+v) v2))))
     (chk (inR .i64 (v+1)) <|
      some (.go ((v+1),l'2))))
   (some (.out (.go l'2)))) (0,l')) fun l'1 =>
 some (T_api_Row.mk (subL l'1 l'_off (l'_off+l'_n)) r'.fWrap r'.fDir r'.fExplicit)
noncomputable def row_Erase (r':T_api_Row) (from':Int) (to:Int) (p':T_api_Pen):Option T_api_Row :=
 cutO (bindO (row_Sane r') fun v1 =>
  bindO (if (!(!v1))=true then pen_Sane p' else some false) fun v2 =>
  iteO (if (!v1)=true then true else (!v2))
   (some (.out r'))
   (bindO (row_between r' from' to) fun v3 =>
    let from'1:=v3.1
    let to1:=v3.2
    bindO (row_cells r') fun v4 =>
    chk (0≤from'1∧from'1≤to1∧to1≤(lenL v4)) <|
    bindO (row_lay v4 (0+from'1) (to1-from'1) p') fun v5 =>
    chk (lenL v5=lenL v4) <|
    some (.go v5))) fun l' =>
 bindO (row_mended r' l' 0 (lenL l')) fun v =>
 some v
noncomputable def screen_erased_1 (r':T_api_Row) (cap0:Int) (cap1:Int) (cap2_Fg:Int) (cap2_Bg:Int) (cap2_Flags:Int):Option T_api_Row :=
 bindO (row_Erase r' cap0 cap1 (T_api_Pen.mk cap2_Fg cap2_Bg cap2_Flags)) fun v =>
 some v
noncomputable def row_moves (r':T_api_Row) (at':Int) (right:Int) (p':T_api_Pen):Option Bool :=
 bindO (row_Sane r') fun v =>
 bindO (if v=true then pen_Sane p' else some false) fun v1 =>
 some (if (if (if (if v=true then v1 else false)=true then (decide (0≤at')) else false)=true then (decide (at' < right)) else false)=true then (decide (right≤(lenL r'.fCells))) else false)
noncomputable def row_Insert (r':T_api_Row) (at':Int) (n:Int) (right:Int) (p':T_api_Pen):Option T_api_Row :=
 cutO (bindO (row_moves r' at' right p') fun v2 =>
  iteO (!v2)
   (some (.out r'))
   (chk (inR .i64 (right-at')) <|
    let n1:=(imaxI 0 (iminI n (right-at')))
    bindO (row_cells r') fun v3 =>
    chk (inR .i64 (at'+n1)) <|
    chk (0≤(at'+n1)∧(at'+n1)≤right∧right≤(lenL v3)) <|
    chk (inR .i64 (right-n1)) <|
    chk (0≤at'∧at'≤(right-n1)∧(right-n1)≤(lenL r'.fCells)) <|
    some (.go (cpyL v3 (0+(at'+n1)) (subL r'.fCells at' (right-n1)) (iminI ((right-n1)-at') (right-(at'+n1))))))) fun l' =>
 cutO (chk (inR .i64 (at'+(imaxI 0 (iminI n (right-at'))))) <|
  chk (0≤at'∧at'≤(at'+(imaxI 0 (iminI n (right-at'))))∧(at'+(imaxI 0 (iminI n (right-at'))))≤(lenL l')) <|
  bindO (row_lay l' (0+at') ((at'+(imaxI 0 (iminI n (right-at'))))-at') p') fun v1 =>
  chk (lenL v1=lenL l') <|
  some (.go v1)) fun l'1 =>
 bindO (row_mended r' l'1 0 (lenL l')) fun v =>
 some v
noncomputable def screen_inserted_1 (r':T_api_Row) (cap0:Int) (cap1:Int) (cap2:Int) (cap3_Fg:Int) (cap3_Bg:Int) (cap3_Flags:Int):Option T_api_Row :=
 bindO (row_Insert r' cap0 cap1 cap2 (T_api_Pen.mk cap3_Fg cap3_Bg cap3_Flags)) fun v =>
 some v
noncomputable def row_Put (r':T_api_Row) (at':Int) (c':T_api_Cell):Option T_api_Row :=
 bindO (row_Sane r') fun v =>
 bindO (if (!(!v))=true then row_fits c' else some false) fun v1 =>
 chk ((!(if (if (if (!v)=true then true else (!v1))=true then true else (c'.fW == 0))=true then true else (decide (at' < 0))))=true→inR .i64 ((lenL r'.fCells)-c'.fW)) <|
 iteO (if (if (if (if (!v)=true then true else (!v1))=true then true else (c'.fW == 0))=true then true else (decide (at' < 0)))=true then true else (decide (((lenL r'.fCells)-c'.fW) < at')))
  (some r')
  (bindO (row_cells r') fun v2 =>
   chk (0≤at'∧at' < (lenL v2)) <|
   cutO (iteO (c'.fW == 2)
    (chk (inR .i64 (at'+1)) <|
     chk (0≤(at'+1)∧(at'+1) < (lenL v2)) <|
     some (.go (setL (setL v2 at' c') (at'+1) (T_api_Cell.mk 0 d_Arr2_i64 0 c'.fPen))))
    (some (.go (setL v2 at' c')))) fun l' =>
   bindO (row_mended r' l' 0 (lenL v2)) fun v3 =>
   some v3)
noncomputable def screen_Print_1 (x':T_api_Row) (cap0:Int) (cap1:Int) (cap2:Int) (cap3_C_Pen_Fg:Int) (cap3_C_Pen_Bg:Int) (cap3_C_Pen_Flags:Int) (cap3_Dir:Int) (cap3_Explicit:Bool) (cap4:Bool):Option T_api_Row :=
 bindO (row_Put x' cap0 (T_api_Cell.mk cap1 d_Arr2_i64 cap2 (T_api_Pen.mk cap3_C_Pen_Fg cap3_C_Pen_Bg cap3_C_Pen_Flags))) fun v =>
 iteO cap4
  (some (T_api_Row.mk v.fCells false cap3_Dir cap3_Explicit))
  (some (T_api_Row.mk v.fCells v.fWrap cap3_Dir cap3_Explicit))
noncomputable def V_stepV (v:FV) (a0:T_api_Row):Option T_api_Row:=match v with
 | .bool (.nil 236) c0=>screen_wraps_1 a0 c0
 | .box (.int (.int (.nil 237) .i64 c0) .i64 c1) 3 [(0,.int .i64 c2_0),(1,.int .i64 c2_1),(2,.int .i64 c2_2)]=>screen_erased_1 a0 c0 c1 c2_0 c2_1 c2_2
 | .box (.int (.int (.int (.nil 221) .i64 c0) .i64 c1) .i64 c2) 3 [(0,.int .i64 c3_0),(1,.int .i64 c3_1),(2,.int .i64 c3_2)]=>screen_inserted_1 a0 c0 c1 c2 c3_0 c3_1 c3_2
 | .bool (.box (.int (.int (.int (.nil 155) .i64 c0) .i64 c1) .i64 c2) 25 [(5,.int .i64 c3_5),(6,.int .i64 c3_6),(7,.int .i64 c3_7),(23,.int .i64 c3_23),(24,.bool c3_24)]) c4=>screen_Print_1 a0 c0 c1 c2 c3_5 c3_6 c3_7 c3_23 c3_24 c4
 | .int (.int (.nil 150) .i64 c0) .i64 c1=>screen_Mark_1 a0 c0 c1
 | _=>none
noncomputable def screen_onRow (s:T_screen_Screen) (steps:(List FV)):Option T_screen_Screen :=
 chk (0≤s.fC.fY∧s.fC.fY < (lenL s.fG.fRows)) <|
 cutO (loopO (fun ((v1,r'1):Int × T_api_Row) =>
  iteO (decide (v1 < (lenL steps)))
   (chk (0≤v1∧v1 < (lenL steps)) <|
    bindO (V_stepV (getL d_FV steps v1) r'1) fun v2 =>
    chk (inR .i64 (v1+1)) <|
    some (.go ((v1+1),v2)))
   (some (.out (.go r'1)))) (0,(getL d_api_Row s.fG.fRows s.fC.fY))) fun r' =>
 bindO (grid_Set s.fG s.fC.fY r') fun v =>
 some (T_screen_Screen.mk v s.fC s.fR s.fT s.fK s.fDir s.fExplicit)
noncomputable def screen_Mark (s:T_screen_Screen) (m:Int):Option T_screen_Screen :=
 bindO (screen_Sane s) fun v =>
 iteO (!v)
  (some s)
  (cutO (iteO (!s.fC.fWrap)
    (chk (inR .i64 (s.fC.fX-1)) <|
     some (.go (s.fC.fX-1)))
    (some (.go s.fC.fX))) fun b5_0 =>
   cutO (iteO (decide (b5_0 < 0))
    (some (.out s))
    (some (.go ()))) fun (_:Unit) =>
   bindO (screen_onRow s ([(FV.int (FV.int (FV.nil 150) .i64 b5_0) .i64 m)]:List FV)) fun v1 =>
   some v1)
noncomputable def screen_wraps (on:Bool):Option FV :=
 some (FV.bool (FV.nil 236) on)
noncomputable def screen_ground (s:T_screen_Screen):Option T_api_Pen :=
 some (T_api_Pen.mk 0 s.fC.fPen.fBg 0)
noncomputable def grid_usable (g':T_grid_Grid) (p':T_api_Pen):Option Bool :=
 bindO (grid_Sane g') fun v =>
 bindO (if v=true then row_New 1 p' else some d_api_Row) fun v1 =>
 bindO (if v=true then row_Sane v1 else some false) fun v2 =>
 some (if v=true then v2 else false)
noncomputable def grid_moves (g':T_grid_Grid) (top:Int) (bottom:Int) (p':T_api_Pen):Option Bool :=
 bindO (grid_usable g' p') fun v =>
 some (if (if (if v=true then (decide (0≤top)) else false)=true then (decide (top < bottom)) else false)=true then (decide (bottom≤(lenL g'.fRows))) else false)
noncomputable def grid_Up (g':T_grid_Grid) (top:Int) (bottom:Int) (n:Int) (p':T_api_Pen):Option (T_grid_Grid × (List T_api_Row)) :=
 bindO (grid_moves g' top bottom p') fun v =>
 iteO (!v)
  (some (g',([]:List T_api_Row)))
  (chk (inR .i64 (bottom-top)) <|
   let n1:=(imaxI 0 (iminI n (bottom-top)))
   bindO (grid_rows g') fun v1 =>
   cutO (loopO (fun ((v4,gone1):Int × List T_api_Row) =>
    iteO (decide (v4 < n1))
     (chk (inR .i64 (top+v4)) <|
      chk (0≤(top+v4)∧(top+v4) < (lenL g'.fRows)) <|
      chk (growOk 48 ((lenL gone1)+1)) <|
      chk (inR .i64 (v4+1)) <|
      some (.go ((v4+1),(gone1++([(getL d_api_Row g'.fRows (top+v4))]:List T_api_Row)))))
     (some (.out (.go gone1)))) (0,([]:List T_api_Row))) fun gone =>
   cutO (chk (inR .i64 (bottom-top)) <|
    chk (inR .i64 ((bottom-top)-n1)) <|
    loopO (fun ((v3,l'1):Int × List T_api_Row) =>
     iteO (decide (v3 < ((bottom-top)-n1)))
      (chk (inR .i64 (top+v3)) <|
       chk (inR .i64 (top+n1)) <|
       chk (inR .i64 ((top+n1)+v3)) <|
       chk (0≤((top+n1)+v3)∧((top+n1)+v3) < (lenL g'.fRows)) <|
       chk (0≤(top+v3)∧(top+v3) < (lenL v1)) <|
       chk (inR .i64 (v3+1)) <|
       some (.go ((v3+1),(setL l'1 (top+v3) (getL d_api_Row g'.fRows ((top+n1)+v3))))))
      (some (.out (.go l'1)))) (0,v1)) fun l' =>
   chk (inR .i64 (bottom-n1)) <|
   chk (0≤(bottom-n1)∧(bottom-n1)≤bottom∧bottom≤(lenL v1)) <|
   chk ((0:Int)≤0∧(0:Int) < (lenL g'.fRows)) <|
   bindO (grid_lay l' (0+(bottom-n1)) (bottom-(bottom-n1)) (lenL (getL d_api_Row g'.fRows 0).fCells) p') fun v2 =>
   chk (lenL v2=lenL l') <|
   some ((T_grid_Grid.mk v2),gone))
noncomputable def history_Push (k':T_history_Kept) (l':(List T_api_Row)):Option T_history_Kept :=
 bindO (history_Sane k') fun v =>
 iteO (!v)
  (some d_history_Kept)
  (chk (growOk 48 (lenL k'.fRows)) <|
   cutO (loopO (fun ((v1,all1):Int × List T_api_Row) =>
    iteO (decide (v1 < (lenL l')))
     (chk (0≤v1∧v1 < (lenL l')) <|
      bindO (row_Sane (getL d_api_Row l' v1)) fun v2 =>
      iteO v2
       (chk (growOk 48 ((lenL all1)+1)) <|
        chk (inR .i64 (v1+1)) <|
        some (.go ((v1+1),(all1++([(getL d_api_Row l' v1)]:List T_api_Row)))))
       (chk (inR .i64 (v1+1)) <|
        some (.go ((v1+1),all1))))
     (some (.out (.go all1)))) (0,k'.fRows)) fun all =>
   let n:=(lenL all)
   chk (inR .i64 (n-k'.fCap)) <|
   chk (0≤(imaxI 0 (n-k'.fCap))∧(imaxI 0 (n-k'.fCap))≤n∧n≤(lenL all)) <|
   chk (0≤n∧n≤n∧n≤(lenL all)) <|
   some (T_history_Kept.mk (subL all (0+(imaxI 0 (n-k'.fCap))) ((0+(imaxI 0 (n-k'.fCap)))+(n-(imaxI 0 (n-k'.fCap))))) k'.fCap))
noncomputable def screen_up (s:T_screen_Screen) (n:Int):Option T_screen_Screen :=
 bindO (screen_ground s) fun v =>
 bindO (grid_Up s.fG s.fR.fTop s.fR.fBottom n v) fun v1 =>
 iteO (s.fR.fTop == 0)
  (bindO (history_Push s.fK v1.2) fun v2 =>
   some (T_screen_Screen.mk v1.1 s.fC s.fR s.fT v2 s.fDir s.fExplicit))
  (some (T_screen_Screen.mk v1.1 s.fC s.fR s.fT s.fK s.fDir s.fExplicit))
noncomputable def screen_down (s:T_screen_Screen):Option T_screen_Screen :=
 chk (inR .i64 (s.fR.fBottom-1)) <|
 iteO (s.fC.fY == (s.fR.fBottom-1))
  (bindO (screen_up (T_screen_Screen.mk s.fG (T_cursor_Cursor.mk s.fC.fX s.fC.fY false s.fC.fOrigin s.fC.fPen s.fC.fSet) s.fR s.fT s.fK s.fDir s.fExplicit) 1) fun v =>
   some v)
  (chk (inR .i64 (s.fC.fY+1)) <|
   chk (inR .i64 (s.fR.fH-1)) <|
   some (T_screen_Screen.mk s.fG (T_cursor_Cursor.mk s.fC.fX (iminI (s.fC.fY+1) (s.fR.fH-1)) false s.fC.fOrigin s.fC.fPen s.fC.fSet) s.fR s.fT s.fK s.fDir s.fExplicit))
noncomputable def screen_next (s:T_screen_Screen):Option T_screen_Screen :=
 bindO (screen_wraps true) fun v =>
 bindO (screen_onRow s ([v]:List FV)) fun v1 =>
 bindO (screen_down v1) fun v2 =>
 some (T_screen_Screen.mk v2.fG (T_cursor_Cursor.mk 0 v2.fC.fY v2.fC.fWrap v2.fC.fOrigin v2.fC.fPen v2.fC.fSet) v2.fR v2.fT v2.fK v2.fDir v2.fExplicit)
noncomputable def screen_inserted (at':Int) (n:Int) (right:Int) (p':T_api_Pen):Option FV :=
 some (FV.box (FV.int (FV.int (FV.int (FV.nil 221) .i64 at') .i64 n) .i64 right) 3 [(0,.int .i64 p'.fFg),(1,.int .i64 p'.fBg),(2,.int .i64 p'.fFlags)])
noncomputable def screen_Print (s:T_screen_Screen) (r':Int) (w:Int) (insert:Bool) (auto:Bool):Option T_screen_Screen :=
 bindO (screen_Sane s) fun v =>
 iteO (if (if (if (if (if (!v)=true then true else (decide (r' < 1)))=true then true else (decide (1114111 < r')))=true then true else (decide (w < 1)))=true then true else (decide (2 < w)))=true then true else (decide (s.fR.fW < w)))
  (some s)
  (chk (inR .i64 (s.fR.fW-1)) <|
   let last:=(s.fR.fW-1)
   cutO (iteO (if s.fC.fWrap=true then auto else false)
    (bindO (screen_next s) fun v5 =>
     some (.go v5))
    (some (.go s))) fun s1 =>
   cutO (iteO (if (w == 2)=true then (s1.fC.fX == last) else false)
    (iteO auto
     (bindO (screen_next s1) fun v4 =>
      some (.go v4))
     (chk (inR .i64 (s1.fC.fX-1)) <|
      some (.go (T_screen_Screen.mk s1.fG (T_cursor_Cursor.mk (s1.fC.fX-1) s1.fC.fY s1.fC.fWrap s1.fC.fOrigin s1.fC.fPen s1.fC.fSet) s1.fR s1.fT s1.fK s1.fDir s1.fExplicit))))
    (some (.go s1))) fun s2 =>
   chk (inR .i64 (s2.fC.fX+w)) <|
   cutO (iteO insert
    (bindO (screen_ground s2) fun v2 =>
     bindO (screen_inserted s2.fC.fX w s2.fR.fW v2) fun v3 =>
     chk (growOk 8 1) <|
     some (.go ([v3]:List FV)))
    (some (.go ([]:List FV)))) fun steps =>
   chk (growOk 8 ((lenL steps)+1)) <|
   bindO (screen_onRow s2 (steps++([(FV.bool (FV.box (FV.int (FV.int (FV.int (FV.nil 155) .i64 s2.fC.fX) .i64 r') .i64 w) 25 [(5,.int .i64 s2.fC.fPen.fFg),(6,.int .i64 s2.fC.fPen.fBg),(7,.int .i64 s2.fC.fPen.fFlags),(23,.int .i64 s2.fDir),(24,.bool s2.fExplicit)]) (decide (last < (s2.fC.fX+w))))]:List FV))) fun v1 =>
   chk (inR .i64 (s2.fC.fX+w)) <|
   some (T_screen_Screen.mk v1.fG (T_cursor_Cursor.mk (iminI (s2.fC.fX+w) last) v1.fC.fY (if (decide (last < (s2.fC.fX+w)))=true then auto else false) v1.fC.fOrigin v1.fC.fPen v1.fC.fSet) v1.fR v1.fT v1.fK v1.fDir v1.fExplicit))
noncomputable def interp_letter (s:T_interp_State) (d':T_ucd_Data) (r':Int):Option T_interp_State :=
 bindO (interp_Active s) fun v =>
 bindO (ucd_Width d' r') fun v1 =>
 iteO (v1 == 0)
  (bindO (screen_Mark v r') fun v2 =>
   bindO (interp_with s v2) fun v3 =>
   some v3)
  (bindO (modes_Has s.fM false 4) fun v4 =>
   bindO (modes_Has s.fM true 7) fun v5 =>
   bindO (screen_Print v r' v1 v4 v5) fun v6 =>
   bindO (interp_with s v6) fun v7 =>
   some (T_interp_State.mk v7.fMain v7.fOther v7.fOn v7.fM v7.fSaved v7.fOut v7.fTitle (imaxI 0 (iminI r' 1114111))))
noncomputable def params_Get (l':(List (List Int))) (k':Int) (usual:Int):Option Int :=
 chk ((!(if (decide (k' < 0))=true then true else (decide ((lenL l')≤k'))))=true→0≤k'∧k' < (lenL l')) <|
 chk ((!(if (if (decide (k' < 0))=true then true else (decide ((lenL l')≤k')))=true then true else ((lenL (getL [] l' k')) == 0)))=true→0≤k'∧k' < (lenL l')) <|
 chk ((!(if (if (decide (k' < 0))=true then true else (decide ((lenL l')≤k')))=true then true else ((lenL (getL [] l' k')) == 0)))=true→(0:Int)≤0∧(0:Int) < (lenL (getL [] l' k'))) <|
 iteO (if (if (if (decide (k' < 0))=true then true else (decide ((lenL l')≤k')))=true then true else ((lenL (getL [] l' k')) == 0))=true then true else ((getL 0 (getL [] l' k') 0) == (-1)))
  (some usual)
  (chk (0≤k'∧k' < (lenL l')) <|
   chk ((0:Int)≤0∧(0:Int) < (lenL (getL [] l' k'))) <|
   some (getL 0 (getL [] l' k') 0))
noncomputable def params_Count (l':(List (List Int))) (k':Int) (usual:Int) (least:Int) (most:Int):Option Int :=
 bindO (params_Get l' k' usual) fun v =>
 iteO (v == 0)
  (some (imaxI (iminI usual most) least))
  (some (imaxI (iminI v most) least))
noncomputable def interp_first (a:T_api_Action):Option Int :=
 bindO (params_Count a.fParams 0 1 1 5000) fun v =>
 some v
noncomputable def cursor_further (v:Int) (by':Int) (least:Int) (most:Int):Option Int :=
 bindO (cursor_between by' (-4096) 4096) fun v1 =>
 chk (inR .i64 (v+v1)) <|
 bindO (cursor_between (v+v1) least most) fun v2 =>
 some v2
noncomputable def cursor_Move (c':T_cursor_Cursor) (r':T_cursor_Region) (dy:Int) (dx:Int):Option T_cursor_Cursor :=
 bindO (cursor_Sane c' r') fun v =>
 iteO (!v)
  (some c')
  (let bottom:=r'.fH
   cutO (bindO (cursor_full r'.fH r'.fW) fun v3 =>
    iteO (!((r'.fH == v3.fH) && ((r'.fW == v3.fW) && ((r'.fTop == v3.fTop) && ((r'.fBottom == v3.fBottom) && true)))))
     (iteO (decide (r'.fTop≤c'.fY))
      (let top1:=r'.fTop
       iteO (decide (c'.fY < r'.fBottom))
        (let bottom2:=r'.fBottom
         some (.go (top1,bottom2)))
        (some (.go (top1,bottom))))
      (iteO (decide (c'.fY < r'.fBottom))
       (let bottom3:=r'.fBottom
        some (.go (0,bottom3)))
       (some (.go (0,bottom)))))
     (some (.go (0,bottom)))) fun (top,bottom1) =>
   chk (inR .i64 (bottom1-1)) <|
   bindO (cursor_further c'.fY dy top (bottom1-1)) fun v1 =>
   chk (inR .i64 (r'.fW-1)) <|
   bindO (cursor_further c'.fX dx 0 (r'.fW-1)) fun v2 =>
   some (T_cursor_Cursor.mk v2 v1 false c'.fOrigin c'.fPen c'.fSet))
noncomputable def cursor_Column (c':T_cursor_Cursor) (r':T_cursor_Region) (x':Int):Option T_cursor_Cursor :=
 bindO (cursor_Sane c' r') fun v =>
 iteO (!v)
  (some c')
  (chk (inR .i64 (r'.fW-1)) <|
   bindO (cursor_between x' 0 (r'.fW-1)) fun v1 =>
   some (T_cursor_Cursor.mk v1 c'.fY false c'.fOrigin c'.fPen c'.fSet))
noncomputable def interp_going_1 (c':T_cursor_Cursor) (r':T_cursor_Region) (n:Int) (cap0:Int) (cap1:Int) (cap2:Bool):Option T_cursor_Cursor :=
 chk (inR .i64 (cap0*n)) <|
 chk (inR .i64 (cap1*n)) <|
 bindO (cursor_Move c' r' (cap0*n) (cap1*n)) fun v =>
 iteO cap2
  (bindO (cursor_Column v r' 0) fun v1 =>
   some v1)
  (some v)
noncomputable def interp_sequences_1 (c':T_cursor_Cursor) (r':T_cursor_Region) (n:Int):Option T_cursor_Cursor :=
 chk (inR .i64 (n-1)) <|
 bindO (cursor_Column c' r' (n-1)) fun v =>
 some v
noncomputable def V_curV (v:FV) (a0:T_cursor_Cursor) (a1:T_cursor_Region) (a2:Int):Option T_cursor_Cursor:=match v with
 | .bool (.int (.int (.nil 175) .i64 c0) .i64 c1) c2=>interp_going_1 a0 a1 a2 c0 c1 c2
 | .nil 91=>interp_sequences_1 a0 a1 a2
 | _=>none
noncomputable def interp_moving_1 (x':T_screen_Screen) (n:Int) (cap0:FV):Option T_screen_Screen :=
 bindO (V_curV cap0 x'.fC x'.fR n) fun v =>
 some (T_screen_Screen.mk x'.fG v x'.fR x'.fT x'.fK x'.fDir x'.fExplicit)
noncomputable def tabs_Next_1 (from':Int) (cap0:T_tabs_Stops):Option Int :=
 cutO (loopO (fun (v:Int) =>
  iteO (decide (v < (lenL cap0.fL)))
   (chk (0≤v∧v < (lenL cap0.fL)) <|
    let x':=(getL 0 cap0.fL v)
    iteO (decide (from' < x'))
     (some (.out (.out x')))
     (chk (inR .i64 (v+1)) <|
      some (.go (v+1))))
   (some (.out (.go ())))) 0) fun (_:Unit) =>
 chk (inR .i64 (cap0.fW-1)) <|
 some (cap0.fW-1)
noncomputable def tabs_Next (s:T_tabs_Stops) (at':Int) (n:Int):Option Int :=
 bindO (tabs_Sane s) fun v =>
 iteO (!v)
  (some 0)
  (chk (inR .i64 (s.fW-1)) <|
   let at'1:=(imaxI 0 (iminI at' (s.fW-1)))
   cutO (loopO (fun ((at'3,i):Int × Int) =>
    chk ((decide (i < n))=true→inR .i64 (s.fW-1)) <|
    iteO (if (decide (i < n))=true then (decide (at'3 < (s.fW-1))) else false)
     (bindO (tabs_Next_1 at'3 s) fun v1 =>
      chk (inR .i64 (i+1)) <|
      let i1:=(i+1)
      some (.go (v1,i1)))
     (some (.out (.go at'3)))) (at'1,0)) fun at'2 =>
   some at'2)
noncomputable def tabs_Prev_1 (from':Int) (cap0:T_tabs_Stops):Option Int :=
 cutO (chk (inR .i64 ((lenL cap0.fL)-1)) <|
  let i:=((lenL cap0.fL)-1)
  loopO (fun (i1:Int) =>
   iteO (decide (0≤i1))
    (chk (0≤i1∧i1 < (lenL cap0.fL)) <|
     iteO (decide ((getL 0 cap0.fL i1) < from'))
      (chk (0≤i1∧i1 < (lenL cap0.fL)) <|
       some (.out (.out (getL 0 cap0.fL i1))))
      (chk (inR .i64 (i1-1)) <|
       let i2:=(i1-1)
       some (.go i2)))
    (some (.out (.go ())))) i) fun (_:Unit) =>
 some 0
noncomputable def tabs_Prev (s:T_tabs_Stops) (at':Int) (n:Int):Option Int :=
 bindO (tabs_Sane s) fun v =>
 iteO (!v)
  (some 0)
  (chk (inR .i64 (s.fW-1)) <|
   let at'1:=(imaxI 0 (iminI at' (s.fW-1)))
   cutO (loopO (fun ((at'3,i):Int × Int) =>
    iteO (if (decide (i < n))=true then (decide (0 < at'3)) else false)
     (bindO (tabs_Prev_1 at'3 s) fun v1 =>
      chk (inR .i64 (i+1)) <|
      let i1:=(i+1)
      some (.go (v1,i1)))
     (some (.out (.go at'3)))) (at'1,0)) fun at'2 =>
   some at'2)
noncomputable def screen_Tab (s:T_screen_Screen) (n:Int):Option T_screen_Screen :=
 bindO (screen_Sane s) fun v =>
 iteO (!v)
  (some s)
  (iteO (decide (0≤n))
   (bindO (tabs_Next s.fT s.fC.fX n) fun v1 =>
    some (T_screen_Screen.mk s.fG (T_cursor_Cursor.mk v1 s.fC.fY false s.fC.fOrigin s.fC.fPen s.fC.fSet) s.fR s.fT s.fK s.fDir s.fExplicit))
   (iteO (n == (-9223372036854775808))
    (bindO (tabs_Prev s.fT s.fC.fX 9223372036854775807) fun v2 =>
     some (T_screen_Screen.mk s.fG (T_cursor_Cursor.mk v2 s.fC.fY false s.fC.fOrigin s.fC.fPen s.fC.fSet) s.fR s.fT s.fK s.fDir s.fExplicit))
    (chk (inR .i64 (0-n)) <|
     bindO (tabs_Prev s.fT s.fC.fX (0-n)) fun v3 =>
     some (T_screen_Screen.mk s.fG (T_cursor_Cursor.mk v3 s.fC.fY false s.fC.fOrigin s.fC.fPen s.fC.fSet) s.fR s.fT s.fK s.fDir s.fExplicit))))
noncomputable def screen_erased (from':Int) (to:Int) (p':T_api_Pen):Option FV :=
 some (FV.box (FV.int (FV.int (FV.nil 237) .i64 from') .i64 to) 3 [(0,.int .i64 p'.fFg),(1,.int .i64 p'.fBg),(2,.int .i64 p'.fFlags)])
noncomputable def screen_eraseLine (s:T_screen_Screen) (kind:Int):Option T_screen_Screen :=
 bindO (screen_ground s) fun v =>
 iteO (kind == 0)
  (bindO (screen_erased s.fC.fX s.fR.fW v) fun v1 =>
   bindO (screen_wraps false) fun v2 =>
   bindO (screen_onRow s ([v1,v2]:List FV)) fun v3 =>
   some (T_screen_Screen.mk v3.fG (T_cursor_Cursor.mk v3.fC.fX v3.fC.fY false v3.fC.fOrigin v3.fC.fPen v3.fC.fSet) v3.fR v3.fT v3.fK v3.fDir v3.fExplicit))
  (iteO (kind == 1)
   (chk (inR .i64 (s.fC.fX+1)) <|
    bindO (screen_erased 0 (s.fC.fX+1) v) fun v4 =>
    bindO (screen_onRow s ([v4]:List FV)) fun v5 =>
    some (T_screen_Screen.mk v5.fG (T_cursor_Cursor.mk v5.fC.fX v5.fC.fY false v5.fC.fOrigin v5.fC.fPen v5.fC.fSet) v5.fR v5.fT v5.fK v5.fDir v5.fExplicit))
   (iteO (kind == 2)
    (bindO (screen_erased 0 s.fR.fW v) fun v6 =>
     bindO (screen_wraps false) fun v2 =>
     bindO (screen_onRow s ([v6,v2]:List FV)) fun v7 =>
     some (T_screen_Screen.mk v7.fG (T_cursor_Cursor.mk v7.fC.fX v7.fC.fY false v7.fC.fOrigin v7.fC.fPen v7.fC.fSet) v7.fR v7.fT v7.fK v7.fDir v7.fExplicit))
    (some s)))
noncomputable def grid_Clear (g':T_grid_Grid) (from':Int) (to:Int) (p':T_api_Pen):Option T_grid_Grid :=
 bindO (grid_usable g' p') fun v =>
 iteO (!v)
  (some g')
  (let h':=(lenL g'.fRows)
   let from'1:=(imaxI 0 (iminI from' h'))
   let to1:=(imaxI 0 (iminI to h'))
   bindO (grid_rows g') fun v1 =>
   chk (0≤from'1∧from'1≤(imaxI from'1 to1)∧(imaxI from'1 to1)≤(lenL v1)) <|
   chk ((0:Int)≤0∧(0:Int) < (lenL g'.fRows)) <|
   bindO (grid_lay v1 (0+from'1) ((imaxI from'1 to1)-from'1) (lenL (getL d_api_Row g'.fRows 0).fCells) p') fun v2 =>
   chk (lenL v2=lenL v1) <|
   some (T_grid_Grid.mk v2))
noncomputable def screen_Erase (s:T_screen_Screen) (kind:Int):Option T_screen_Screen :=
 bindO (screen_Sane s) fun v =>
 iteO (!v)
  (some s)
  (bindO (screen_ground s) fun v1 =>
   iteO (kind == 0)
    (bindO (screen_eraseLine s 0) fun v2 =>
     chk (inR .i64 (v2.fC.fY+1)) <|
     bindO (grid_Clear v2.fG (v2.fC.fY+1) v2.fR.fH v1) fun v3 =>
     some (T_screen_Screen.mk v3 (T_cursor_Cursor.mk v2.fC.fX v2.fC.fY false v2.fC.fOrigin v2.fC.fPen v2.fC.fSet) v2.fR v2.fT v2.fK v2.fDir v2.fExplicit))
    (iteO (kind == 1)
     (bindO (screen_eraseLine s 1) fun v4 =>
      bindO (grid_Clear v4.fG 0 v4.fC.fY v1) fun v5 =>
      some (T_screen_Screen.mk v5 (T_cursor_Cursor.mk v4.fC.fX v4.fC.fY false v4.fC.fOrigin v4.fC.fPen v4.fC.fSet) v4.fR v4.fT v4.fK v4.fDir v4.fExplicit))
     (iteO (kind == 2)
      (bindO (grid_Clear s.fG 0 s.fR.fH v1) fun v6 =>
       some (T_screen_Screen.mk v6 (T_cursor_Cursor.mk s.fC.fX s.fC.fY false s.fC.fOrigin s.fC.fPen s.fC.fSet) s.fR s.fT s.fK s.fDir s.fExplicit))
      (iteO (kind == 3)
       (bindO (history_New s.fK.fCap) fun v7 =>
        some (T_screen_Screen.mk s.fG (T_cursor_Cursor.mk s.fC.fX s.fC.fY false s.fC.fOrigin s.fC.fPen s.fC.fSet) s.fR s.fT v7 s.fDir s.fExplicit))
       (some s)))))
noncomputable def screen_EraseLine (s:T_screen_Screen) (kind:Int):Option T_screen_Screen :=
 bindO (screen_Sane s) fun v =>
 iteO (!v)
  (some s)
  (bindO (screen_eraseLine s kind) fun v1 =>
   some v1)
noncomputable def cursor_In (c':T_cursor_Cursor) (r':T_cursor_Region):Option Bool :=
 bindO (cursor_Sane c' r') fun v =>
 bindO (if v=true then cursor_inside c' r' else some false) fun v1 =>
 some (if v=true then v1 else false)
noncomputable def grid_Down (g':T_grid_Grid) (top:Int) (bottom:Int) (n:Int) (p':T_api_Pen):Option T_grid_Grid :=
 bindO (grid_moves g' top bottom p') fun v =>
 iteO (!v)
  (some g')
  (chk (inR .i64 (bottom-top)) <|
   let n1:=(imaxI 0 (iminI n (bottom-top)))
   bindO (grid_rows g') fun v1 =>
   cutO (chk (inR .i64 (bottom-top)) <|
    chk (inR .i64 ((bottom-top)-n1)) <|
    loopO (fun ((v3,l'1):Int × List T_api_Row) =>
     iteO (decide (v3 < ((bottom-top)-n1)))
      (chk (inR .i64 (top+n1)) <|
       chk (inR .i64 ((top+n1)+v3)) <|
       chk (inR .i64 (top+v3)) <|
       chk (0≤(top+v3)∧(top+v3) < (lenL g'.fRows)) <|
       chk (0≤((top+n1)+v3)∧((top+n1)+v3) < (lenL v1)) <|
       chk (inR .i64 (v3+1)) <|
       some (.go ((v3+1),(setL l'1 ((top+n1)+v3) (getL d_api_Row g'.fRows (top+v3))))))
      (some (.out (.go l'1)))) (0,v1)) fun l' =>
   chk (inR .i64 (top+n1)) <|
   chk (0≤top∧top≤(top+n1)∧(top+n1)≤(lenL v1)) <|
   chk ((0:Int)≤0∧(0:Int) < (lenL g'.fRows)) <|
   bindO (grid_lay l' (0+top) ((top+n1)-top) (lenL (getL d_api_Row g'.fRows 0).fCells) p') fun v2 =>
   chk (lenL v2=lenL l') <|
   some (T_grid_Grid.mk v2))
noncomputable def screen_InsertRows (s:T_screen_Screen) (n:Int):Option T_screen_Screen :=
 bindO (screen_Sane s) fun v =>
 bindO (if (!(!v))=true then cursor_In s.fC s.fR else some false) fun v1 =>
 iteO (if (!v)=true then true else (!v1))
  (some s)
  (bindO (screen_ground s) fun v2 =>
   bindO (grid_Down s.fG s.fC.fY s.fR.fBottom (imaxI n 1) v2) fun v3 =>
   some (T_screen_Screen.mk v3 (T_cursor_Cursor.mk 0 s.fC.fY false s.fC.fOrigin s.fC.fPen s.fC.fSet) s.fR s.fT s.fK s.fDir s.fExplicit))
noncomputable def screen_DeleteRows (s:T_screen_Screen) (n:Int):Option T_screen_Screen :=
 bindO (screen_Sane s) fun v =>
 bindO (if (!(!v))=true then cursor_In s.fC s.fR else some false) fun v1 =>
 iteO (if (!v)=true then true else (!v1))
  (some s)
  (bindO (screen_ground s) fun v2 =>
   bindO (grid_Up s.fG s.fC.fY s.fR.fBottom (imaxI n 1) v2) fun v3 =>
   some (T_screen_Screen.mk v3.1 (T_cursor_Cursor.mk 0 s.fC.fY false s.fC.fOrigin s.fC.fPen s.fC.fSet) s.fR s.fT s.fK s.fDir s.fExplicit))
noncomputable def V_scrV (v:FV) (a0:T_screen_Screen) (a1:Int):Option T_screen_Screen:=match v with
 | .fn (.nil 174) c0=>interp_moving_1 a0 a1 c0
 | .nil 74=>screen_Tab a0 a1
 | .nil 99=>screen_Erase a0 a1
 | .nil 100=>screen_EraseLine a0 a1
 | .nil 101=>screen_InsertRows a0 a1
 | .nil 102=>screen_DeleteRows a0 a1
 | _=>none
noncomputable def interp_doing_1 (s:T_interp_State) (u:T_ucd_Data) (a:T_api_Action) (cap0:FV):Option T_interp_State :=
 bindO (interp_Active s) fun v =>
 bindO (interp_first a) fun v1 =>
 bindO (V_scrV cap0 v v1) fun v2 =>
 bindO (interp_with s v2) fun v3 =>
 some v3
noncomputable def interp_doing (f':FV):Option FV :=
 some (FV.fn (FV.nil 158) f')
noncomputable def interp_setting (f':FV):Option FV :=
 some (FV.fn (FV.nil 227) f')
noncomputable def interp_locking (at':Int) (right:Bool):Option FV :=
 bindO (interp_setting (FV.bool (FV.int (FV.nil 165) .i64 at') right)) fun v =>
 some v
noncomputable def interp_shifting (at':Int):Option FV :=
 bindO (interp_setting (FV.int (FV.nil 169) .i64 at')) fun v =>
 some v
noncomputable def interp_controls  : Option (List T_interp_line) :=
 bindO (interp_doing (FV.nil 71)) fun v =>
 bindO (interp_doing (FV.nil 73)) fun v1 =>
 bindO (interp_doing (FV.nil 76)) fun v2 =>
 bindO (interp_locking 1 false) fun v3 =>
 bindO (interp_locking 0 false) fun v4 =>
 bindO (interp_doing (FV.nil 79)) fun v5 =>
 bindO (interp_doing (FV.nil 80)) fun v6 =>
 bindO (interp_doing (FV.nil 82)) fun v7 =>
 bindO (interp_shifting 2) fun v8 =>
 bindO (interp_shifting 3) fun v9 =>
 some ([(T_interp_line.mk (⟨#[]⟩:ByteArray) 8 v),(T_interp_line.mk (⟨#[]⟩:ByteArray) 9 v1),(T_interp_line.mk (⟨#[]⟩:ByteArray) 10 (FV.nil 75)),(T_interp_line.mk (⟨#[]⟩:ByteArray) 11 (FV.nil 75)),(T_interp_line.mk (⟨#[]⟩:ByteArray) 12 (FV.nil 75)),(T_interp_line.mk (⟨#[]⟩:ByteArray) 13 v2),(T_interp_line.mk (⟨#[]⟩:ByteArray) 14 v3),(T_interp_line.mk (⟨#[]⟩:ByteArray) 15 v4),(T_interp_line.mk (⟨#[]⟩:ByteArray) 132 v5),(T_interp_line.mk (⟨#[]⟩:ByteArray) 133 v6),(T_interp_line.mk (⟨#[]⟩:ByteArray) 136 (FV.nil 81)),(T_interp_line.mk (⟨#[]⟩:ByteArray) 141 v7),(T_interp_line.mk (⟨#[]⟩:ByteArray) 142 v8),(T_interp_line.mk (⟨#[]⟩:ByteArray) 143 v9)]:List T_interp_line)
noncomputable def interp_find_1 (s:T_interp_State) (u:T_ucd_Data) (u1:T_api_Action):Option T_interp_State :=
 some s
noncomputable def interp_find (l':(List T_interp_line)) (inter:ByteArray) (final:Int):Option FV :=
 cutO (loopO (fun (v:Int) =>
  iteO (decide (v < (lenL l')))
   (chk (0≤v∧v < (lenL l')) <|
    iteO (if (seqS (getL d_interp_line l' v).finter inter)=true then ((getL d_interp_line l' v).ffinal == final) else false)
     (some (.out (.out (getL d_interp_line l' v).fdo)))
     (chk (inR .i64 (v+1)) <|
      some (.go (v+1))))
   (some (.out (.go ())))) 0) fun (_:Unit) =>
 some (FV.nil 69)
noncomputable def strings_IndexByte (s:ByteArray) (c':Int):Option Int :=
 bindO (stringslite_IndexByte s c') fun v =>
 some v
noncomputable def charset_Set (s:T_charset_State) (which:Int) (final:Int):Option T_charset_State :=
 bindO (charset_Sane s) fun v =>
 iteO (!v)
  (bindO (charset_New) fun v1 =>
   some v1)
  (bindO (charset_isPlace which) fun v2 =>
   bindO (if v2=true then charset_isSet final else some false) fun v3 =>
   iteO (if v2=true then v3 else false)
    (chk (0≤which∧which < (4:Int)) <|
     some (T_charset_State.mk (T_Arr4_u8.mk (if (which == 0)=true then final else s.fG.x0) (if ((!(which == 0)) && (which == 1))=true then final else s.fG.x1) (if (((!(which == 0)) && (!(which == 1))) && (which == 2))=true then final else s.fG.x2) (if (((!(which == 0)) && (!(which == 1))) && (!(which == 2)))=true then final else s.fG.x3)) s.fGL s.fGR s.fOnce))
    (some s))
noncomputable def interp_designate (s:T_interp_State) (at':Int) (final:Int):Option T_interp_State :=
 bindO (interp_Active s) fun v =>
 bindO (charset_Set v.fC.fSet at' final) fun v1 =>
 bindO (interp_with s (T_screen_Screen.mk v.fG (T_cursor_Cursor.mk v.fC.fX v.fC.fY v.fC.fWrap v.fC.fOrigin v.fC.fPen v1) v.fR v.fT v.fK v.fDir v.fExplicit)) fun v2 =>
 some v2
noncomputable def interp_which (s:T_interp_State):Option Int :=
 iteO s.fOn
  (some 1)
  (some 0)
noncomputable def interp_save (s:T_interp_State) (u:T_ucd_Data) (u1:T_api_Action):Option T_interp_State :=
 bindO (interp_which s) fun v =>
 bindO (interp_Active s) fun v1 =>
 chk (0≤v∧v < (2:Int)) <|
 some (T_interp_State.mk s.fMain s.fOther s.fOn s.fM (T_Arr2_cursor_Cursor.mk (T_cursor_Cursor.mk (if (v == 0)=true then v1.fC.fX else s.fSaved.x0.fX) (if (v == 0)=true then v1.fC.fY else s.fSaved.x0.fY) (if (v == 0)=true then v1.fC.fWrap else s.fSaved.x0.fWrap) (if (v == 0)=true then v1.fC.fOrigin else s.fSaved.x0.fOrigin) (T_api_Pen.mk (if (v == 0)=true then v1.fC.fPen.fFg else s.fSaved.x0.fPen.fFg) (if (v == 0)=true then v1.fC.fPen.fBg else s.fSaved.x0.fPen.fBg) (if (v == 0)=true then v1.fC.fPen.fFlags else s.fSaved.x0.fPen.fFlags)) (T_charset_State.mk (T_Arr4_u8.mk (if (v == 0)=true then v1.fC.fSet.fG.x0 else s.fSaved.x0.fSet.fG.x0) (if (v == 0)=true then v1.fC.fSet.fG.x1 else s.fSaved.x0.fSet.fG.x1) (if (v == 0)=true then v1.fC.fSet.fG.x2 else s.fSaved.x0.fSet.fG.x2) (if (v == 0)=true then v1.fC.fSet.fG.x3 else s.fSaved.x0.fSet.fG.x3)) (if (v == 0)=true then v1.fC.fSet.fGL else s.fSaved.x0.fSet.fGL) (if (v == 0)=true then v1.fC.fSet.fGR else s.fSaved.x0.fSet.fGR) (if (v == 0)=true then v1.fC.fSet.fOnce else s.fSaved.x0.fSet.fOnce))) (T_cursor_Cursor.mk (if (!(v == 0))=true then v1.fC.fX else s.fSaved.x1.fX) (if (!(v == 0))=true then v1.fC.fY else s.fSaved.x1.fY) (if (!(v == 0))=true then v1.fC.fWrap else s.fSaved.x1.fWrap) (if (!(v == 0))=true then v1.fC.fOrigin else s.fSaved.x1.fOrigin) (T_api_Pen.mk (if (!(v == 0))=true then v1.fC.fPen.fFg else s.fSaved.x1.fPen.fFg) (if (!(v == 0))=true then v1.fC.fPen.fBg else s.fSaved.x1.fPen.fBg) (if (!(v == 0))=true then v1.fC.fPen.fFlags else s.fSaved.x1.fPen.fFlags)) (T_charset_State.mk (T_Arr4_u8.mk (if (!(v == 0))=true then v1.fC.fSet.fG.x0 else s.fSaved.x1.fSet.fG.x0) (if (!(v == 0))=true then v1.fC.fSet.fG.x1 else s.fSaved.x1.fSet.fG.x1) (if (!(v == 0))=true then v1.fC.fSet.fG.x2 else s.fSaved.x1.fSet.fG.x2) (if (!(v == 0))=true then v1.fC.fSet.fG.x3 else s.fSaved.x1.fSet.fG.x3)) (if (!(v == 0))=true then v1.fC.fSet.fGL else s.fSaved.x1.fSet.fGL) (if (!(v == 0))=true then v1.fC.fSet.fGR else s.fSaved.x1.fSet.fGR) (if (!(v == 0))=true then v1.fC.fSet.fOnce else s.fSaved.x1.fSet.fOnce)))) s.fOut s.fTitle s.fLast)
noncomputable def interp_restore (s:T_interp_State) (u:T_ucd_Data) (u1:T_api_Action):Option T_interp_State :=
 bindO (interp_Active s) fun v =>
 bindO (interp_which s) fun v1 =>
 chk (0≤v1∧v1 < (2:Int)) <|
 cutO (iteO (if (decide ((if (v1 == 0)=true then s.fSaved.x0.fY else s.fSaved.x1.fY) < v.fR.fTop))=true then true else (decide (v.fR.fBottom≤(if (v1 == 0)=true then s.fSaved.x0.fY else s.fSaved.x1.fY))))
  (some (.go (T_screen_Screen.mk v.fG (T_cursor_Cursor.mk (if (v1 == 0)=true then s.fSaved.x0.fX else s.fSaved.x1.fX) (if (v1 == 0)=true then s.fSaved.x0.fY else s.fSaved.x1.fY) (if (v1 == 0)=true then s.fSaved.x0.fWrap else s.fSaved.x1.fWrap) false (T_api_Pen.mk (if (v1 == 0)=true then s.fSaved.x0.fPen.fFg else s.fSaved.x1.fPen.fFg) (if (v1 == 0)=true then s.fSaved.x0.fPen.fBg else s.fSaved.x1.fPen.fBg) (if (v1 == 0)=true then s.fSaved.x0.fPen.fFlags else s.fSaved.x1.fPen.fFlags)) (T_charset_State.mk (T_Arr4_u8.mk (if (v1 == 0)=true then s.fSaved.x0.fSet.fG.x0 else s.fSaved.x1.fSet.fG.x0) (if (v1 == 0)=true then s.fSaved.x0.fSet.fG.x1 else s.fSaved.x1.fSet.fG.x1) (if (v1 == 0)=true then s.fSaved.x0.fSet.fG.x2 else s.fSaved.x1.fSet.fG.x2) (if (v1 == 0)=true then s.fSaved.x0.fSet.fG.x3 else s.fSaved.x1.fSet.fG.x3)) (if (v1 == 0)=true then s.fSaved.x0.fSet.fGL else s.fSaved.x1.fSet.fGL) (if (v1 == 0)=true then s.fSaved.x0.fSet.fGR else s.fSaved.x1.fSet.fGR) (if (v1 == 0)=true then s.fSaved.x0.fSet.fOnce else s.fSaved.x1.fSet.fOnce))) v.fR v.fT v.fK v.fDir v.fExplicit)))
  (some (.go (T_screen_Screen.mk v.fG (T_cursor_Cursor.mk (if (v1 == 0)=true then s.fSaved.x0.fX else s.fSaved.x1.fX) (if (v1 == 0)=true then s.fSaved.x0.fY else s.fSaved.x1.fY) (if (v1 == 0)=true then s.fSaved.x0.fWrap else s.fSaved.x1.fWrap) (if (v1 == 0)=true then s.fSaved.x0.fOrigin else s.fSaved.x1.fOrigin) (T_api_Pen.mk (if (v1 == 0)=true then s.fSaved.x0.fPen.fFg else s.fSaved.x1.fPen.fFg) (if (v1 == 0)=true then s.fSaved.x0.fPen.fBg else s.fSaved.x1.fPen.fBg) (if (v1 == 0)=true then s.fSaved.x0.fPen.fFlags else s.fSaved.x1.fPen.fFlags)) (T_charset_State.mk (T_Arr4_u8.mk (if (v1 == 0)=true then s.fSaved.x0.fSet.fG.x0 else s.fSaved.x1.fSet.fG.x0) (if (v1 == 0)=true then s.fSaved.x0.fSet.fG.x1 else s.fSaved.x1.fSet.fG.x1) (if (v1 == 0)=true then s.fSaved.x0.fSet.fG.x2 else s.fSaved.x1.fSet.fG.x2) (if (v1 == 0)=true then s.fSaved.x0.fSet.fG.x3 else s.fSaved.x1.fSet.fG.x3)) (if (v1 == 0)=true then s.fSaved.x0.fSet.fGL else s.fSaved.x1.fSet.fGL) (if (v1 == 0)=true then s.fSaved.x0.fSet.fGR else s.fSaved.x1.fSet.fGR) (if (v1 == 0)=true then s.fSaved.x0.fSet.fOnce else s.fSaved.x1.fSet.fOnce))) v.fR v.fT v.fK v.fDir v.fExplicit)))) fun x' =>
 bindO (interp_with s x') fun v2 =>
 some v2
noncomputable def interp_escapes  : Option (List T_interp_line) :=
 bindO (interp_doing (FV.nil 79)) fun v =>
 bindO (interp_doing (FV.nil 80)) fun v1 =>
 bindO (interp_doing (FV.nil 82)) fun v2 =>
 bindO (interp_locking 2 false) fun v3 =>
 bindO (interp_locking 3 false) fun v4 =>
 bindO (interp_locking 1 true) fun v5 =>
 bindO (interp_locking 2 true) fun v6 =>
 bindO (interp_locking 3 true) fun v7 =>
 bindO (interp_shifting 2) fun v8 =>
 bindO (interp_shifting 3) fun v9 =>
 some ([(T_interp_line.mk (⟨#[]⟩:ByteArray) 55 (FV.nil 86)),(T_interp_line.mk (⟨#[]⟩:ByteArray) 56 (FV.nil 87)),(T_interp_line.mk (⟨#[]⟩:ByteArray) 68 v),(T_interp_line.mk (⟨#[]⟩:ByteArray) 69 v1),(T_interp_line.mk (⟨#[]⟩:ByteArray) 77 v2),(T_interp_line.mk (⟨#[]⟩:ByteArray) 72 (FV.nil 81)),(T_interp_line.mk (⟨#[]⟩:ByteArray) 99 (FV.nil 88)),(T_interp_line.mk (⟨#[]⟩:ByteArray) 110 v3),(T_interp_line.mk (⟨#[]⟩:ByteArray) 111 v4),(T_interp_line.mk (⟨#[]⟩:ByteArray) 126 v5),(T_interp_line.mk (⟨#[]⟩:ByteArray) 125 v6),(T_interp_line.mk (⟨#[]⟩:ByteArray) 124 v7),(T_interp_line.mk (⟨#[]⟩:ByteArray) 78 v8),(T_interp_line.mk (⟨#[]⟩:ByteArray) 79 v9),(T_interp_line.mk (⟨#[35]⟩:ByteArray) 56 (FV.nil 89))]:List T_interp_line)
noncomputable def interp_moving (f':FV):Option FV :=
 bindO (interp_doing (FV.fn (FV.nil 174) f')) fun v =>
 some v
noncomputable def interp_going (dy:Int) (dx:Int) (begin:Bool):Option FV :=
 bindO (interp_moving (FV.bool (FV.int (FV.int (FV.nil 175) .i64 dy) .i64 dx) begin)) fun v =>
 some v
noncomputable def cursor_To (c':T_cursor_Cursor) (r':T_cursor_Region) (y':Int) (x':Int):Option T_cursor_Cursor :=
 bindO (cursor_Sane c' r') fun v =>
 iteO (!v)
  (some c')
  (cutO (iteO c'.fOrigin
    (chk (inR .i64 (r'.fBottom-1)) <|
     bindO (cursor_further r'.fTop y' r'.fTop (r'.fBottom-1)) fun v2 =>
     some (.go (T_cursor_Cursor.mk c'.fX v2 c'.fWrap c'.fOrigin c'.fPen c'.fSet)))
    (chk (inR .i64 (r'.fH-1)) <|
     bindO (cursor_between y' 0 (r'.fH-1)) fun v3 =>
     some (.go (T_cursor_Cursor.mk c'.fX v3 c'.fWrap c'.fOrigin c'.fPen c'.fSet)))) fun c'1 =>
   chk (inR .i64 (r'.fW-1)) <|
   bindO (cursor_between x' 0 (r'.fW-1)) fun v1 =>
   some (T_cursor_Cursor.mk v1 c'1.fY false c'1.fOrigin c'1.fPen c'1.fSet))
noncomputable def interp_place (s:T_interp_State) (u:T_ucd_Data) (a:T_api_Action):Option T_interp_State :=
 bindO (interp_Active s) fun v =>
 bindO (params_Count a.fParams 1 1 1 5000) fun v1 =>
 bindO (interp_first a) fun v2 =>
 chk (inR .i64 (v2-1)) <|
 chk (inR .i64 (v1-1)) <|
 bindO (cursor_To v.fC v.fR (v2-1) (v1-1)) fun v3 =>
 bindO (interp_with s (T_screen_Screen.mk v.fG v3 v.fR v.fT v.fK v.fDir v.fExplicit)) fun v4 =>
 some v4
noncomputable def interp_kind (a:T_api_Action):Option Int :=
 bindO (params_Get a.fParams 0 0) fun v =>
 some v
noncomputable def interp_choosing_1 (s:T_interp_State) (u:T_ucd_Data) (a:T_api_Action) (cap0:FV):Option T_interp_State :=
 bindO (interp_Active s) fun v =>
 bindO (interp_kind a) fun v1 =>
 bindO (V_scrV cap0 v v1) fun v2 =>
 bindO (interp_with s v2) fun v3 =>
 some v3
noncomputable def interp_choosing (f':FV):Option FV :=
 some (FV.fn (FV.nil 177) f')
noncomputable def interp_switching (on:Bool):Option FV :=
 some (FV.bool (FV.nil 193) on)
noncomputable def interp_answer (s:T_interp_State) (t':ByteArray):Option T_interp_State :=
 cutO (chk (inR .i64 ((lenL s.fOut)+(slenS t'))) <|
  iteO (decide (4096 < ((lenL s.fOut)+(slenS t'))))
   (some (.out s))
   (chk (inR .i64 ((lenL s.fOut)+(slenS t'))) <|
    chk (makeOk 1 0 ((lenL s.fOut)+(slenS t'))) <|
    chk (growOk 1 (0+(lenL s.fOut))) <|
    some (.go ((repL 0 0)++s.fOut)))) fun out =>
 chk (growOk 1 ((lenL out)+(slenS t'))) <|
 some (T_interp_State.mk s.fMain s.fOther s.fOn s.fM s.fSaved (out++(bytesL t')) s.fTitle s.fLast)
noncomputable def cursor_Report (c':T_cursor_Cursor) (r':T_cursor_Region):Option (Int × Int) :=
 bindO (cursor_Sane c' r') fun v =>
 iteO (!v)
  (some (0,0))
  (let y':=c'.fY
   iteO c'.fOrigin
    (chk (inR .i64 (y'-r'.fTop)) <|
     let y'1:=(y'-r'.fTop)
     chk (inR .i64 (y'1+1)) <|
     chk (inR .i64 (c'.fX+1)) <|
     some ((y'1+1),(c'.fX+1)))
    (chk (inR .i64 (y'+1)) <|
     chk (inR .i64 (c'.fX+1)) <|
     some ((y'+1),(c'.fX+1))))
noncomputable def istrconv_small (i:Int):Option ByteArray :=
 iteO (decide (i < 10))
  (chk (inR .i64 (i+1)) <|
   chk (0≤i∧i≤(i+1)∧(i+1)≤(slenS kS7)) <|
   some (ssubS kS7 i (i+1)))
  (chk (inR .i64 (i*2)) <|
   chk (inR .i64 (i*2)) <|
   chk (inR .i64 ((i*2)+2)) <|
   chk (0≤(i*2)∧(i*2)≤((i*2)+2)∧((i*2)+2)≤(slenS kS8)) <|
   some (ssubS kS8 (i*2) ((i*2)+2)))
noncomputable def istrconv_FormatInt (i:Int) (base:Int):Option ByteArray :=
 cutO (iteO (base == 10)
  (iteO (if (decide (0≤i))=true then (decide (i < 100)) else false)
   (bindO (istrconv_small i) fun v =>
    some (.out v))
   (let u1:=(IntKind.wrap .u64 i)
    cutO (iteO (decide (i < 0))
     (chk (inR .u64 (0-u1)) <|
      let u4:=(0-u1)
      some (.go u4))
     (some (.go u1))) fun u2 =>
    none))
  (some (.go ()))) fun (_:Unit) =>
 none
noncomputable def istrconv_Itoa (i:Int):Option ByteArray :=
 bindO (istrconv_FormatInt i 10) fun v =>
 some v
noncomputable def strconv_Itoa (i:Int):Option ByteArray :=
 bindO (istrconv_Itoa i) fun v =>
 some v
noncomputable def interp_where (s:T_interp_State):Option ByteArray :=
 bindO (interp_Active s) fun v =>
 bindO (cursor_Report v.fC v.fR) fun v1 =>
 let y':=v1.1
 let at':=v1.2
 bindO (strconv_Itoa y') fun v2 =>
 chk (inR .i64 (slenS v2+slenS (⟨#[59]⟩:ByteArray))) <|
 bindO (strconv_Itoa at') fun v3 =>
 chk (inR .i64 (slenS (scatS v2 (⟨#[59]⟩:ByteArray))+slenS v3)) <|
 chk (inR .i64 (slenS (scatS (scatS v2 (⟨#[59]⟩:ByteArray)) v3)+slenS (⟨#[82]⟩:ByteArray))) <|
 some (scatS (scatS (scatS v2 (⟨#[59]⟩:ByteArray)) v3) (⟨#[82]⟩:ByteArray))
noncomputable def interp_status (s:T_interp_State) (u:T_ucd_Data) (a:T_api_Action):Option T_interp_State :=
 bindO (interp_kind a) fun v =>
 iteO (v == 5)
  (bindO (interp_answer s (⟨#[27,91,48,110]⟩:ByteArray)) fun v1 =>
   some v1)
  (iteO (v == 6)
   (bindO (interp_where s) fun v2 =>
    chk (inR .i64 (slenS (⟨#[27,91]⟩:ByteArray)+slenS v2)) <|
    bindO (interp_answer s (scatS (⟨#[27,91]⟩:ByteArray) v2)) fun v3 =>
    some v3)
   (some s))
noncomputable def interp_saying (k':Int) (text:FV):Option FV :=
 some (FV.fn (FV.int (FV.nil 197) .i64 k') text)
noncomputable def interp_sequences  : Option (List T_interp_line) :=
 bindO (interp_moving (FV.nil 91)) fun v =>
 bindO (interp_going (-1) 0 false) fun v1 =>
 bindO (interp_going 1 0 false) fun v2 =>
 bindO (interp_going 0 1 false) fun v3 =>
 bindO (interp_going 0 (-1) false) fun v4 =>
 bindO (interp_going 0 1 false) fun v3 =>
 bindO (interp_going 1 0 false) fun v2 =>
 bindO (interp_going 1 0 true) fun v5 =>
 bindO (interp_going (-1) 0 true) fun v6 =>
 bindO (interp_moving (FV.nil 94)) fun v7 =>
 bindO (interp_doing (FV.nil 74)) fun v8 =>
 bindO (interp_doing (FV.nil 97)) fun v9 =>
 bindO (interp_choosing (FV.nil 99)) fun v10 =>
 bindO (interp_choosing (FV.nil 100)) fun v11 =>
 bindO (interp_doing (FV.nil 101)) fun v12 =>
 bindO (interp_doing (FV.nil 102)) fun v13 =>
 bindO (interp_doing (FV.nil 103)) fun v14 =>
 bindO (interp_doing (FV.nil 104)) fun v15 =>
 bindO (interp_doing (FV.nil 105)) fun v16 =>
 bindO (interp_doing (FV.nil 106)) fun v17 =>
 bindO (interp_doing (FV.nil 107)) fun v18 =>
 bindO (interp_choosing (FV.nil 109)) fun v19 =>
 bindO (interp_switching true) fun v20 =>
 bindO (interp_switching false) fun v21 =>
 bindO (interp_saying 0 (FV.nil 115)) fun v22 =>
 some ([(T_interp_line.mk (⟨#[]⟩:ByteArray) 65 v1),(T_interp_line.mk (⟨#[]⟩:ByteArray) 66 v2),(T_interp_line.mk (⟨#[]⟩:ByteArray) 67 v3),(T_interp_line.mk (⟨#[]⟩:ByteArray) 68 v4),(T_interp_line.mk (⟨#[]⟩:ByteArray) 97 v3),(T_interp_line.mk (⟨#[]⟩:ByteArray) 101 v2),(T_interp_line.mk (⟨#[]⟩:ByteArray) 69 v5),(T_interp_line.mk (⟨#[]⟩:ByteArray) 70 v6),(T_interp_line.mk (⟨#[]⟩:ByteArray) 71 v),(T_interp_line.mk (⟨#[]⟩:ByteArray) 96 v),(T_interp_line.mk (⟨#[]⟩:ByteArray) 100 v7),(T_interp_line.mk (⟨#[]⟩:ByteArray) 72 (FV.nil 96)),(T_interp_line.mk (⟨#[]⟩:ByteArray) 102 (FV.nil 96)),(T_interp_line.mk (⟨#[]⟩:ByteArray) 73 v8),(T_interp_line.mk (⟨#[]⟩:ByteArray) 90 v9),(T_interp_line.mk (⟨#[]⟩:ByteArray) 74 v10),(T_interp_line.mk (⟨#[]⟩:ByteArray) 75 v11),(T_interp_line.mk (⟨#[]⟩:ByteArray) 76 v12),(T_interp_line.mk (⟨#[]⟩:ByteArray) 77 v13),(T_interp_line.mk (⟨#[]⟩:ByteArray) 64 v14),(T_interp_line.mk (⟨#[]⟩:ByteArray) 80 v15),(T_interp_line.mk (⟨#[]⟩:ByteArray) 88 v16),(T_interp_line.mk (⟨#[]⟩:ByteArray) 83 v17),(T_interp_line.mk (⟨#[]⟩:ByteArray) 84 v18),(T_interp_line.mk (⟨#[]⟩:ByteArray) 98 (FV.nil 108)),(T_interp_line.mk (⟨#[]⟩:ByteArray) 103 v19),(T_interp_line.mk (⟨#[]⟩:ByteArray) 109 (FV.nil 110)),(T_interp_line.mk (⟨#[]⟩:ByteArray) 114 (FV.nil 111)),(T_interp_line.mk (⟨#[]⟩:ByteArray) 115 (FV.nil 86)),(T_interp_line.mk (⟨#[]⟩:ByteArray) 117 (FV.nil 87)),(T_interp_line.mk (⟨#[]⟩:ByteArray) 104 v20),(T_interp_line.mk (⟨#[]⟩:ByteArray) 108 v21),(T_interp_line.mk (⟨#[]⟩:ByteArray) 110 (FV.nil 113)),(T_interp_line.mk (⟨#[]⟩:ByteArray) 99 v22)]:List T_interp_line)
noncomputable def modes_Set (m:T_modes_Modes) (private':Bool) (n:Int) (on:Bool):Option T_modes_Modes :=
 bindO (modes_Sane m) fun v =>
 iteO (!v)
  (bindO (modes_New) fun v1 =>
   some v1)
  (bindO (modes_Place private' n) fun v2 =>
   iteO (decide (v2 < 0))
    (some m)
    (chk ((0:Int)≤v2) <|
     let bit:=(shlI .i64 1 v2)
     iteO (!on)
      (some (T_modes_Modes.mk (bandnI .i64 m.fBits bit)))
      (let bits:=m.fBits
       iteO (!((bndI .i64 bit 28800) == 0))
        (let bits1:=(bandnI .i64 bits 28800)
         iteO (!((bndI .i64 bit 196608) == 0))
          (let bits2:=(bandnI .i64 bits1 196608)
           some (T_modes_Modes.mk (borI .i64 bits2 bit)))
          (some (T_modes_Modes.mk (borI .i64 bits1 bit))))
        (iteO (!((bndI .i64 bit 196608) == 0))
         (let bits3:=(bandnI .i64 bits 196608)
          some (T_modes_Modes.mk (borI .i64 bits3 bit)))
         (some (T_modes_Modes.mk (borI .i64 bits bit)))))))
noncomputable def interp_home (x':T_screen_Screen):Option T_screen_Screen :=
 iteO x'.fC.fOrigin
  (some (T_screen_Screen.mk x'.fG (T_cursor_Cursor.mk 0 x'.fR.fTop false x'.fC.fOrigin x'.fC.fPen x'.fC.fSet) x'.fR x'.fT x'.fK x'.fDir x'.fExplicit))
  (some (T_screen_Screen.mk x'.fG (T_cursor_Cursor.mk 0 0 false x'.fC.fOrigin x'.fC.fPen x'.fC.fSet) x'.fR x'.fT x'.fK x'.fDir x'.fExplicit))
noncomputable def interp_besides (s:T_interp_State) (d':T_ucd_Data) (a:T_api_Action) (n:Int) (on:Bool):Option T_interp_State :=
 iteO (n == 6)
  (bindO (interp_Active s) fun v =>
   bindO (interp_home (T_screen_Screen.mk v.fG (T_cursor_Cursor.mk v.fC.fX v.fC.fY v.fC.fWrap on v.fC.fPen v.fC.fSet) v.fR v.fT v.fK v.fDir v.fExplicit)) fun v1 =>
   bindO (interp_with s v1) fun v2 =>
   some v2)
  (iteO (n == 47)
   (some (T_interp_State.mk s.fMain s.fOther on s.fM s.fSaved s.fOut s.fTitle s.fLast))
   (iteO (n == 1047)
    (iteO (if s.fOn=true then (!on) else false)
     (bindO (screen_Erase s.fOther 2) fun v3 =>
      some (T_interp_State.mk s.fMain v3 on s.fM s.fSaved s.fOut s.fTitle s.fLast))
     (some (T_interp_State.mk s.fMain s.fOther on s.fM s.fSaved s.fOut s.fTitle s.fLast)))
    (iteO (n == 1048)
     (iteO on
      (bindO (interp_save s d' a) fun v4 =>
       some v4)
      (bindO (interp_restore s d' a) fun v5 =>
       some v5))
     (iteO (n == 1049)
      (iteO (!on)
       (bindO (interp_restore (T_interp_State.mk s.fMain s.fOther false s.fM s.fSaved s.fOut s.fTitle s.fLast) d' a) fun v6 =>
        some v6)
       (bindO (interp_save s d' a) fun v4 =>
        bindO (screen_Erase v4.fOther 2) fun v7 =>
        some (T_interp_State.mk v4.fMain v7 true v4.fM v4.fSaved v4.fOut v4.fTitle v4.fLast)))
      (some s)))))
noncomputable def interp_privately_1 (s:T_interp_State) (d':T_ucd_Data) (a:T_api_Action) (cap0:Bool):Option T_interp_State :=
 cutO (loopO (fun ((v1,s2):Int × T_interp_State) =>
  iteO (decide (v1 < (lenL a.fParams)))
   (bindO (params_Get a.fParams v1 0) fun v2 =>
    bindO (modes_Set s2.fM true v2 cap0) fun v3 =>
    bindO (interp_besides (T_interp_State.mk s2.fMain s2.fOther s2.fOn v3 s2.fSaved s2.fOut s2.fTitle s2.fLast) d' a v2 cap0) fun v4 =>
    chk (inR .i64 (v1+1)) <|
    some (.go ((v1+1),v4)))
   (some (.out (.go s2)))) (0,s)) fun s1 =>
 bindO (interp_explicit s1) fun v =>
 some v
noncomputable def interp_privately (on:Bool):Option FV :=
 some (FV.bool (FV.nil 198) on)
noncomputable def interp_reporting (private':Bool) (mark:ByteArray):Option FV :=
 some (FV.str (FV.bool (FV.nil 201) private') mark)
noncomputable def interp_others  : Option (List T_interp_line) :=
 bindO (interp_privately true) fun v =>
 bindO (interp_privately false) fun v1 =>
 bindO (interp_choosing (FV.nil 99)) fun v2 =>
 bindO (interp_choosing (FV.nil 100)) fun v3 =>
 bindO (interp_saying 6 (FV.nil 117)) fun v4 =>
 bindO (interp_reporting true (⟨#[63]⟩:ByteArray)) fun v5 =>
 bindO (interp_reporting false (⟨#[]⟩:ByteArray)) fun v6 =>
 bindO (interp_saying 0 (FV.nil 120)) fun v7 =>
 some ([(T_interp_line.mk (⟨#[63]⟩:ByteArray) 104 v),(T_interp_line.mk (⟨#[63]⟩:ByteArray) 108 v1),(T_interp_line.mk (⟨#[63]⟩:ByteArray) 74 v2),(T_interp_line.mk (⟨#[63]⟩:ByteArray) 75 v3),(T_interp_line.mk (⟨#[63]⟩:ByteArray) 110 v4),(T_interp_line.mk (⟨#[63,36]⟩:ByteArray) 112 v5),(T_interp_line.mk (⟨#[36]⟩:ByteArray) 112 v6),(T_interp_line.mk (⟨#[62]⟩:ByteArray) 99 v7),(T_interp_line.mk (⟨#[33]⟩:ByteArray) 112 (FV.nil 121)),(T_interp_line.mk (⟨#[32]⟩:ByteArray) 107 (FV.nil 122))]:List T_interp_line)
noncomputable def stringslite_HasPrefix (s:ByteArray) (prefix':ByteArray):Option Bool :=
 chk ((decide ((slenS prefix')≤(slenS s)))=true→(0:Int)≤0∧(0:Int)≤(slenS prefix')∧(slenS prefix')≤(slenS s)) <|
 some (if (decide ((slenS prefix')≤(slenS s)))=true then (seqS (ssubS s 0 (slenS prefix')) prefix') else false)
noncomputable def strings_HasPrefix (s:ByteArray) (prefix':ByteArray):Option Bool :=
 bindO (stringslite_HasPrefix s prefix') fun v =>
 some v
noncomputable def interp_title (s:T_interp_State) (t':ByteArray):Option T_interp_State :=
 bindO (strings_HasPrefix t' (⟨#[48,59]⟩:ByteArray)) fun v =>
 bindO (if (!v)=true then strings_HasPrefix t' (⟨#[50,59]⟩:ByteArray) else some false) fun v1 =>
 iteO (if (!v)=true then (!v1) else false)
  (some s)
  (chk ((0:Int)≤2∧(2:Int)≤(slenS t')∧(slenS t')≤(slenS t')) <|
   let t'1:=(ssubS t' 2 (slenS t'))
   chk ((0:Int)≤0∧(0:Int)≤(iminI (slenS t'1) 1024)∧(iminI (slenS t'1) 1024)≤(slenS t'1)) <|
   some (T_interp_State.mk s.fMain s.fOther s.fOn s.fM s.fSaved s.fOut (ssubS t'1 0 (iminI (slenS t'1) 1024)) s.fLast))
noncomputable def V_deedV (v:FV) (a0:T_interp_State) (a1:T_ucd_Data) (a2:T_api_Action):Option T_interp_State:=match v with
 | .nil 69=>interp_find_1 a0 a1 a2
 | .fn (.nil 158) c0=>interp_doing_1 a0 a1 a2 c0
 | .fn (.nil 177) c0=>interp_choosing_1 a0 a1 a2 c0
 | .bool (.nil 198) c0=>interp_privately_1 a0 a1 a2 c0
 | .nil 86=>interp_save a0 a1 a2
 | .nil 87=>interp_restore a0 a1 a2
 | .nil 96=>interp_place a0 a1 a2
 | .nil 113=>interp_status a0 a1 a2
 | _=>none
noncomputable def interp_Do (s:T_interp_State) (d':T_ucd_Data) (a:T_api_Action):Option T_interp_State :=
 cutO (bindO (interp_Sane s) fun v19 =>
  iteO (!v19)
   (some (.out s))
   (some (.go ()))) fun (_:Unit) =>
 cutO (iteO (a.fWhat == 1)
  (bindO (interp_Active s) fun v =>
   bindO (charset_Map v.fC.fSet a.fR) fun v1 =>
   let r':=v1.2
   bindO (interp_with s (T_screen_Screen.mk v.fG (T_cursor_Cursor.mk v.fC.fX v.fC.fY v.fC.fWrap v.fC.fOrigin v.fC.fPen v1.1) v.fR v.fT v.fK v.fDir v.fExplicit)) fun v2 =>
   bindO (interp_letter v2 d' r') fun v3 =>
   some (.out v3))
  (iteO (a.fWhat == 2)
   (bindO (interp_controls) fun v4 =>
    bindO (interp_find v4 (⟨#[]⟩:ByteArray) a.fFinal) fun v5 =>
    bindO (V_deedV v5 s d' a) fun v6 =>
    some (.out v6))
   (iteO (a.fWhat == 3)
    (cutO (iteO ((slenS a.fInter) == 1)
      (chk ((0:Int)≤0∧(0:Int) < (slenS a.fInter)) <|
       bindO (strings_IndexByte (⟨#[40,41,42,43]⟩:ByteArray) (sidxS a.fInter 0)) fun v10 =>
       iteO (decide (0≤v10))
        (bindO (interp_designate s v10 a.fFinal) fun v11 =>
         some (.out (.out v11)))
        (some (.go ())))
      (some (.go ()))) fun (_:Unit) =>
     bindO (interp_escapes) fun v7 =>
     bindO (interp_find v7 a.fInter a.fFinal) fun v8 =>
     bindO (V_deedV v8 s d' a) fun v9 =>
     some (.out v9))
    (iteO (a.fWhat == 4)
     (cutO (iteO (seqS a.fInter (⟨#[]⟩:ByteArray))
       (bindO (interp_sequences) fun v15 =>
        bindO (interp_find v15 (⟨#[]⟩:ByteArray) a.fFinal) fun v16 =>
        bindO (V_deedV v16 s d' a) fun v17 =>
        some (.out (.out v17)))
       (some (.go ()))) fun (_:Unit) =>
      bindO (interp_others) fun v12 =>
      bindO (interp_find v12 a.fInter a.fFinal) fun v13 =>
      bindO (V_deedV v13 s d' a) fun v14 =>
      some (.out v14))
     (iteO (a.fWhat == 5)
      (bindO (interp_title s a.fText) fun v18 =>
       some (.out v18))
      (some (.go ()))))))) fun (_:Unit) =>
 some s
noncomputable def interp_Drain (s:T_interp_State):Option (T_interp_State × (List Int)) :=
 bindO (interp_Sane s) fun v =>
 iteO (!v)
  (some (s,([]:List Int)))
  (some ((T_interp_State.mk s.fMain s.fOther s.fOn s.fM s.fSaved ([]:List Int) s.fTitle s.fLast),s.fOut))
def params_Print (l:List (List Int)):Option ByteArray:=if lenL l=0 then some ByteArray.empty else none
noncomputable def lapwinglaw16_awake  : Option Bool :=
 bindO (interp_New 3 9 5) fun v =>
 bindO (ucd_Load) fun v1 =>
 bindO (lapwinglaw16_ask (⟨#[]⟩:ByteArray) ([([6]:List Int)]:List (List Int)) 110) fun v2 =>
 bindO (interp_Do v v1 v2) fun v3 =>
 bindO (interp_Drain v3) fun v4 =>
 bindO (if (if (seqS (strL v4.2) (⟨#[27,91,49,59,49,82]⟩:ByteArray))=true then ((lenL v4.1.fOut) == 0) else false)=true then interp_Sane v4.1 else some false) fun v5 =>
 bindO (if (if (if (seqS (strL v4.2) (⟨#[27,91,49,59,49,82]⟩:ByteArray))=true then ((lenL v4.1.fOut) == 0) else false)=true then v5 else false)=true then params_Print ([]:List (List Int)) else some ByteArray.empty) fun v6 =>
 some (if (if (if (seqS (strL v4.2) (⟨#[27,91,49,59,49,82]⟩:ByteArray))=true then ((lenL v4.1.fOut) == 0) else false)=true then v5 else false)=true then ((slenS v6) == 0) else false)
noncomputable def lapwingref16_short (l':(List T_api_Row)):Option Bool :=
 iteO (decide (20 < (lenL l')))
  (some false)
  (cutO (loopO (fun (i:Int) =>
    iteO (decide (i < (lenL l')))
     (chk (0≤i∧i < (lenL l')) <|
      iteO (decide (40 < (lenL (getL d_api_Row l' i).fCells)))
       (some (.out (.out false)))
       (chk (inR .i64 (i+1)) <|
        let i1:=(i+1)
        some (.go i1)))
     (some (.out (.go ())))) 0) fun (_:Unit) =>
   some true)
noncomputable def lapwingref09_Few (l':(List T_api_Row)):Option Bool :=
 iteO (decide (60 < (lenL l')))
  (some false)
  (cutO (loopO (fun (i:Int) =>
    iteO (decide (i < (lenL l')))
     (chk (0≤i∧i < (lenL l')) <|
      iteO (decide (100 < (lenL (getL d_api_Row l' i).fCells)))
       (some (.out (.out false)))
       (chk (inR .i64 (i+1)) <|
        let i1:=(i+1)
        some (.go i1)))
     (some (.out (.go ())))) 0) fun (_:Unit) =>
   some true)
noncomputable def lapwingref15_Few (s:T_lapwingref15_Screen):Option Bool :=
 bindO (lapwingref09_Few s.fG.fRows) fun v =>
 bindO (if v=true then lapwingref09_Few s.fK.fRows else some false) fun v1 =>
 some (if (if v=true then v1 else false)=true then (decide ((lenL s.fT.fL)≤200)) else false)
noncomputable def lapwingref16_Few (s:T_lapwingref16_State):Option Bool :=
 bindO (lapwingref16_short s.fMain.fG.fRows) fun v =>
 bindO (if v=true then lapwingref16_short s.fOther.fG.fRows else some false) fun v1 =>
 bindO (if (if v=true then v1 else false)=true then lapwingref15_Few s.fMain else some false) fun v2 =>
 bindO (if (if (if v=true then v1 else false)=true then v2 else false)=true then lapwingref15_Few s.fOther else some false) fun v3 =>
 some (if (if (if (if (if v=true then v1 else false)=true then v2 else false)=true then v3 else false)=true then (decide ((lenL s.fOut)≤5000)) else false)=true then (decide ((slenS s.fTitle)≤1100)) else false)
noncomputable def lapwingref05_Few (l':(List (List Int))):Option Bool :=
 iteO (decide (30 < (lenL l')))
  (some false)
  (cutO (loopO (fun (i:Int) =>
    iteO (decide (i < (lenL l')))
     (chk (0≤i∧i < (lenL l')) <|
      iteO (decide (20 < (lenL (getL [] l' i))))
       (some (.out (.out false)))
       (chk (inR .i64 (i+1)) <|
        let i1:=(i+1)
        some (.go i1)))
     (some (.out (.go ())))) 0) fun (_:Unit) =>
   some true)
noncomputable def lapwinglaw16_few (l':(List T_api_Action)):Option Bool :=
 iteO (decide (80 < (lenL l')))
  (some false)
  (cutO (loopO (fun (i:Int) =>
    iteO (decide (i < (lenL l')))
     (chk (0≤i∧i < (lenL l')) <|
      bindO (lapwingref05_Few (getL d_api_Action l' i).fParams) fun v =>
      chk ((!(!v))=true→0≤i∧i < (lenL l')) <|
      chk ((!(if (!v)=true then true else (decide (2000 < (slenS (getL d_api_Action l' i).fText)))))=true→0≤i∧i < (lenL l')) <|
      iteO (if (if (!v)=true then true else (decide (2000 < (slenS (getL d_api_Action l' i).fText))))=true then true else (decide (20 < (slenS (getL d_api_Action l' i).fInter))))
       (some (.out (.out false)))
       (chk (inR .i64 (i+1)) <|
        let i1:=(i+1)
        some (.go i1)))
     (some (.out (.go ())))) 0) fun (_:Unit) =>
   some true)
noncomputable def lapwinglaw16_cur (c':T_lapwingref14_Cursor):Option T_cursor_Cursor :=
 some (T_cursor_Cursor.mk c'.fX c'.fY c'.fWrap c'.fOrigin c'.fPen (T_charset_State.mk c'.fSet.fG c'.fSet.fGL c'.fSet.fGR c'.fSet.fOnce))
noncomputable def lapwinglaw16_ours (s:T_lapwingref15_Screen):Option T_screen_Screen :=
 bindO (lapwinglaw16_cur s.fC) fun v =>
 some (T_screen_Screen.mk (T_grid_Grid.mk s.fG.fRows) v (T_cursor_Region.mk s.fR.fH s.fR.fW s.fR.fTop s.fR.fBottom) (T_tabs_Stops.mk s.fT.fL s.fT.fW) (T_history_Kept.mk s.fK.fRows s.fK.fCap) s.fDir s.fExplicit)
noncomputable def lapwinglaw16_state (s:T_lapwingref16_State):Option T_interp_State :=
 bindO (lapwinglaw16_ours s.fMain) fun v =>
 bindO (lapwinglaw16_ours s.fOther) fun v1 =>
 bindO (lapwinglaw16_cur s.fSaved.x0) fun v2 =>
 bindO (lapwinglaw16_cur s.fSaved.x1) fun v3 =>
 some (T_interp_State.mk v v1 s.fOn (T_modes_Modes.mk s.fM.fBits) (T_Arr2_cursor_Cursor.mk v2 v3) s.fOut s.fTitle s.fLast)
noncomputable def lapwinglaw16_plain (c':T_cursor_Cursor):Option T_lapwingref14_Cursor :=
 some (T_lapwingref14_Cursor.mk c'.fX c'.fY c'.fWrap c'.fOrigin c'.fPen (T_lapwingref04_State.mk c'.fSet.fG c'.fSet.fGL c'.fSet.fGR c'.fSet.fOnce))
noncomputable def lapwinglaw16_InterpSaves (s:T_lapwingref16_State) (l':(List T_api_Action)):Option Bool :=
 bindO (lapwinglaw16_awake) fun v =>
 bindO (lapwingref16_Few s) fun v1 =>
 bindO (if (!(!v1))=true then lapwinglaw16_few l' else some false) fun v2 =>
 bindO (if (!(if (!v1)=true then true else (!v2)))=true then lapwinglaw16_state s else some d_interp_State) fun v3 =>
 bindO (if (!(if (!v1)=true then true else (!v2)))=true then interp_Sane v3 else some false) fun v4 =>
 iteO (if (if (!v1)=true then true else (!v2))=true then true else (!v4))
  (some v)
  (bindO (ucd_Load) fun v5 =>
   bindO (lapwinglaw16_state s) fun v6 =>
   bindO (interp_Do v6 v5 (T_api_Action.mk 3 0 55 ByteArray.empty ([]:List (List Int)) ByteArray.empty)) fun v7 =>
   bindO (interp_Active v7) fun v8 =>
   cutO (loopO (fun ((i,a1):Int × T_interp_State) =>
    iteO (decide (i < (lenL l')))
     (chk (0≤i∧i < (lenL l')) <|
      chk ((!((getL d_api_Action l' i).fWhat == 1))=true→0≤i∧i < (lenL l')) <|
      chk (((!((getL d_api_Action l' i).fWhat == 1)) && ((!((getL d_api_Action l' i).fWhat == 1)) && ((getL d_api_Action l' i).fWhat == 4)))=true→0≤i∧i < (lenL l')) <|
      chk (((!((getL d_api_Action l' i).fWhat == 1)) && ((!((getL d_api_Action l' i).fWhat == 1)) && (if ((getL d_api_Action l' i).fWhat == 4)=true then (seqS (getL d_api_Action l' i).fInter (⟨#[]⟩:ByteArray)) else false)))=true→0≤i∧i < (lenL l')) <|
      chk (((!((getL d_api_Action l' i).fWhat == 1)) && ((!((getL d_api_Action l' i).fWhat == 1)) && (if (if ((getL d_api_Action l' i).fWhat == 4)=true then (seqS (getL d_api_Action l' i).fInter (⟨#[]⟩:ByteArray)) else false)=true then (decide (65≤(getL d_api_Action l' i).fFinal)) else false)))=true→0≤i∧i < (lenL l')) <|
      let ok:=(if ((getL d_api_Action l' i).fWhat == 1)=true then true else (if (if (if ((getL d_api_Action l' i).fWhat == 4)=true then (seqS (getL d_api_Action l' i).fInter (⟨#[]⟩:ByteArray)) else false)=true then (decide (65≤(getL d_api_Action l' i).fFinal)) else false)=true then (decide ((getL d_api_Action l' i).fFinal≤77)) else false))
      iteO ok
       (chk (0≤i∧i < (lenL l')) <|
        bindO (interp_Do a1 v5 (getL d_api_Action l' i)) fun v14 =>
        chk (inR .i64 (i+1)) <|
        let i1:=(i+1)
        some (.go (i1,v14)))
       (chk (inR .i64 (i+1)) <|
        let i2:=(i+1)
        some (.go (i2,a1))))
     (some (.out (.go a1)))) (0,v7)) fun a =>
   bindO (interp_Do a v5 (T_api_Action.mk 3 0 56 ByteArray.empty ([]:List (List Int)) ByteArray.empty)) fun v9 =>
   bindO (if v=true then interp_Active v9 else some d_screen_Screen) fun v10 =>
   bindO (if v=true then lapwinglaw16_plain v10.fC else some d_lapwingref14_Cursor) fun v11 =>
   bindO (if v=true then lapwinglaw16_plain v8.fC else some d_lapwingref14_Cursor) fun v12 =>
   bindO (if (if v=true then ((v11.fX == v12.fX) && ((v11.fY == v12.fY) && ((v11.fWrap == v12.fWrap) && ((v11.fOrigin == v12.fOrigin) && ((v11.fPen.fFg == v12.fPen.fFg) && ((v11.fPen.fBg == v12.fPen.fBg) && ((v11.fPen.fFlags == v12.fPen.fFlags) && ((v11.fSet.fG.x0 == v12.fSet.fG.x0) && ((v11.fSet.fG.x1 == v12.fSet.fG.x1) && ((v11.fSet.fG.x2 == v12.fSet.fG.x2) && ((v11.fSet.fG.x3 == v12.fSet.fG.x3) && ((v11.fSet.fGL == v12.fSet.fGL) && ((v11.fSet.fGR == v12.fSet.fGR) && ((v11.fSet.fOnce == v12.fSet.fOnce) && true)))))))))))))) else false)=true then interp_Sane v9 else some false) fun v13 =>
   some (if (if v=true then ((v11.fX == v12.fX) && ((v11.fY == v12.fY) && ((v11.fWrap == v12.fWrap) && ((v11.fOrigin == v12.fOrigin) && ((v11.fPen.fFg == v12.fPen.fFg) && ((v11.fPen.fBg == v12.fPen.fBg) && ((v11.fPen.fFlags == v12.fPen.fFlags) && ((v11.fSet.fG.x0 == v12.fSet.fG.x0) && ((v11.fSet.fG.x1 == v12.fSet.fG.x1) && ((v11.fSet.fG.x2 == v12.fSet.fG.x2) && ((v11.fSet.fG.x3 == v12.fSet.fG.x3) && ((v11.fSet.fGL == v12.fSet.fGL) && ((v11.fSet.fGR == v12.fSet.fGR) && ((v11.fSet.fOnce == v12.fSet.fOnce) && true)))))))))))))) else false)=true then v13 else false))
noncomputable def lapwinglaw16_theirs (s:T_screen_Screen):Option T_lapwingref15_Screen :=
 bindO (lapwinglaw16_plain s.fC) fun v =>
 some (T_lapwingref15_Screen.mk (T_lapwingref09_Grid.mk s.fG.fRows) v (T_lapwingref14_Region.mk s.fR.fH s.fR.fW s.fR.fTop s.fR.fBottom) (T_lapwingref12_Stops.mk s.fT.fL s.fT.fW) (T_lapwingref10_Kept.mk s.fK.fRows s.fK.fCap) s.fDir s.fExplicit)
noncomputable def lapwinglaw16_plainly (s:T_interp_State):Option T_lapwingref16_State :=
 bindO (lapwinglaw16_theirs s.fMain) fun v =>
 bindO (lapwinglaw16_theirs s.fOther) fun v1 =>
 bindO (lapwinglaw16_plain s.fSaved.x0) fun v2 =>
 bindO (lapwinglaw16_plain s.fSaved.x1) fun v3 =>
 some (T_lapwingref16_State.mk v v1 s.fOn (T_lapwingref13_Modes.mk s.fM.fBits) (T_Arr2_lapwingref14_Cursor.mk v2 v3) s.fOut s.fTitle s.fLast)
noncomputable def lapwingref08_Cells (a:(List T_api_Cell)) (b:(List T_api_Cell)):Option Bool :=
 iteO (!((lenL a) == (lenL b)))
  (some false)
  (cutO (loopO (fun (i:Int) =>
    iteO (decide (i < (lenL a)))
     (chk (0≤i∧i < (lenL a)) <|
      chk (0≤i∧i < (lenL b)) <|
      iteO (!(((getL d_api_Cell a i).fR == (getL d_api_Cell b i).fR) && (((getL d_api_Cell a i).fM.x0 == (getL d_api_Cell b i).fM.x0) && (((getL d_api_Cell a i).fM.x1 == (getL d_api_Cell b i).fM.x1) && (((getL d_api_Cell a i).fW == (getL d_api_Cell b i).fW) && (((getL d_api_Cell a i).fPen.fFg == (getL d_api_Cell b i).fPen.fFg) && (((getL d_api_Cell a i).fPen.fBg == (getL d_api_Cell b i).fPen.fBg) && (((getL d_api_Cell a i).fPen.fFlags == (getL d_api_Cell b i).fPen.fFlags) && true))))))))
       (some (.out (.out false)))
       (chk (inR .i64 (i+1)) <|
        let i1:=(i+1)
        some (.go i1)))
     (some (.out (.go ())))) 0) fun (_:Unit) =>
   some true)
noncomputable def lapwingref08_Same (a:T_api_Row) (b:T_api_Row):Option Bool :=
 bindO (lapwingref08_Cells a.fCells b.fCells) fun v =>
 some (if (if (if v=true then (a.fWrap == b.fWrap) else false)=true then (a.fDir == b.fDir) else false)=true then (a.fExplicit == b.fExplicit) else false)
noncomputable def lapwingref09_Same (a:(List T_api_Row)) (b:(List T_api_Row)):Option Bool :=
 iteO (!((lenL a) == (lenL b)))
  (some false)
  (cutO (loopO (fun (i:Int) =>
    iteO (decide (i < (lenL a)))
     (chk (0≤i∧i < (lenL a)) <|
      chk (0≤i∧i < (lenL b)) <|
      bindO (lapwingref08_Same (getL d_api_Row a i) (getL d_api_Row b i)) fun v =>
      iteO (!v)
       (some (.out (.out false)))
       (chk (inR .i64 (i+1)) <|
        let i1:=(i+1)
        some (.go i1)))
     (some (.out (.go ())))) 0) fun (_:Unit) =>
   some true)
noncomputable def lapwingref12_Same (a:T_lapwingref12_Stops) (b:T_lapwingref12_Stops):Option Bool :=
 iteO (if (!((lenL a.fL) == (lenL b.fL)))=true then true else (!(a.fW == b.fW)))
  (some false)
  (cutO (loopO (fun (i:Int) =>
    iteO (decide (i < (lenL a.fL)))
     (chk (0≤i∧i < (lenL a.fL)) <|
      chk (0≤i∧i < (lenL b.fL)) <|
      iteO (!((getL 0 a.fL i) == (getL 0 b.fL i)))
       (some (.out (.out false)))
       (chk (inR .i64 (i+1)) <|
        let i1:=(i+1)
        some (.go i1)))
     (some (.out (.go ())))) 0) fun (_:Unit) =>
   some true)
noncomputable def lapwingref10_Same (a:T_lapwingref10_Kept) (b:T_lapwingref10_Kept):Option Bool :=
 bindO (if (a.fCap == b.fCap)=true then lapwingref09_Same a.fRows b.fRows else some false) fun v =>
 some (if (a.fCap == b.fCap)=true then v else false)
noncomputable def lapwingref15_Same (a:T_lapwingref15_Screen) (b:T_lapwingref15_Screen):Option Bool :=
 bindO (lapwingref09_Same a.fG.fRows b.fG.fRows) fun v =>
 bindO (if (if (if v=true then ((a.fC.fX == b.fC.fX) && ((a.fC.fY == b.fC.fY) && ((a.fC.fWrap == b.fC.fWrap) && ((a.fC.fOrigin == b.fC.fOrigin) && ((a.fC.fPen.fFg == b.fC.fPen.fFg) && ((a.fC.fPen.fBg == b.fC.fPen.fBg) && ((a.fC.fPen.fFlags == b.fC.fPen.fFlags) && ((a.fC.fSet.fG.x0 == b.fC.fSet.fG.x0) && ((a.fC.fSet.fG.x1 == b.fC.fSet.fG.x1) && ((a.fC.fSet.fG.x2 == b.fC.fSet.fG.x2) && ((a.fC.fSet.fG.x3 == b.fC.fSet.fG.x3) && ((a.fC.fSet.fGL == b.fC.fSet.fGL) && ((a.fC.fSet.fGR == b.fC.fSet.fGR) && ((a.fC.fSet.fOnce == b.fC.fSet.fOnce) && true)))))))))))))) else false)=true then ((a.fR.fH == b.fR.fH) && ((a.fR.fW == b.fR.fW) && ((a.fR.fTop == b.fR.fTop) && ((a.fR.fBottom == b.fR.fBottom) && true)))) else false)=true then lapwingref12_Same a.fT b.fT else some false) fun v1 =>
 bindO (if (if (if (if v=true then ((a.fC.fX == b.fC.fX) && ((a.fC.fY == b.fC.fY) && ((a.fC.fWrap == b.fC.fWrap) && ((a.fC.fOrigin == b.fC.fOrigin) && ((a.fC.fPen.fFg == b.fC.fPen.fFg) && ((a.fC.fPen.fBg == b.fC.fPen.fBg) && ((a.fC.fPen.fFlags == b.fC.fPen.fFlags) && ((a.fC.fSet.fG.x0 == b.fC.fSet.fG.x0) && ((a.fC.fSet.fG.x1 == b.fC.fSet.fG.x1) && ((a.fC.fSet.fG.x2 == b.fC.fSet.fG.x2) && ((a.fC.fSet.fG.x3 == b.fC.fSet.fG.x3) && ((a.fC.fSet.fGL == b.fC.fSet.fGL) && ((a.fC.fSet.fGR == b.fC.fSet.fGR) && ((a.fC.fSet.fOnce == b.fC.fSet.fOnce) && true)))))))))))))) else false)=true then ((a.fR.fH == b.fR.fH) && ((a.fR.fW == b.fR.fW) && ((a.fR.fTop == b.fR.fTop) && ((a.fR.fBottom == b.fR.fBottom) && true)))) else false)=true then v1 else false)=true then lapwingref10_Same a.fK b.fK else some false) fun v2 =>
 some (if (if (if (if (if (if v=true then ((a.fC.fX == b.fC.fX) && ((a.fC.fY == b.fC.fY) && ((a.fC.fWrap == b.fC.fWrap) && ((a.fC.fOrigin == b.fC.fOrigin) && ((a.fC.fPen.fFg == b.fC.fPen.fFg) && ((a.fC.fPen.fBg == b.fC.fPen.fBg) && ((a.fC.fPen.fFlags == b.fC.fPen.fFlags) && ((a.fC.fSet.fG.x0 == b.fC.fSet.fG.x0) && ((a.fC.fSet.fG.x1 == b.fC.fSet.fG.x1) && ((a.fC.fSet.fG.x2 == b.fC.fSet.fG.x2) && ((a.fC.fSet.fG.x3 == b.fC.fSet.fG.x3) && ((a.fC.fSet.fGL == b.fC.fSet.fGL) && ((a.fC.fSet.fGR == b.fC.fSet.fGR) && ((a.fC.fSet.fOnce == b.fC.fSet.fOnce) && true)))))))))))))) else false)=true then ((a.fR.fH == b.fR.fH) && ((a.fR.fW == b.fR.fW) && ((a.fR.fTop == b.fR.fTop) && ((a.fR.fBottom == b.fR.fBottom) && true)))) else false)=true then v1 else false)=true then v2 else false)=true then (a.fDir == b.fDir) else false)=true then (a.fExplicit == b.fExplicit) else false)
noncomputable def lapwingref16_Same (a:T_lapwingref16_State) (b:T_lapwingref16_State):Option Bool :=
 bindO (lapwingref15_Same a.fMain b.fMain) fun v =>
 bindO (if v=true then lapwingref15_Same a.fOther b.fOther else some false) fun v1 =>
 some (if (if (if (if (if (if (if v=true then v1 else false)=true then (a.fOn == b.fOn) else false)=true then ((a.fM.fBits == b.fM.fBits) && true) else false)=true then ((a.fSaved.x0.fX == b.fSaved.x0.fX) && ((a.fSaved.x0.fY == b.fSaved.x0.fY) && ((a.fSaved.x0.fWrap == b.fSaved.x0.fWrap) && ((a.fSaved.x0.fOrigin == b.fSaved.x0.fOrigin) && ((a.fSaved.x0.fPen.fFg == b.fSaved.x0.fPen.fFg) && ((a.fSaved.x0.fPen.fBg == b.fSaved.x0.fPen.fBg) && ((a.fSaved.x0.fPen.fFlags == b.fSaved.x0.fPen.fFlags) && ((a.fSaved.x0.fSet.fG.x0 == b.fSaved.x0.fSet.fG.x0) && ((a.fSaved.x0.fSet.fG.x1 == b.fSaved.x0.fSet.fG.x1) && ((a.fSaved.x0.fSet.fG.x2 == b.fSaved.x0.fSet.fG.x2) && ((a.fSaved.x0.fSet.fG.x3 == b.fSaved.x0.fSet.fG.x3) && ((a.fSaved.x0.fSet.fGL == b.fSaved.x0.fSet.fGL) && ((a.fSaved.x0.fSet.fGR == b.fSaved.x0.fSet.fGR) && ((a.fSaved.x0.fSet.fOnce == b.fSaved.x0.fSet.fOnce) && ((a.fSaved.x1.fX == b.fSaved.x1.fX) && ((a.fSaved.x1.fY == b.fSaved.x1.fY) && ((a.fSaved.x1.fWrap == b.fSaved.x1.fWrap) && ((a.fSaved.x1.fOrigin == b.fSaved.x1.fOrigin) && ((a.fSaved.x1.fPen.fFg == b.fSaved.x1.fPen.fFg) && ((a.fSaved.x1.fPen.fBg == b.fSaved.x1.fPen.fBg) && ((a.fSaved.x1.fPen.fFlags == b.fSaved.x1.fPen.fFlags) && ((a.fSaved.x1.fSet.fG.x0 == b.fSaved.x1.fSet.fG.x0) && ((a.fSaved.x1.fSet.fG.x1 == b.fSaved.x1.fSet.fG.x1) && ((a.fSaved.x1.fSet.fG.x2 == b.fSaved.x1.fSet.fG.x2) && ((a.fSaved.x1.fSet.fG.x3 == b.fSaved.x1.fSet.fG.x3) && ((a.fSaved.x1.fSet.fGL == b.fSaved.x1.fSet.fGL) && ((a.fSaved.x1.fSet.fGR == b.fSaved.x1.fSet.fGR) && ((a.fSaved.x1.fSet.fOnce == b.fSaved.x1.fSet.fOnce) && true)))))))))))))))))))))))))))) else false)=true then (seqS (strL a.fOut) (strL b.fOut)) else false)=true then (seqS a.fTitle b.fTitle) else false)=true then (a.fLast == b.fLast) else false)
noncomputable def lapwinglaw16_InterpOther (s:T_lapwingref16_State) (l':(List Int)):Option Bool :=
 bindO (lapwinglaw16_awake) fun v =>
 bindO (lapwingref16_Few s) fun v1 =>
 bindO (if (!(if (!v1)=true then true else (decide (100 < (lenL l')))))=true then lapwinglaw16_state s else some d_interp_State) fun v2 =>
 bindO (if (!(if (!v1)=true then true else (decide (100 < (lenL l')))))=true then interp_Sane v2 else some false) fun v3 =>
 iteO (if (if (if (!v1)=true then true else (decide (100 < (lenL l'))))=true then true else (!v3))=true then true else s.fOn)
  (some v)
  (bindO (ucd_Load) fun v4 =>
   bindO (lapwinglaw16_state s) fun v5 =>
   bindO (lapwinglaw16_ask (⟨#[63]⟩:ByteArray) ([([1049]:List Int)]:List (List Int)) 104) fun v6 =>
   bindO (interp_Do v5 v4 v6) fun v7 =>
   cutO (loopO (fun ((i,a1):Int × T_interp_State) =>
    iteO (decide (i < (lenL l')))
     (chk (0≤i∧i < (lenL l')) <|
      bindO (interp_Do a1 v4 (T_api_Action.mk 1 (getL 0 l' i) 0 ByteArray.empty ([]:List (List Int)) ByteArray.empty)) fun v12 =>
      chk (inR .i64 (i+1)) <|
      let i1:=(i+1)
      some (.go (i1,v12)))
     (some (.out (.go a1)))) (0,v7)) fun a =>
   let on:=a.fOn
   bindO (lapwinglaw16_ask (⟨#[63]⟩:ByteArray) ([([1049]:List Int)]:List (List Int)) 108) fun v8 =>
   bindO (interp_Do a v4 v8) fun v9 =>
   bindO (lapwinglaw16_plainly v9) fun v10 =>
   bindO (if (if (if v=true then on else false)=true then (!v9.fOn) else false)=true then lapwingref16_Same (T_lapwingref16_State.mk v10.fMain d_lapwingref15_Screen false d_lapwingref13_Modes d_Arr2_lapwingref14_Cursor ([]:List Int) ByteArray.empty 0) (T_lapwingref16_State.mk (T_lapwingref15_Screen.mk s.fMain.fG v10.fMain.fC s.fMain.fR s.fMain.fT s.fMain.fK s.fMain.fDir v10.fMain.fExplicit) d_lapwingref15_Screen false d_lapwingref13_Modes d_Arr2_lapwingref14_Cursor ([]:List Int) ByteArray.empty 0) else some false) fun v11 =>
   some (if (if (if v=true then on else false)=true then (!v9.fOn) else false)=true then v11 else false))
end Go.Vx
