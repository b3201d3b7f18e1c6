/- Walks, by program (lift.py): the code does what the lifted functions say. -/
import Derived.Test.YtmkigppfdmghnaaGreatDoorILift
import Derived.Test.YtmkigppfdmghnaaGreatDoorChecked
set_option linter.all false
namespace Go.Vx
open Go.Proofs
set_option maxRecDepth 100000
set_option maxHeartbeats 8000000
set_option linter.unusedVariables false
set_option linter.unusedSimpArgs false
attribute [local irreducible] chk iteO bindO cutO nilO
def D_cursor_Region (nv:Nv) (x:T_cursor_Region) (j:Nat):D:=match j with
  | 0=>(.v (.int .i64 x.fH))
  | 1=>(.v (.int .i64 x.fW))
  | 2=>(.v (.int .i64 x.fTop))
  | 3=>(.v (.int .i64 x.fBottom))
  | _=>.junk
def D_Arr4_u8 (nv:Nv) (x:T_Arr4_u8) (j:Nat):D:=match j with
  | 0=>(.v (.int .u8 x.x0))
  | 1=>(.v (.int .u8 x.x1))
  | 2=>(.v (.int .u8 x.x2))
  | 3=>(.v (.int .u8 x.x3))
  | _=>.junk
def D_charset_State (nv:Nv) (x:T_charset_State) (j:Nat):D:=match j with
  | 0=>(.v (.int .u8 x.fG.x0))
  | 1=>(.v (.int .u8 x.fG.x1))
  | 2=>(.v (.int .u8 x.fG.x2))
  | 3=>(.v (.int .u8 x.fG.x3))
  | 4=>(.v (.int .i64 x.fGL))
  | 5=>(.v (.int .i64 x.fGR))
  | 6=>(.v (.int .i64 x.fOnce))
  | _=>.junk
def D_api_Pen (nv:Nv) (x:T_api_Pen) (j:Nat):D:=match j with
  | 0=>(.v (.int .i64 x.fFg))
  | 1=>(.v (.int .i64 x.fBg))
  | 2=>(.v (.int .i64 x.fFlags))
  | _=>.junk
def D_cursor_Cursor (nv:Nv) (x:T_cursor_Cursor) (j:Nat):D:=match j with
  | 0=>(.v (.int .i64 x.fX))
  | 1=>(.v (.int .i64 x.fY))
  | 2=>(.v (.bool x.fWrap))
  | 3=>(.v (.bool x.fOrigin))
  | 4=>(.v (.int .i64 x.fPen.fFg))
  | 5=>(.v (.int .i64 x.fPen.fBg))
  | 6=>(.v (.int .i64 x.fPen.fFlags))
  | 7=>(.v (.int .u8 x.fSet.fG.x0))
  | 8=>(.v (.int .u8 x.fSet.fG.x1))
  | 9=>(.v (.int .u8 x.fSet.fG.x2))
  | 10=>(.v (.int .u8 x.fSet.fG.x3))
  | 11=>(.v (.int .i64 x.fSet.fGL))
  | 12=>(.v (.int .i64 x.fSet.fGR))
  | 13=>(.v (.int .i64 x.fSet.fOnce))
  | _=>.junk
def D_Arr2_i64 (nv:Nv) (x:T_Arr2_i64) (j:Nat):D:=match j with
  | 0=>(.v (.int .i64 x.x0))
  | 1=>(.v (.int .i64 x.x1))
  | _=>.junk
def D_api_Cell (nv:Nv) (x:T_api_Cell) (j:Nat):D:=match j with
  | 0=>(.v (.int .i64 x.fR))
  | 1=>(.v (.int .i64 x.fM.x0))
  | 2=>(.v (.int .i64 x.fM.x1))
  | 3=>(.v (.int .i64 x.fW))
  | 4=>(.v (.int .i64 x.fPen.fFg))
  | 5=>(.v (.int .i64 x.fPen.fBg))
  | 6=>(.v (.int .i64 x.fPen.fFlags))
  | _=>.junk
def D_api_Row (nv:Nv) (x:T_api_Row) (j:Nat):D:=match j with
  | 0=>(.sl 7 (nv.len x.fCells) false (fun ix jx=>(D_api_Cell nv (nv.get d_api_Cell x.fCells ix) jx)))
  | 1=>(.v (.bool x.fWrap))
  | 2=>(.v (.int .i64 x.fDir))
  | 3=>(.v (.bool x.fExplicit))
  | _=>.junk
def D_grid_Grid (nv:Nv) (x:T_grid_Grid) (j:Nat):D:=match j with
  | 0=>(.sl 4 (nv.len x.fRows) false (fun ix jx=>(D_api_Row nv (nv.get d_api_Row x.fRows ix) jx)))
  | _=>.junk
def D_tabs_Stops (nv:Nv) (x:T_tabs_Stops) (j:Nat):D:=match j with
  | 0=>(.sl 1 (nv.len x.fL) false (fun ix jx=>(.v (.int .i64 (nv.get 0 x.fL ix)))))
  | 1=>(.v (.int .i64 x.fW))
  | _=>.junk
def D_history_Kept (nv:Nv) (x:T_history_Kept) (j:Nat):D:=match j with
  | 0=>(.sl 4 (nv.len x.fRows) false (fun ix jx=>(D_api_Row nv (nv.get d_api_Row x.fRows ix) jx)))
  | 1=>(.v (.int .i64 x.fCap))
  | _=>.junk
def D_screen_Screen (nv:Nv) (x:T_screen_Screen) (j:Nat):D:=match j with
  | 0=>(.sl 4 (nv.len x.fG.fRows) false (fun ix jx=>(D_api_Row nv (nv.get d_api_Row x.fG.fRows ix) jx)))
  | 1=>(.v (.int .i64 x.fC.fX))
  | 2=>(.v (.int .i64 x.fC.fY))
  | 3=>(.v (.bool x.fC.fWrap))
  | 4=>(.v (.bool x.fC.fOrigin))
  | 5=>(.v (.int .i64 x.fC.fPen.fFg))
  | 6=>(.v (.int .i64 x.fC.fPen.fBg))
  | 7=>(.v (.int .i64 x.fC.fPen.fFlags))
  | 8=>(.v (.int .u8 x.fC.fSet.fG.x0))
  | 9=>(.v (.int .u8 x.fC.fSet.fG.x1))
  | 10=>(.v (.int .u8 x.fC.fSet.fG.x2))
  | 11=>(.v (.int .u8 x.fC.fSet.fG.x3))
  | 12=>(.v (.int .i64 x.fC.fSet.fGL))
  | 13=>(.v (.int .i64 x.fC.fSet.fGR))
  | 14=>(.v (.int .i64 x.fC.fSet.fOnce))
  | 15=>(.v (.int .i64 x.fR.fH))
  | 16=>(.v (.int .i64 x.fR.fW))
  | 17=>(.v (.int .i64 x.fR.fTop))
  | 18=>(.v (.int .i64 x.fR.fBottom))
  | 19=>(.sl 1 (nv.len x.fT.fL) false (fun ix jx=>(.v (.int .i64 (nv.get 0 x.fT.fL ix)))))
  | 20=>(.v (.int .i64 x.fT.fW))
  | 21=>(.sl 4 (nv.len x.fK.fRows) false (fun ix jx=>(D_api_Row nv (nv.get d_api_Row x.fK.fRows ix) jx)))
  | 22=>(.v (.int .i64 x.fK.fCap))
  | 23=>(.v (.int .i64 x.fDir))
  | 24=>(.v (.bool x.fExplicit))
  | _=>.junk
def D_modes_Modes (nv:Nv) (x:T_modes_Modes) (j:Nat):D:=match j with
  | 0=>(.v (.int .i64 x.fBits))
  | _=>.junk
def D_modes_mode (nv:Nv) (x:T_modes_mode) (j:Nat):D:=match j with
  | 0=>(.v (.bool x.fprivate))
  | 1=>(.v (.int .i64 x.fn))
  | _=>.junk
def D_Arr24_modes_mode (nv:Nv) (x:T_Arr24_modes_mode) (j:Nat):D:=match j with
  | 0=>(.v (.bool x.x0.fprivate))
  | 1=>(.v (.int .i64 x.x0.fn))
  | 2=>(.v (.bool x.x1.fprivate))
  | 3=>(.v (.int .i64 x.x1.fn))
  | 4=>(.v (.bool x.x2.fprivate))
  | 5=>(.v (.int .i64 x.x2.fn))
  | 6=>(.v (.bool x.x3.fprivate))
  | 7=>(.v (.int .i64 x.x3.fn))
  | 8=>(.v (.bool x.x4.fprivate))
  | 9=>(.v (.int .i64 x.x4.fn))
  | 10=>(.v (.bool x.x5.fprivate))
  | 11=>(.v (.int .i64 x.x5.fn))
  | 12=>(.v (.bool x.x6.fprivate))
  | 13=>(.v (.int .i64 x.x6.fn))
  | 14=>(.v (.bool x.x7.fprivate))
  | 15=>(.v (.int .i64 x.x7.fn))
  | 16=>(.v (.bool x.x8.fprivate))
  | 17=>(.v (.int .i64 x.x8.fn))
  | 18=>(.v (.bool x.x9.fprivate))
  | 19=>(.v (.int .i64 x.x9.fn))
  | 20=>(.v (.bool x.x10.fprivate))
  | 21=>(.v (.int .i64 x.x10.fn))
  | 22=>(.v (.bool x.x11.fprivate))
  | 23=>(.v (.int .i64 x.x11.fn))
  | 24=>(.v (.bool x.x12.fprivate))
  | 25=>(.v (.int .i64 x.x12.fn))
  | 26=>(.v (.bool x.x13.fprivate))
  | 27=>(.v (.int .i64 x.x13.fn))
  | 28=>(.v (.bool x.x14.fprivate))
  | 29=>(.v (.int .i64 x.x14.fn))
  | 30=>(.v (.bool x.x15.fprivate))
  | 31=>(.v (.int .i64 x.x15.fn))
  | 32=>(.v (.bool x.x16.fprivate))
  | 33=>(.v (.int .i64 x.x16.fn))
  | 34=>(.v (.bool x.x17.fprivate))
  | 35=>(.v (.int .i64 x.x17.fn))
  | 36=>(.v (.bool x.x18.fprivate))
  | 37=>(.v (.int .i64 x.x18.fn))
  | 38=>(.v (.bool x.x19.fprivate))
  | 39=>(.v (.int .i64 x.x19.fn))
  | 40=>(.v (.bool x.x20.fprivate))
  | 41=>(.v (.int .i64 x.x20.fn))
  | 42=>(.v (.bool x.x21.fprivate))
  | 43=>(.v (.int .i64 x.x21.fn))
  | 44=>(.v (.bool x.x22.fprivate))
  | 45=>(.v (.int .i64 x.x22.fn))
  | 46=>(.v (.bool x.x23.fprivate))
  | 47=>(.v (.int .i64 x.x23.fn))
  | _=>.junk
def D_Arr2_cursor_Cursor (nv:Nv) (x:T_Arr2_cursor_Cursor) (j:Nat):D:=match j with
  | 0=>(.v (.int .i64 x.x0.fX))
  | 1=>(.v (.int .i64 x.x0.fY))
  | 2=>(.v (.bool x.x0.fWrap))
  | 3=>(.v (.bool x.x0.fOrigin))
  | 4=>(.v (.int .i64 x.x0.fPen.fFg))
  | 5=>(.v (.int .i64 x.x0.fPen.fBg))
  | 6=>(.v (.int .i64 x.x0.fPen.fFlags))
  | 7=>(.v (.int .u8 x.x0.fSet.fG.x0))
  | 8=>(.v (.int .u8 x.x0.fSet.fG.x1))
  | 9=>(.v (.int .u8 x.x0.fSet.fG.x2))
  | 10=>(.v (.int .u8 x.x0.fSet.fG.x3))
  | 11=>(.v (.int .i64 x.x0.fSet.fGL))
  | 12=>(.v (.int .i64 x.x0.fSet.fGR))
  | 13=>(.v (.int .i64 x.x0.fSet.fOnce))
  | 14=>(.v (.int .i64 x.x1.fX))
  | 15=>(.v (.int .i64 x.x1.fY))
  | 16=>(.v (.bool x.x1.fWrap))
  | 17=>(.v (.bool x.x1.fOrigin))
  | 18=>(.v (.int .i64 x.x1.fPen.fFg))
  | 19=>(.v (.int .i64 x.x1.fPen.fBg))
  | 20=>(.v (.int .i64 x.x1.fPen.fFlags))
  | 21=>(.v (.int .u8 x.x1.fSet.fG.x0))
  | 22=>(.v (.int .u8 x.x1.fSet.fG.x1))
  | 23=>(.v (.int .u8 x.x1.fSet.fG.x2))
  | 24=>(.v (.int .u8 x.x1.fSet.fG.x3))
  | 25=>(.v (.int .i64 x.x1.fSet.fGL))
  | 26=>(.v (.int .i64 x.x1.fSet.fGR))
  | 27=>(.v (.int .i64 x.x1.fSet.fOnce))
  | _=>.junk
def D_interp_State (nv:Nv) (x:T_interp_State) (j:Nat):D:=match j with
  | 0=>(.sl 4 (nv.len x.fMain.fG.fRows) false (fun ix jx=>(D_api_Row nv (nv.get d_api_Row x.fMain.fG.fRows ix) jx)))
  | 1=>(.v (.int .i64 x.fMain.fC.fX))
  | 2=>(.v (.int .i64 x.fMain.fC.fY))
  | 3=>(.v (.bool x.fMain.fC.fWrap))
  | 4=>(.v (.bool x.fMain.fC.fOrigin))
  | 5=>(.v (.int .i64 x.fMain.fC.fPen.fFg))
  | 6=>(.v (.int .i64 x.fMain.fC.fPen.fBg))
  | 7=>(.v (.int .i64 x.fMain.fC.fPen.fFlags))
  | 8=>(.v (.int .u8 x.fMain.fC.fSet.fG.x0))
  | 9=>(.v (.int .u8 x.fMain.fC.fSet.fG.x1))
  | 10=>(.v (.int .u8 x.fMain.fC.fSet.fG.x2))
  | 11=>(.v (.int .u8 x.fMain.fC.fSet.fG.x3))
  | 12=>(.v (.int .i64 x.fMain.fC.fSet.fGL))
  | 13=>(.v (.int .i64 x.fMain.fC.fSet.fGR))
  | 14=>(.v (.int .i64 x.fMain.fC.fSet.fOnce))
  | 15=>(.v (.int .i64 x.fMain.fR.fH))
  | 16=>(.v (.int .i64 x.fMain.fR.fW))
  | 17=>(.v (.int .i64 x.fMain.fR.fTop))
  | 18=>(.v (.int .i64 x.fMain.fR.fBottom))
  | 19=>(.sl 1 (nv.len x.fMain.fT.fL) false (fun ix jx=>(.v (.int .i64 (nv.get 0 x.fMain.fT.fL ix)))))
  | 20=>(.v (.int .i64 x.fMain.fT.fW))
  | 21=>(.sl 4 (nv.len x.fMain.fK.fRows) false (fun ix jx=>(D_api_Row nv (nv.get d_api_Row x.fMain.fK.fRows ix) jx)))
  | 22=>(.v (.int .i64 x.fMain.fK.fCap))
  | 23=>(.v (.int .i64 x.fMain.fDir))
  | 24=>(.v (.bool x.fMain.fExplicit))
  | 25=>(.sl 4 (nv.len x.fOther.fG.fRows) false (fun ix jx=>(D_api_Row nv (nv.get d_api_Row x.fOther.fG.fRows ix) jx)))
  | 26=>(.v (.int .i64 x.fOther.fC.fX))
  | 27=>(.v (.int .i64 x.fOther.fC.fY))
  | 28=>(.v (.bool x.fOther.fC.fWrap))
  | 29=>(.v (.bool x.fOther.fC.fOrigin))
  | 30=>(.v (.int .i64 x.fOther.fC.fPen.fFg))
  | 31=>(.v (.int .i64 x.fOther.fC.fPen.fBg))
  | 32=>(.v (.int .i64 x.fOther.fC.fPen.fFlags))
  | 33=>(.v (.int .u8 x.fOther.fC.fSet.fG.x0))
  | 34=>(.v (.int .u8 x.fOther.fC.fSet.fG.x1))
  | 35=>(.v (.int .u8 x.fOther.fC.fSet.fG.x2))
  | 36=>(.v (.int .u8 x.fOther.fC.fSet.fG.x3))
  | 37=>(.v (.int .i64 x.fOther.fC.fSet.fGL))
  | 38=>(.v (.int .i64 x.fOther.fC.fSet.fGR))
  | 39=>(.v (.int .i64 x.fOther.fC.fSet.fOnce))
  | 40=>(.v (.int .i64 x.fOther.fR.fH))
  | 41=>(.v (.int .i64 x.fOther.fR.fW))
  | 42=>(.v (.int .i64 x.fOther.fR.fTop))
  | 43=>(.v (.int .i64 x.fOther.fR.fBottom))
  | 44=>(.sl 1 (nv.len x.fOther.fT.fL) false (fun ix jx=>(.v (.int .i64 (nv.get 0 x.fOther.fT.fL ix)))))
  | 45=>(.v (.int .i64 x.fOther.fT.fW))
  | 46=>(.sl 4 (nv.len x.fOther.fK.fRows) false (fun ix jx=>(D_api_Row nv (nv.get d_api_Row x.fOther.fK.fRows ix) jx)))
  | 47=>(.v (.int .i64 x.fOther.fK.fCap))
  | 48=>(.v (.int .i64 x.fOther.fDir))
  | 49=>(.v (.bool x.fOther.fExplicit))
  | 50=>(.v (.bool x.fOn))
  | 51=>(.v (.int .i64 x.fM.fBits))
  | 52=>(.v (.int .i64 x.fSaved.x0.fX))
  | 53=>(.v (.int .i64 x.fSaved.x0.fY))
  | 54=>(.v (.bool x.fSaved.x0.fWrap))
  | 55=>(.v (.bool x.fSaved.x0.fOrigin))
  | 56=>(.v (.int .i64 x.fSaved.x0.fPen.fFg))
  | 57=>(.v (.int .i64 x.fSaved.x0.fPen.fBg))
  | 58=>(.v (.int .i64 x.fSaved.x0.fPen.fFlags))
  | 59=>(.v (.int .u8 x.fSaved.x0.fSet.fG.x0))
  | 60=>(.v (.int .u8 x.fSaved.x0.fSet.fG.x1))
  | 61=>(.v (.int .u8 x.fSaved.x0.fSet.fG.x2))
  | 62=>(.v (.int .u8 x.fSaved.x0.fSet.fG.x3))
  | 63=>(.v (.int .i64 x.fSaved.x0.fSet.fGL))
  | 64=>(.v (.int .i64 x.fSaved.x0.fSet.fGR))
  | 65=>(.v (.int .i64 x.fSaved.x0.fSet.fOnce))
  | 66=>(.v (.int .i64 x.fSaved.x1.fX))
  | 67=>(.v (.int .i64 x.fSaved.x1.fY))
  | 68=>(.v (.bool x.fSaved.x1.fWrap))
  | 69=>(.v (.bool x.fSaved.x1.fOrigin))
  | 70=>(.v (.int .i64 x.fSaved.x1.fPen.fFg))
  | 71=>(.v (.int .i64 x.fSaved.x1.fPen.fBg))
  | 72=>(.v (.int .i64 x.fSaved.x1.fPen.fFlags))
  | 73=>(.v (.int .u8 x.fSaved.x1.fSet.fG.x0))
  | 74=>(.v (.int .u8 x.fSaved.x1.fSet.fG.x1))
  | 75=>(.v (.int .u8 x.fSaved.x1.fSet.fG.x2))
  | 76=>(.v (.int .u8 x.fSaved.x1.fSet.fG.x3))
  | 77=>(.v (.int .i64 x.fSaved.x1.fSet.fGL))
  | 78=>(.v (.int .i64 x.fSaved.x1.fSet.fGR))
  | 79=>(.v (.int .i64 x.fSaved.x1.fSet.fOnce))
  | 80=>(.sl 1 (nv.len x.fOut) false (fun ix jx=>(.v (.int .u8 (nv.get 0 x.fOut ix)))))
  | 81=>(.v (.string x.fTitle))
  | 82=>(.v (.int .i64 x.fLast))
  | _=>.junk
def D_strings_span (nv:Nv) (x:T_strings_span) (j:Nat):D:=match j with
  | 0=>(.v (.int .i64 x.fstart))
  | 1=>(.v (.int .i64 x.fend))
  | _=>.junk
def D_ranges_Row (nv:Nv) (x:T_ranges_Row) (j:Nat):D:=match j with
  | 0=>(.v (.int .i64 x.fLo))
  | 1=>(.v (.int .i64 x.fHi))
  | 2=>(.v (.int .i64 x.fV))
  | _=>.junk
def D_ranges_Table (nv:Nv) (x:T_ranges_Table) (j:Nat):D:=match j with
  | 0=>(.sl 3 (nv.len x.fL) false (fun ix jx=>(D_ranges_Row nv (nv.get d_ranges_Row x.fL ix) jx)))
  | _=>.junk
def D_ucd_Pair (nv:Nv) (x:T_ucd_Pair) (j:Nat):D:=match j with
  | 0=>(.v (.int .i64 x.fA))
  | 1=>(.v (.int .i64 x.fB))
  | _=>.junk
def D_ucd_Form (nv:Nv) (x:T_ucd_Form) (j:Nat):D:=match j with
  | 0=>(.v (.int .i64 x.fR))
  | 1=>(.v (.int .i64 x.fAt))
  | 2=>(.v (.int .i64 x.fN))
  | _=>.junk
def D_ucd_Data (nv:Nv) (x:T_ucd_Data) (j:Nat):D:=match j with
  | 0=>(.sl 3 (nv.len x.fClass.fL) false (fun ix jx=>(D_ranges_Row nv (nv.get d_ranges_Row x.fClass.fL ix) jx)))
  | 1=>(.sl 3 (nv.len x.fWide.fL) false (fun ix jx=>(D_ranges_Row nv (nv.get d_ranges_Row x.fWide.fL ix) jx)))
  | 2=>(.sl 3 (nv.len x.fJoin.fL) false (fun ix jx=>(D_ranges_Row nv (nv.get d_ranges_Row x.fJoin.fL ix) jx)))
  | 3=>(.sl 2 (nv.len x.fMirror) false (fun ix jx=>(D_ucd_Pair nv (nv.get d_ucd_Pair x.fMirror ix) jx)))
  | 4=>(.sl 2 (nv.len x.fBrackets) false (fun ix jx=>(D_ucd_Pair nv (nv.get d_ucd_Pair x.fBrackets ix) jx)))
  | 5=>(.sl 3 (nv.len x.fForms) false (fun ix jx=>(D_ucd_Form nv (nv.get d_ucd_Form x.fForms ix) jx)))
  | _=>.junk
def D_api_Action (nv:Nv) (x:T_api_Action) (j:Nat):D:=match j with
  | 0=>(.v (.int .i64 x.fWhat))
  | 1=>(.v (.int .i64 x.fR))
  | 2=>(.v (.int .u8 x.fFinal))
  | 3=>(.v (.string x.fInter))
  | 4=>(.sl 1 (nv.len x.fParams) false (fun ix jx=>(.sl 1 (nv.len (nv.get [] x.fParams ix)) false (fun ix1 jx1=>(.v (.int .i64 (nv.get 0 (nv.get [] x.fParams ix) ix1)))))))
  | 5=>(.v (.string x.fText))
  | _=>.junk
def D_interp_line (nv:Nv) (x:T_interp_line) (j:Nat):D:=match j with
  | 0=>(.v (.string x.finter))
  | 1=>(.v (.int .u8 x.ffinal))
  | 2=>(.fn (.func (nv.fF x.fdo)) (nv.fK x.fdo) (nv.fC x.fdo))
  | _=>.junk
def D_Arr24_u8 (nv:Nv) (x:T_Arr24_u8) (j:Nat):D:=match j with
  | 0=>(.v (.int .u8 x.x0))
  | 1=>(.v (.int .u8 x.x1))
  | 2=>(.v (.int .u8 x.x2))
  | 3=>(.v (.int .u8 x.x3))
  | 4=>(.v (.int .u8 x.x4))
  | 5=>(.v (.int .u8 x.x5))
  | 6=>(.v (.int .u8 x.x6))
  | 7=>(.v (.int .u8 x.x7))
  | 8=>(.v (.int .u8 x.x8))
  | 9=>(.v (.int .u8 x.x9))
  | 10=>(.v (.int .u8 x.x10))
  | 11=>(.v (.int .u8 x.x11))
  | 12=>(.v (.int .u8 x.x12))
  | 13=>(.v (.int .u8 x.x13))
  | 14=>(.v (.int .u8 x.x14))
  | 15=>(.v (.int .u8 x.x15))
  | 16=>(.v (.int .u8 x.x16))
  | 17=>(.v (.int .u8 x.x17))
  | 18=>(.v (.int .u8 x.x18))
  | 19=>(.v (.int .u8 x.x19))
  | 20=>(.v (.int .u8 x.x20))
  | 21=>(.v (.int .u8 x.x21))
  | 22=>(.v (.int .u8 x.x22))
  | 23=>(.v (.int .u8 x.x23))
  | _=>.junk
def D_lapwingref09_Grid (nv:Nv) (x:T_lapwingref09_Grid) (j:Nat):D:=match j with
  | 0=>(.sl 4 (nv.len x.fRows) false (fun ix jx=>(D_api_Row nv (nv.get d_api_Row x.fRows ix) jx)))
  | _=>.junk
def D_lapwingref04_State (nv:Nv) (x:T_lapwingref04_State) (j:Nat):D:=match j with
  | 0=>(.v (.int .u8 x.fG.x0))
  | 1=>(.v (.int .u8 x.fG.x1))
  | 2=>(.v (.int .u8 x.fG.x2))
  | 3=>(.v (.int .u8 x.fG.x3))
  | 4=>(.v (.int .i64 x.fGL))
  | 5=>(.v (.int .i64 x.fGR))
  | 6=>(.v (.int .i64 x.fOnce))
  | _=>.junk
def D_lapwingref14_Cursor (nv:Nv) (x:T_lapwingref14_Cursor) (j:Nat):D:=match j with
  | 0=>(.v (.int .i64 x.fX))
  | 1=>(.v (.int .i64 x.fY))
  | 2=>(.v (.bool x.fWrap))
  | 3=>(.v (.bool x.fOrigin))
  | 4=>(.v (.int .i64 x.fPen.fFg))
  | 5=>(.v (.int .i64 x.fPen.fBg))
  | 6=>(.v (.int .i64 x.fPen.fFlags))
  | 7=>(.v (.int .u8 x.fSet.fG.x0))
  | 8=>(.v (.int .u8 x.fSet.fG.x1))
  | 9=>(.v (.int .u8 x.fSet.fG.x2))
  | 10=>(.v (.int .u8 x.fSet.fG.x3))
  | 11=>(.v (.int .i64 x.fSet.fGL))
  | 12=>(.v (.int .i64 x.fSet.fGR))
  | 13=>(.v (.int .i64 x.fSet.fOnce))
  | _=>.junk
def D_lapwingref14_Region (nv:Nv) (x:T_lapwingref14_Region) (j:Nat):D:=match j with
  | 0=>(.v (.int .i64 x.fH))
  | 1=>(.v (.int .i64 x.fW))
  | 2=>(.v (.int .i64 x.fTop))
  | 3=>(.v (.int .i64 x.fBottom))
  | _=>.junk
def D_lapwingref12_Stops (nv:Nv) (x:T_lapwingref12_Stops) (j:Nat):D:=match j with
  | 0=>(.sl 1 (nv.len x.fL) false (fun ix jx=>(.v (.int .i64 (nv.get 0 x.fL ix)))))
  | 1=>(.v (.int .i64 x.fW))
  | _=>.junk
def D_lapwingref10_Kept (nv:Nv) (x:T_lapwingref10_Kept) (j:Nat):D:=match j with
  | 0=>(.sl 4 (nv.len x.fRows) false (fun ix jx=>(D_api_Row nv (nv.get d_api_Row x.fRows ix) jx)))
  | 1=>(.v (.int .i64 x.fCap))
  | _=>.junk
def D_lapwingref15_Screen (nv:Nv) (x:T_lapwingref15_Screen) (j:Nat):D:=match j with
  | 0=>(.sl 4 (nv.len x.fG.fRows) false (fun ix jx=>(D_api_Row nv (nv.get d_api_Row x.fG.fRows ix) jx)))
  | 1=>(.v (.int .i64 x.fC.fX))
  | 2=>(.v (.int .i64 x.fC.fY))
  | 3=>(.v (.bool x.fC.fWrap))
  | 4=>(.v (.bool x.fC.fOrigin))
  | 5=>(.v (.int .i64 x.fC.fPen.fFg))
  | 6=>(.v (.int .i64 x.fC.fPen.fBg))
  | 7=>(.v (.int .i64 x.fC.fPen.fFlags))
  | 8=>(.v (.int .u8 x.fC.fSet.fG.x0))
  | 9=>(.v (.int .u8 x.fC.fSet.fG.x1))
  | 10=>(.v (.int .u8 x.fC.fSet.fG.x2))
  | 11=>(.v (.int .u8 x.fC.fSet.fG.x3))
  | 12=>(.v (.int .i64 x.fC.fSet.fGL))
  | 13=>(.v (.int .i64 x.fC.fSet.fGR))
  | 14=>(.v (.int .i64 x.fC.fSet.fOnce))
  | 15=>(.v (.int .i64 x.fR.fH))
  | 16=>(.v (.int .i64 x.fR.fW))
  | 17=>(.v (.int .i64 x.fR.fTop))
  | 18=>(.v (.int .i64 x.fR.fBottom))
  | 19=>(.sl 1 (nv.len x.fT.fL) false (fun ix jx=>(.v (.int .i64 (nv.get 0 x.fT.fL ix)))))
  | 20=>(.v (.int .i64 x.fT.fW))
  | 21=>(.sl 4 (nv.len x.fK.fRows) false (fun ix jx=>(D_api_Row nv (nv.get d_api_Row x.fK.fRows ix) jx)))
  | 22=>(.v (.int .i64 x.fK.fCap))
  | 23=>(.v (.int .i64 x.fDir))
  | 24=>(.v (.bool x.fExplicit))
  | _=>.junk
def D_lapwingref13_Modes (nv:Nv) (x:T_lapwingref13_Modes) (j:Nat):D:=match j with
  | 0=>(.v (.int .i64 x.fBits))
  | _=>.junk
def D_Arr2_lapwingref14_Cursor (nv:Nv) (x:T_Arr2_lapwingref14_Cursor) (j:Nat):D:=match j with
  | 0=>(.v (.int .i64 x.x0.fX))
  | 1=>(.v (.int .i64 x.x0.fY))
  | 2=>(.v (.bool x.x0.fWrap))
  | 3=>(.v (.bool x.x0.fOrigin))
  | 4=>(.v (.int .i64 x.x0.fPen.fFg))
  | 5=>(.v (.int .i64 x.x0.fPen.fBg))
  | 6=>(.v (.int .i64 x.x0.fPen.fFlags))
  | 7=>(.v (.int .u8 x.x0.fSet.fG.x0))
  | 8=>(.v (.int .u8 x.x0.fSet.fG.x1))
  | 9=>(.v (.int .u8 x.x0.fSet.fG.x2))
  | 10=>(.v (.int .u8 x.x0.fSet.fG.x3))
  | 11=>(.v (.int .i64 x.x0.fSet.fGL))
  | 12=>(.v (.int .i64 x.x0.fSet.fGR))
  | 13=>(.v (.int .i64 x.x0.fSet.fOnce))
  | 14=>(.v (.int .i64 x.x1.fX))
  | 15=>(.v (.int .i64 x.x1.fY))
  | 16=>(.v (.bool x.x1.fWrap))
  | 17=>(.v (.bool x.x1.fOrigin))
  | 18=>(.v (.int .i64 x.x1.fPen.fFg))
  | 19=>(.v (.int .i64 x.x1.fPen.fBg))
  | 20=>(.v (.int .i64 x.x1.fPen.fFlags))
  | 21=>(.v (.int .u8 x.x1.fSet.fG.x0))
  | 22=>(.v (.int .u8 x.x1.fSet.fG.x1))
  | 23=>(.v (.int .u8 x.x1.fSet.fG.x2))
  | 24=>(.v (.int .u8 x.x1.fSet.fG.x3))
  | 25=>(.v (.int .i64 x.x1.fSet.fGL))
  | 26=>(.v (.int .i64 x.x1.fSet.fGR))
  | 27=>(.v (.int .i64 x.x1.fSet.fOnce))
  | _=>.junk
def D_lapwingref16_State (nv:Nv) (x:T_lapwingref16_State) (j:Nat):D:=match j with
  | 0=>(.sl 4 (nv.len x.fMain.fG.fRows) false (fun ix jx=>(D_api_Row nv (nv.get d_api_Row x.fMain.fG.fRows ix) jx)))
  | 1=>(.v (.int .i64 x.fMain.fC.fX))
  | 2=>(.v (.int .i64 x.fMain.fC.fY))
  | 3=>(.v (.bool x.fMain.fC.fWrap))
  | 4=>(.v (.bool x.fMain.fC.fOrigin))
  | 5=>(.v (.int .i64 x.fMain.fC.fPen.fFg))
  | 6=>(.v (.int .i64 x.fMain.fC.fPen.fBg))
  | 7=>(.v (.int .i64 x.fMain.fC.fPen.fFlags))
  | 8=>(.v (.int .u8 x.fMain.fC.fSet.fG.x0))
  | 9=>(.v (.int .u8 x.fMain.fC.fSet.fG.x1))
  | 10=>(.v (.int .u8 x.fMain.fC.fSet.fG.x2))
  | 11=>(.v (.int .u8 x.fMain.fC.fSet.fG.x3))
  | 12=>(.v (.int .i64 x.fMain.fC.fSet.fGL))
  | 13=>(.v (.int .i64 x.fMain.fC.fSet.fGR))
  | 14=>(.v (.int .i64 x.fMain.fC.fSet.fOnce))
  | 15=>(.v (.int .i64 x.fMain.fR.fH))
  | 16=>(.v (.int .i64 x.fMain.fR.fW))
  | 17=>(.v (.int .i64 x.fMain.fR.fTop))
  | 18=>(.v (.int .i64 x.fMain.fR.fBottom))
  | 19=>(.sl 1 (nv.len x.fMain.fT.fL) false (fun ix jx=>(.v (.int .i64 (nv.get 0 x.fMain.fT.fL ix)))))
  | 20=>(.v (.int .i64 x.fMain.fT.fW))
  | 21=>(.sl 4 (nv.len x.fMain.fK.fRows) false (fun ix jx=>(D_api_Row nv (nv.get d_api_Row x.fMain.fK.fRows ix) jx)))
  | 22=>(.v (.int .i64 x.fMain.fK.fCap))
  | 23=>(.v (.int .i64 x.fMain.fDir))
  | 24=>(.v (.bool x.fMain.fExplicit))
  | 25=>(.sl 4 (nv.len x.fOther.fG.fRows) false (fun ix jx=>(D_api_Row nv (nv.get d_api_Row x.fOther.fG.fRows ix) jx)))
  | 26=>(.v (.int .i64 x.fOther.fC.fX))
  | 27=>(.v (.int .i64 x.fOther.fC.fY))
  | 28=>(.v (.bool x.fOther.fC.fWrap))
  | 29=>(.v (.bool x.fOther.fC.fOrigin))
  | 30=>(.v (.int .i64 x.fOther.fC.fPen.fFg))
  | 31=>(.v (.int .i64 x.fOther.fC.fPen.fBg))
  | 32=>(.v (.int .i64 x.fOther.fC.fPen.fFlags))
  | 33=>(.v (.int .u8 x.fOther.fC.fSet.fG.x0))
  | 34=>(.v (.int .u8 x.fOther.fC.fSet.fG.x1))
  | 35=>(.v (.int .u8 x.fOther.fC.fSet.fG.x2))
  | 36=>(.v (.int .u8 x.fOther.fC.fSet.fG.x3))
  | 37=>(.v (.int .i64 x.fOther.fC.fSet.fGL))
  | 38=>(.v (.int .i64 x.fOther.fC.fSet.fGR))
  | 39=>(.v (.int .i64 x.fOther.fC.fSet.fOnce))
  | 40=>(.v (.int .i64 x.fOther.fR.fH))
  | 41=>(.v (.int .i64 x.fOther.fR.fW))
  | 42=>(.v (.int .i64 x.fOther.fR.fTop))
  | 43=>(.v (.int .i64 x.fOther.fR.fBottom))
  | 44=>(.sl 1 (nv.len x.fOther.fT.fL) false (fun ix jx=>(.v (.int .i64 (nv.get 0 x.fOther.fT.fL ix)))))
  | 45=>(.v (.int .i64 x.fOther.fT.fW))
  | 46=>(.sl 4 (nv.len x.fOther.fK.fRows) false (fun ix jx=>(D_api_Row nv (nv.get d_api_Row x.fOther.fK.fRows ix) jx)))
  | 47=>(.v (.int .i64 x.fOther.fK.fCap))
  | 48=>(.v (.int .i64 x.fOther.fDir))
  | 49=>(.v (.bool x.fOther.fExplicit))
  | 50=>(.v (.bool x.fOn))
  | 51=>(.v (.int .i64 x.fM.fBits))
  | 52=>(.v (.int .i64 x.fSaved.x0.fX))
  | 53=>(.v (.int .i64 x.fSaved.x0.fY))
  | 54=>(.v (.bool x.fSaved.x0.fWrap))
  | 55=>(.v (.bool x.fSaved.x0.fOrigin))
  | 56=>(.v (.int .i64 x.fSaved.x0.fPen.fFg))
  | 57=>(.v (.int .i64 x.fSaved.x0.fPen.fBg))
  | 58=>(.v (.int .i64 x.fSaved.x0.fPen.fFlags))
  | 59=>(.v (.int .u8 x.fSaved.x0.fSet.fG.x0))
  | 60=>(.v (.int .u8 x.fSaved.x0.fSet.fG.x1))
  | 61=>(.v (.int .u8 x.fSaved.x0.fSet.fG.x2))
  | 62=>(.v (.int .u8 x.fSaved.x0.fSet.fG.x3))
  | 63=>(.v (.int .i64 x.fSaved.x0.fSet.fGL))
  | 64=>(.v (.int .i64 x.fSaved.x0.fSet.fGR))
  | 65=>(.v (.int .i64 x.fSaved.x0.fSet.fOnce))
  | 66=>(.v (.int .i64 x.fSaved.x1.fX))
  | 67=>(.v (.int .i64 x.fSaved.x1.fY))
  | 68=>(.v (.bool x.fSaved.x1.fWrap))
  | 69=>(.v (.bool x.fSaved.x1.fOrigin))
  | 70=>(.v (.int .i64 x.fSaved.x1.fPen.fFg))
  | 71=>(.v (.int .i64 x.fSaved.x1.fPen.fBg))
  | 72=>(.v (.int .i64 x.fSaved.x1.fPen.fFlags))
  | 73=>(.v (.int .u8 x.fSaved.x1.fSet.fG.x0))
  | 74=>(.v (.int .u8 x.fSaved.x1.fSet.fG.x1))
  | 75=>(.v (.int .u8 x.fSaved.x1.fSet.fG.x2))
  | 76=>(.v (.int .u8 x.fSaved.x1.fSet.fG.x3))
  | 77=>(.v (.int .i64 x.fSaved.x1.fSet.fGL))
  | 78=>(.v (.int .i64 x.fSaved.x1.fSet.fGR))
  | 79=>(.v (.int .i64 x.fSaved.x1.fSet.fOnce))
  | 80=>(.sl 1 (nv.len x.fOut) false (fun ix jx=>(.v (.int .u8 (nv.get 0 x.fOut ix)))))
  | 81=>(.v (.string x.fTitle))
  | 82=>(.v (.int .i64 x.fLast))
  | _=>.junk
theorem out_cursor_Region {P:Program} (x:T_cursor_Region) (j:Nat):out0 (std P) (D_cursor_Region nvS x j) (D_cursor_Region nvS x j):=match j with
  | 0=>out0_int _ _
  | 1=>out0_int _ _
  | 2=>out0_int _ _
  | 3=>out0_int _ _
  | _+4=>trivial
theorem out_Arr4_u8 {P:Program} (x:T_Arr4_u8) (j:Nat):out0 (std P) (D_Arr4_u8 nvS x j) (D_Arr4_u8 nvS x j):=match j with
  | 0=>out0_int _ _
  | 1=>out0_int _ _
  | 2=>out0_int _ _
  | 3=>out0_int _ _
  | _+4=>trivial
theorem out_charset_State {P:Program} (x:T_charset_State) (j:Nat):out0 (std P) (D_charset_State nvS x j) (D_charset_State nvS x j):=match j with
  | 0=>out0_int _ _
  | 1=>out0_int _ _
  | 2=>out0_int _ _
  | 3=>out0_int _ _
  | 4=>out0_int _ _
  | 5=>out0_int _ _
  | 6=>out0_int _ _
  | _+7=>trivial
theorem out_api_Pen {P:Program} (x:T_api_Pen) (j:Nat):out0 (std P) (D_api_Pen nvS x j) (D_api_Pen nvS x j):=match j with
  | 0=>out0_int _ _
  | 1=>out0_int _ _
  | 2=>out0_int _ _
  | _+3=>trivial
theorem out_cursor_Cursor {P:Program} (x:T_cursor_Cursor) (j:Nat):out0 (std P) (D_cursor_Cursor nvS x j) (D_cursor_Cursor nvS x j):=match j with
  | 0=>out0_int _ _
  | 1=>out0_int _ _
  | 2=>out0_bool _
  | 3=>out0_bool _
  | 4=>out0_int _ _
  | 5=>out0_int _ _
  | 6=>out0_int _ _
  | 7=>out0_int _ _
  | 8=>out0_int _ _
  | 9=>out0_int _ _
  | 10=>out0_int _ _
  | 11=>out0_int _ _
  | 12=>out0_int _ _
  | 13=>out0_int _ _
  | _+14=>trivial
theorem out_Arr2_i64 {P:Program} (x:T_Arr2_i64) (j:Nat):out0 (std P) (D_Arr2_i64 nvS x j) (D_Arr2_i64 nvS x j):=match j with
  | 0=>out0_int _ _
  | 1=>out0_int _ _
  | _+2=>trivial
theorem out_api_Cell {P:Program} (x:T_api_Cell) (j:Nat):out0 (std P) (D_api_Cell nvS x j) (D_api_Cell nvS x j):=match j with
  | 0=>out0_int _ _
  | 1=>out0_int _ _
  | 2=>out0_int _ _
  | 3=>out0_int _ _
  | 4=>out0_int _ _
  | 5=>out0_int _ _
  | 6=>out0_int _ _
  | _+7=>trivial
theorem out_api_Row {P:Program} (x:T_api_Row) (j:Nat):out0 (std P) (D_api_Row nvS x j) (D_api_Row nvS x j):=match j with
  | 0=>out0_sl (fun i j=>out_api_Cell _ _)
  | 1=>out0_bool _
  | 2=>out0_int _ _
  | 3=>out0_bool _
  | _+4=>trivial
theorem out_grid_Grid {P:Program} (x:T_grid_Grid) (j:Nat):out0 (std P) (D_grid_Grid nvS x j) (D_grid_Grid nvS x j):=match j with
  | 0=>out0_sl (fun i j=>out_api_Row _ _)
  | _+1=>trivial
theorem out_tabs_Stops {P:Program} (x:T_tabs_Stops) (j:Nat):out0 (std P) (D_tabs_Stops nvS x j) (D_tabs_Stops nvS x j):=match j with
  | 0=>out0_sl (fun i j=>out0_int _ _)
  | 1=>out0_int _ _
  | _+2=>trivial
theorem out_history_Kept {P:Program} (x:T_history_Kept) (j:Nat):out0 (std P) (D_history_Kept nvS x j) (D_history_Kept nvS x j):=match j with
  | 0=>out0_sl (fun i j=>out_api_Row _ _)
  | 1=>out0_int _ _
  | _+2=>trivial
theorem out_screen_Screen {P:Program} (x:T_screen_Screen) (j:Nat):out0 (std P) (D_screen_Screen nvS x j) (D_screen_Screen nvS x j):=match j with
  | 0=>out0_sl (fun i j=>out_api_Row _ _)
  | 1=>out0_int _ _
  | 2=>out0_int _ _
  | 3=>out0_bool _
  | 4=>out0_bool _
  | 5=>out0_int _ _
  | 6=>out0_int _ _
  | 7=>out0_int _ _
  | 8=>out0_int _ _
  | 9=>out0_int _ _
  | 10=>out0_int _ _
  | 11=>out0_int _ _
  | 12=>out0_int _ _
  | 13=>out0_int _ _
  | 14=>out0_int _ _
  | 15=>out0_int _ _
  | 16=>out0_int _ _
  | 17=>out0_int _ _
  | 18=>out0_int _ _
  | 19=>out0_sl (fun i j=>out0_int _ _)
  | 20=>out0_int _ _
  | 21=>out0_sl (fun i j=>out_api_Row _ _)
  | 22=>out0_int _ _
  | 23=>out0_int _ _
  | 24=>out0_bool _
  | _+25=>trivial
theorem out_modes_Modes {P:Program} (x:T_modes_Modes) (j:Nat):out0 (std P) (D_modes_Modes nvS x j) (D_modes_Modes nvS x j):=match j with
  | 0=>out0_int _ _
  | _+1=>trivial
theorem out_modes_mode {P:Program} (x:T_modes_mode) (j:Nat):out0 (std P) (D_modes_mode nvS x j) (D_modes_mode nvS x j):=match j with
  | 0=>out0_bool _
  | 1=>out0_int _ _
  | _+2=>trivial
theorem out_Arr24_modes_mode {P:Program} (x:T_Arr24_modes_mode) (j:Nat):out0 (std P) (D_Arr24_modes_mode nvS x j) (D_Arr24_modes_mode nvS x j):=match j with
  | 0=>out0_bool _
  | 1=>out0_int _ _
  | 2=>out0_bool _
  | 3=>out0_int _ _
  | 4=>out0_bool _
  | 5=>out0_int _ _
  | 6=>out0_bool _
  | 7=>out0_int _ _
  | 8=>out0_bool _
  | 9=>out0_int _ _
  | 10=>out0_bool _
  | 11=>out0_int _ _
  | 12=>out0_bool _
  | 13=>out0_int _ _
  | 14=>out0_bool _
  | 15=>out0_int _ _
  | 16=>out0_bool _
  | 17=>out0_int _ _
  | 18=>out0_bool _
  | 19=>out0_int _ _
  | 20=>out0_bool _
  | 21=>out0_int _ _
  | 22=>out0_bool _
  | 23=>out0_int _ _
  | 24=>out0_bool _
  | 25=>out0_int _ _
  | 26=>out0_bool _
  | 27=>out0_int _ _
  | 28=>out0_bool _
  | 29=>out0_int _ _
  | 30=>out0_bool _
  | 31=>out0_int _ _
  | 32=>out0_bool _
  | 33=>out0_int _ _
  | 34=>out0_bool _
  | 35=>out0_int _ _
  | 36=>out0_bool _
  | 37=>out0_int _ _
  | 38=>out0_bool _
  | 39=>out0_int _ _
  | 40=>out0_bool _
  | 41=>out0_int _ _
  | 42=>out0_bool _
  | 43=>out0_int _ _
  | 44=>out0_bool _
  | 45=>out0_int _ _
  | 46=>out0_bool _
  | 47=>out0_int _ _
  | _+48=>trivial
theorem out_Arr2_cursor_Cursor {P:Program} (x:T_Arr2_cursor_Cursor) (j:Nat):out0 (std P) (D_Arr2_cursor_Cursor nvS x j) (D_Arr2_cursor_Cursor nvS x j):=match j with
  | 0=>out0_int _ _
  | 1=>out0_int _ _
  | 2=>out0_bool _
  | 3=>out0_bool _
  | 4=>out0_int _ _
  | 5=>out0_int _ _
  | 6=>out0_int _ _
  | 7=>out0_int _ _
  | 8=>out0_int _ _
  | 9=>out0_int _ _
  | 10=>out0_int _ _
  | 11=>out0_int _ _
  | 12=>out0_int _ _
  | 13=>out0_int _ _
  | 14=>out0_int _ _
  | 15=>out0_int _ _
  | 16=>out0_bool _
  | 17=>out0_bool _
  | 18=>out0_int _ _
  | 19=>out0_int _ _
  | 20=>out0_int _ _
  | 21=>out0_int _ _
  | 22=>out0_int _ _
  | 23=>out0_int _ _
  | 24=>out0_int _ _
  | 25=>out0_int _ _
  | 26=>out0_int _ _
  | 27=>out0_int _ _
  | _+28=>trivial
theorem out_interp_State {P:Program} (x:T_interp_State) (j:Nat):out0 (std P) (D_interp_State nvS x j) (D_interp_State nvS x j):=match j with
  | 0=>out0_sl (fun i j=>out_api_Row _ _)
  | 1=>out0_int _ _
  | 2=>out0_int _ _
  | 3=>out0_bool _
  | 4=>out0_bool _
  | 5=>out0_int _ _
  | 6=>out0_int _ _
  | 7=>out0_int _ _
  | 8=>out0_int _ _
  | 9=>out0_int _ _
  | 10=>out0_int _ _
  | 11=>out0_int _ _
  | 12=>out0_int _ _
  | 13=>out0_int _ _
  | 14=>out0_int _ _
  | 15=>out0_int _ _
  | 16=>out0_int _ _
  | 17=>out0_int _ _
  | 18=>out0_int _ _
  | 19=>out0_sl (fun i j=>out0_int _ _)
  | 20=>out0_int _ _
  | 21=>out0_sl (fun i j=>out_api_Row _ _)
  | 22=>out0_int _ _
  | 23=>out0_int _ _
  | 24=>out0_bool _
  | 25=>out0_sl (fun i j=>out_api_Row _ _)
  | 26=>out0_int _ _
  | 27=>out0_int _ _
  | 28=>out0_bool _
  | 29=>out0_bool _
  | 30=>out0_int _ _
  | 31=>out0_int _ _
  | 32=>out0_int _ _
  | 33=>out0_int _ _
  | 34=>out0_int _ _
  | 35=>out0_int _ _
  | 36=>out0_int _ _
  | 37=>out0_int _ _
  | 38=>out0_int _ _
  | 39=>out0_int _ _
  | 40=>out0_int _ _
  | 41=>out0_int _ _
  | 42=>out0_int _ _
  | 43=>out0_int _ _
  | 44=>out0_sl (fun i j=>out0_int _ _)
  | 45=>out0_int _ _
  | 46=>out0_sl (fun i j=>out_api_Row _ _)
  | 47=>out0_int _ _
  | 48=>out0_int _ _
  | 49=>out0_bool _
  | 50=>out0_bool _
  | 51=>out0_int _ _
  | 52=>out0_int _ _
  | 53=>out0_int _ _
  | 54=>out0_bool _
  | 55=>out0_bool _
  | 56=>out0_int _ _
  | 57=>out0_int _ _
  | 58=>out0_int _ _
  | 59=>out0_int _ _
  | 60=>out0_int _ _
  | 61=>out0_int _ _
  | 62=>out0_int _ _
  | 63=>out0_int _ _
  | 64=>out0_int _ _
  | 65=>out0_int _ _
  | 66=>out0_int _ _
  | 67=>out0_int _ _
  | 68=>out0_bool _
  | 69=>out0_bool _
  | 70=>out0_int _ _
  | 71=>out0_int _ _
  | 72=>out0_int _ _
  | 73=>out0_int _ _
  | 74=>out0_int _ _
  | 75=>out0_int _ _
  | 76=>out0_int _ _
  | 77=>out0_int _ _
  | 78=>out0_int _ _
  | 79=>out0_int _ _
  | 80=>out0_sl (fun i j=>out0_int _ _)
  | 81=>out0_str _
  | 82=>out0_int _ _
  | _+83=>trivial
theorem out_strings_span {P:Program} (x:T_strings_span) (j:Nat):out0 (std P) (D_strings_span nvS x j) (D_strings_span nvS x j):=match j with
  | 0=>out0_int _ _
  | 1=>out0_int _ _
  | _+2=>trivial
theorem out_ranges_Row {P:Program} (x:T_ranges_Row) (j:Nat):out0 (std P) (D_ranges_Row nvS x j) (D_ranges_Row nvS x j):=match j with
  | 0=>out0_int _ _
  | 1=>out0_int _ _
  | 2=>out0_int _ _
  | _+3=>trivial
theorem out_ranges_Table {P:Program} (x:T_ranges_Table) (j:Nat):out0 (std P) (D_ranges_Table nvS x j) (D_ranges_Table nvS x j):=match j with
  | 0=>out0_sl (fun i j=>out_ranges_Row _ _)
  | _+1=>trivial
theorem out_ucd_Pair {P:Program} (x:T_ucd_Pair) (j:Nat):out0 (std P) (D_ucd_Pair nvS x j) (D_ucd_Pair nvS x j):=match j with
  | 0=>out0_int _ _
  | 1=>out0_int _ _
  | _+2=>trivial
theorem out_ucd_Form {P:Program} (x:T_ucd_Form) (j:Nat):out0 (std P) (D_ucd_Form nvS x j) (D_ucd_Form nvS x j):=match j with
  | 0=>out0_int _ _
  | 1=>out0_int _ _
  | 2=>out0_int _ _
  | _+3=>trivial
theorem out_ucd_Data {P:Program} (x:T_ucd_Data) (j:Nat):out0 (std P) (D_ucd_Data nvS x j) (D_ucd_Data nvS x j):=match j with
  | 0=>out0_sl (fun i j=>out_ranges_Row _ _)
  | 1=>out0_sl (fun i j=>out_ranges_Row _ _)
  | 2=>out0_sl (fun i j=>out_ranges_Row _ _)
  | 3=>out0_sl (fun i j=>out_ucd_Pair _ _)
  | 4=>out0_sl (fun i j=>out_ucd_Pair _ _)
  | 5=>out0_sl (fun i j=>out_ucd_Form _ _)
  | _+6=>trivial
theorem out_api_Action {P:Program} (x:T_api_Action) (j:Nat):out0 (std P) (D_api_Action nvS x j) (D_api_Action nvS x j):=match j with
  | 0=>out0_int _ _
  | 1=>out0_int _ _
  | 2=>out0_int _ _
  | 3=>out0_str _
  | 4=>out0_sl (fun i j=>out0_sl (fun i j=>out0_int _ _))
  | 5=>out0_str _
  | _+6=>trivial
theorem out_interp_line {P:Program} (x:T_interp_line) (j:Nat):out0 (std P) (D_interp_line nvS x j) (D_interp_line nvS x j):=match j with
  | 0=>out0_str _
  | 1=>out0_int _ _
  | 2=>out0_fv _
  | _+3=>trivial
theorem out_Arr24_u8 {P:Program} (x:T_Arr24_u8) (j:Nat):out0 (std P) (D_Arr24_u8 nvS x j) (D_Arr24_u8 nvS x j):=match j with
  | 0=>out0_int _ _
  | 1=>out0_int _ _
  | 2=>out0_int _ _
  | 3=>out0_int _ _
  | 4=>out0_int _ _
  | 5=>out0_int _ _
  | 6=>out0_int _ _
  | 7=>out0_int _ _
  | 8=>out0_int _ _
  | 9=>out0_int _ _
  | 10=>out0_int _ _
  | 11=>out0_int _ _
  | 12=>out0_int _ _
  | 13=>out0_int _ _
  | 14=>out0_int _ _
  | 15=>out0_int _ _
  | 16=>out0_int _ _
  | 17=>out0_int _ _
  | 18=>out0_int _ _
  | 19=>out0_int _ _
  | 20=>out0_int _ _
  | 21=>out0_int _ _
  | 22=>out0_int _ _
  | 23=>out0_int _ _
  | _+24=>trivial
theorem out_lapwingref09_Grid {P:Program} (x:T_lapwingref09_Grid) (j:Nat):out0 (std P) (D_lapwingref09_Grid nvS x j) (D_lapwingref09_Grid nvS x j):=match j with
  | 0=>out0_sl (fun i j=>out_api_Row _ _)
  | _+1=>trivial
theorem out_lapwingref04_State {P:Program} (x:T_lapwingref04_State) (j:Nat):out0 (std P) (D_lapwingref04_State nvS x j) (D_lapwingref04_State nvS x j):=match j with
  | 0=>out0_int _ _
  | 1=>out0_int _ _
  | 2=>out0_int _ _
  | 3=>out0_int _ _
  | 4=>out0_int _ _
  | 5=>out0_int _ _
  | 6=>out0_int _ _
  | _+7=>trivial
theorem out_lapwingref14_Cursor {P:Program} (x:T_lapwingref14_Cursor) (j:Nat):out0 (std P) (D_lapwingref14_Cursor nvS x j) (D_lapwingref14_Cursor nvS x j):=match j with
  | 0=>out0_int _ _
  | 1=>out0_int _ _
  | 2=>out0_bool _
  | 3=>out0_bool _
  | 4=>out0_int _ _
  | 5=>out0_int _ _
  | 6=>out0_int _ _
  | 7=>out0_int _ _
  | 8=>out0_int _ _
  | 9=>out0_int _ _
  | 10=>out0_int _ _
  | 11=>out0_int _ _
  | 12=>out0_int _ _
  | 13=>out0_int _ _
  | _+14=>trivial
theorem out_lapwingref14_Region {P:Program} (x:T_lapwingref14_Region) (j:Nat):out0 (std P) (D_lapwingref14_Region nvS x j) (D_lapwingref14_Region nvS x j):=match j with
  | 0=>out0_int _ _
  | 1=>out0_int _ _
  | 2=>out0_int _ _
  | 3=>out0_int _ _
  | _+4=>trivial
theorem out_lapwingref12_Stops {P:Program} (x:T_lapwingref12_Stops) (j:Nat):out0 (std P) (D_lapwingref12_Stops nvS x j) (D_lapwingref12_Stops nvS x j):=match j with
  | 0=>out0_sl (fun i j=>out0_int _ _)
  | 1=>out0_int _ _
  | _+2=>trivial
theorem out_lapwingref10_Kept {P:Program} (x:T_lapwingref10_Kept) (j:Nat):out0 (std P) (D_lapwingref10_Kept nvS x j) (D_lapwingref10_Kept nvS x j):=match j with
  | 0=>out0_sl (fun i j=>out_api_Row _ _)
  | 1=>out0_int _ _
  | _+2=>trivial
theorem out_lapwingref15_Screen {P:Program} (x:T_lapwingref15_Screen) (j:Nat):out0 (std P) (D_lapwingref15_Screen nvS x j) (D_lapwingref15_Screen nvS x j):=match j with
  | 0=>out0_sl (fun i j=>out_api_Row _ _)
  | 1=>out0_int _ _
  | 2=>out0_int _ _
  | 3=>out0_bool _
  | 4=>out0_bool _
  | 5=>out0_int _ _
  | 6=>out0_int _ _
  | 7=>out0_int _ _
  | 8=>out0_int _ _
  | 9=>out0_int _ _
  | 10=>out0_int _ _
  | 11=>out0_int _ _
  | 12=>out0_int _ _
  | 13=>out0_int _ _
  | 14=>out0_int _ _
  | 15=>out0_int _ _
  | 16=>out0_int _ _
  | 17=>out0_int _ _
  | 18=>out0_int _ _
  | 19=>out0_sl (fun i j=>out0_int _ _)
  | 20=>out0_int _ _
  | 21=>out0_sl (fun i j=>out_api_Row _ _)
  | 22=>out0_int _ _
  | 23=>out0_int _ _
  | 24=>out0_bool _
  | _+25=>trivial
theorem out_lapwingref13_Modes {P:Program} (x:T_lapwingref13_Modes) (j:Nat):out0 (std P) (D_lapwingref13_Modes nvS x j) (D_lapwingref13_Modes nvS x j):=match j with
  | 0=>out0_int _ _
  | _+1=>trivial
theorem out_Arr2_lapwingref14_Cursor {P:Program} (x:T_Arr2_lapwingref14_Cursor) (j:Nat):out0 (std P) (D_Arr2_lapwingref14_Cursor nvS x j) (D_Arr2_lapwingref14_Cursor nvS x j):=match j with
  | 0=>out0_int _ _
  | 1=>out0_int _ _
  | 2=>out0_bool _
  | 3=>out0_bool _
  | 4=>out0_int _ _
  | 5=>out0_int _ _
  | 6=>out0_int _ _
  | 7=>out0_int _ _
  | 8=>out0_int _ _
  | 9=>out0_int _ _
  | 10=>out0_int _ _
  | 11=>out0_int _ _
  | 12=>out0_int _ _
  | 13=>out0_int _ _
  | 14=>out0_int _ _
  | 15=>out0_int _ _
  | 16=>out0_bool _
  | 17=>out0_bool _
  | 18=>out0_int _ _
  | 19=>out0_int _ _
  | 20=>out0_int _ _
  | 21=>out0_int _ _
  | 22=>out0_int _ _
  | 23=>out0_int _ _
  | 24=>out0_int _ _
  | 25=>out0_int _ _
  | 26=>out0_int _ _
  | 27=>out0_int _ _
  | _+28=>trivial
theorem out_lapwingref16_State {P:Program} (x:T_lapwingref16_State) (j:Nat):out0 (std P) (D_lapwingref16_State nvS x j) (D_lapwingref16_State nvS x j):=match j with
  | 0=>out0_sl (fun i j=>out_api_Row _ _)
  | 1=>out0_int _ _
  | 2=>out0_int _ _
  | 3=>out0_bool _
  | 4=>out0_bool _
  | 5=>out0_int _ _
  | 6=>out0_int _ _
  | 7=>out0_int _ _
  | 8=>out0_int _ _
  | 9=>out0_int _ _
  | 10=>out0_int _ _
  | 11=>out0_int _ _
  | 12=>out0_int _ _
  | 13=>out0_int _ _
  | 14=>out0_int _ _
  | 15=>out0_int _ _
  | 16=>out0_int _ _
  | 17=>out0_int _ _
  | 18=>out0_int _ _
  | 19=>out0_sl (fun i j=>out0_int _ _)
  | 20=>out0_int _ _
  | 21=>out0_sl (fun i j=>out_api_Row _ _)
  | 22=>out0_int _ _
  | 23=>out0_int _ _
  | 24=>out0_bool _
  | 25=>out0_sl (fun i j=>out_api_Row _ _)
  | 26=>out0_int _ _
  | 27=>out0_int _ _
  | 28=>out0_bool _
  | 29=>out0_bool _
  | 30=>out0_int _ _
  | 31=>out0_int _ _
  | 32=>out0_int _ _
  | 33=>out0_int _ _
  | 34=>out0_int _ _
  | 35=>out0_int _ _
  | 36=>out0_int _ _
  | 37=>out0_int _ _
  | 38=>out0_int _ _
  | 39=>out0_int _ _
  | 40=>out0_int _ _
  | 41=>out0_int _ _
  | 42=>out0_int _ _
  | 43=>out0_int _ _
  | 44=>out0_sl (fun i j=>out0_int _ _)
  | 45=>out0_int _ _
  | 46=>out0_sl (fun i j=>out_api_Row _ _)
  | 47=>out0_int _ _
  | 48=>out0_int _ _
  | 49=>out0_bool _
  | 50=>out0_bool _
  | 51=>out0_int _ _
  | 52=>out0_int _ _
  | 53=>out0_int _ _
  | 54=>out0_bool _
  | 55=>out0_bool _
  | 56=>out0_int _ _
  | 57=>out0_int _ _
  | 58=>out0_int _ _
  | 59=>out0_int _ _
  | 60=>out0_int _ _
  | 61=>out0_int _ _
  | 62=>out0_int _ _
  | 63=>out0_int _ _
  | 64=>out0_int _ _
  | 65=>out0_int _ _
  | 66=>out0_int _ _
  | 67=>out0_int _ _
  | 68=>out0_bool _
  | 69=>out0_bool _
  | 70=>out0_int _ _
  | 71=>out0_int _ _
  | 72=>out0_int _ _
  | 73=>out0_int _ _
  | 74=>out0_int _ _
  | 75=>out0_int _ _
  | 76=>out0_int _ _
  | 77=>out0_int _ _
  | 78=>out0_int _ _
  | 79=>out0_int _ _
  | 80=>out0_sl (fun i j=>out0_int _ _)
  | 81=>out0_str _
  | 82=>out0_int _ _
  | _+83=>trivial
def tt0:TT:=[(2,⟨1,8,.int .i64,some [.int .i64 0],none,true⟩),
  (3,⟨1,8,.int .i64,some [.int .i64 0],none,true⟩),
  (4,⟨1,1,.bool,some [.bool false],none,true⟩),
  (5,⟨1,1,.int .u8,some [.int .u8 0],none,true⟩),
  (9,⟨1,16,.string,some [.string ⟨#[]⟩],none,true⟩),
  (21,⟨1,4,.int .i32,some [.int .i32 0],none,true⟩),
  (22,⟨1,24,.slice 133,some [.slice none 0 0],none,true⟩),
  (24,⟨1,24,.struct [(0,22)],some [.slice none 0 0],none,false⟩),
  (26,⟨3,24,.struct [(0,3),(1,3),(2,3)],some [.int .i64 0,.int .i64 0,.int .i64 0],some [.int .i64,.int .i64,.int .i64],false⟩),
  (27,⟨4,4,.array 4 5,some [.int .u8 0,.int .u8 0,.int .u8 0,.int .u8 0],some [.int .u8,.int .u8,.int .u8,.int .u8],false⟩),
  (29,⟨7,32,.struct [(0,27),(4,3),(5,3),(6,3)],some [.int .u8 0,.int .u8 0,.int .u8 0,.int .u8 0,.int .i64 0,.int .i64 0,.int .i64 0],some [.int .u8,.int .u8,.int .u8,.int .u8,.int .i64,.int .i64,.int .i64],false⟩),
  (31,⟨14,80,.struct [(0,3),(1,3),(2,4),(3,4),(4,26),(7,29)],some [.int .i64 0,.int .i64 0,.bool false,.bool false,.int .i64 0,.int .i64 0,.int .i64 0,.int .u8 0,.int .u8 0,.int .u8 0,.int .u8 0,.int .i64 0,.int .i64 0,.int .i64 0],some [.int .i64,.int .i64,.bool,.bool,.int .i64,.int .i64,.int .i64,.int .u8,.int .u8,.int .u8,.int .u8,.int .i64,.int .i64,.int .i64],false⟩),
  (33,⟨4,32,.struct [(0,3),(1,3),(2,3),(3,3)],some [.int .i64 0,.int .i64 0,.int .i64 0,.int .i64 0],some [.int .i64,.int .i64,.int .i64,.int .i64],false⟩),
  (34,⟨1,24,.slice 3,some [.slice none 0 0],none,true⟩),
  (36,⟨2,32,.struct [(0,34),(1,3)],some [.slice none 0 0,.int .i64 0],none,false⟩),
  (38,⟨2,32,.struct [(0,22),(1,3)],some [.slice none 0 0,.int .i64 0],none,false⟩),
  (40,⟨25,216,.struct [(0,24),(1,31),(15,33),(19,36),(21,38),(23,3),(24,4)],some [.slice none 0 0,.int .i64 0,.int .i64 0,.bool false,.bool false,.int .i64 0,.int .i64 0,.int .i64 0,.int .u8 0,.int .u8 0,.int .u8 0,.int .u8 0,.int .i64 0,.int .i64 0,.int .i64 0,.int .i64 0,.int .i64 0,.int .i64 0,.int .i64 0,.slice none 0 0,.int .i64 0,.slice none 0 0,.int .i64 0,.int .i64 0,.bool false],none,false⟩),
  (42,⟨1,8,.struct [(0,3)],some [.int .i64 0],some [.int .i64],false⟩),
  (43,⟨28,160,.array 2 31,some [.int .i64 0,.int .i64 0,.bool false,.bool false,.int .i64 0,.int .i64 0,.int .i64 0,.int .u8 0,.int .u8 0,.int .u8 0,.int .u8 0,.int .i64 0,.int .i64 0,.int .i64 0,.int .i64 0,.int .i64 0,.bool false,.bool false,.int .i64 0,.int .i64 0,.int .i64 0,.int .u8 0,.int .u8 0,.int .u8 0,.int .u8 0,.int .i64 0,.int .i64 0,.int .i64 0],some [.int .i64,.int .i64,.bool,.bool,.int .i64,.int .i64,.int .i64,.int .u8,.int .u8,.int .u8,.int .u8,.int .i64,.int .i64,.int .i64,.int .i64,.int .i64,.bool,.bool,.int .i64,.int .i64,.int .i64,.int .u8,.int .u8,.int .u8,.int .u8,.int .i64,.int .i64,.int .i64],false⟩),
  (44,⟨1,24,.slice 5,some [.slice none 0 0],none,true⟩),
  (46,⟨83,656,.struct [(0,40),(25,40),(50,4),(51,42),(52,43),(80,44),(81,9),(82,3)],some [.slice none 0 0,.int .i64 0,.int .i64 0,.bool false,.bool false,.int .i64 0,.int .i64 0,.int .i64 0,.int .u8 0,.int .u8 0,.int .u8 0,.int .u8 0,.int .i64 0,.int .i64 0,.int .i64 0,.int .i64 0,.int .i64 0,.int .i64 0,.int .i64 0,.slice none 0 0,.int .i64 0,.slice none 0 0,.int .i64 0,.int .i64 0,.bool false,.slice none 0 0,.int .i64 0,.int .i64 0,.bool false,.bool false,.int .i64 0,.int .i64 0,.int .i64 0,.int .u8 0,.int .u8 0,.int .u8 0,.int .u8 0,.int .i64 0,.int .i64 0,.int .i64 0,.int .i64 0,.int .i64 0,.int .i64 0,.int .i64 0,.slice none 0 0,.int .i64 0,.slice none 0 0,.int .i64 0,.int .i64 0,.bool false,.bool false,.int .i64 0,.int .i64 0,.int .i64 0,.bool false,.bool false,.int .i64 0,.int .i64 0,.int .i64 0,.int .u8 0,.int .u8 0,.int .u8 0,.int .u8 0,.int .i64 0,.int .i64 0,.int .i64 0,.int .i64 0,.int .i64 0,.bool false,.bool false,.int .i64 0,.int .i64 0,.int .i64 0,.int .u8 0,.int .u8 0,.int .u8 0,.int .u8 0,.int .i64 0,.int .i64 0,.int .i64 0,.slice none 0 0,.string ⟨#[]⟩,.int .i64 0],none,false⟩),
  (47,⟨1,24,.slice 34,some [.slice none 0 0],none,true⟩),
  (49,⟨6,80,.struct [(0,3),(1,3),(2,5),(3,9),(4,47),(5,9)],some [.int .i64 0,.int .i64 0,.int .u8 0,.string ⟨#[]⟩,.slice none 0 0,.string ⟨#[]⟩],none,false⟩),
  (53,⟨1,24,.slice 49,some [.slice none 0 0],none,true⟩),
  (56,⟨1,24,.struct [(0,22)],some [.slice none 0 0],none,false⟩),
  (57,⟨7,32,.struct [(0,27),(4,3),(5,3),(6,3)],some [.int .u8 0,.int .u8 0,.int .u8 0,.int .u8 0,.int .i64 0,.int .i64 0,.int .i64 0],some [.int .u8,.int .u8,.int .u8,.int .u8,.int .i64,.int .i64,.int .i64],false⟩),
  (59,⟨14,80,.struct [(0,3),(1,3),(2,4),(3,4),(4,26),(7,57)],some [.int .i64 0,.int .i64 0,.bool false,.bool false,.int .i64 0,.int .i64 0,.int .i64 0,.int .u8 0,.int .u8 0,.int .u8 0,.int .u8 0,.int .i64 0,.int .i64 0,.int .i64 0],some [.int .i64,.int .i64,.bool,.bool,.int .i64,.int .i64,.int .i64,.int .u8,.int .u8,.int .u8,.int .u8,.int .i64,.int .i64,.int .i64],false⟩),
  (60,⟨4,32,.struct [(0,3),(1,3),(2,3),(3,3)],some [.int .i64 0,.int .i64 0,.int .i64 0,.int .i64 0],some [.int .i64,.int .i64,.int .i64,.int .i64],false⟩),
  (61,⟨2,32,.struct [(0,34),(1,3)],some [.slice none 0 0,.int .i64 0],none,false⟩),
  (62,⟨2,32,.struct [(0,22),(1,3)],some [.slice none 0 0,.int .i64 0],none,false⟩),
  (64,⟨25,216,.struct [(0,56),(1,59),(15,60),(19,61),(21,62),(23,3),(24,4)],some [.slice none 0 0,.int .i64 0,.int .i64 0,.bool false,.bool false,.int .i64 0,.int .i64 0,.int .i64 0,.int .u8 0,.int .u8 0,.int .u8 0,.int .u8 0,.int .i64 0,.int .i64 0,.int .i64 0,.int .i64 0,.int .i64 0,.int .i64 0,.int .i64 0,.slice none 0 0,.int .i64 0,.slice none 0 0,.int .i64 0,.int .i64 0,.bool false],none,false⟩),
  (65,⟨1,8,.struct [(0,3)],some [.int .i64 0],some [.int .i64],false⟩),
  (66,⟨28,160,.array 2 59,some [.int .i64 0,.int .i64 0,.bool false,.bool false,.int .i64 0,.int .i64 0,.int .i64 0,.int .u8 0,.int .u8 0,.int .u8 0,.int .u8 0,.int .i64 0,.int .i64 0,.int .i64 0,.int .i64 0,.int .i64 0,.bool false,.bool false,.int .i64 0,.int .i64 0,.int .i64 0,.int .u8 0,.int .u8 0,.int .u8 0,.int .u8 0,.int .i64 0,.int .i64 0,.int .i64 0],some [.int .i64,.int .i64,.bool,.bool,.int .i64,.int .i64,.int .i64,.int .u8,.int .u8,.int .u8,.int .u8,.int .i64,.int .i64,.int .i64,.int .i64,.int .i64,.bool,.bool,.int .i64,.int .i64,.int .i64,.int .u8,.int .u8,.int .u8,.int .u8,.int .i64,.int .i64,.int .i64],false⟩),
  (68,⟨83,656,.struct [(0,64),(25,64),(50,4),(51,65),(52,66),(80,44),(81,9),(82,3)],some [.slice none 0 0,.int .i64 0,.int .i64 0,.bool false,.bool false,.int .i64 0,.int .i64 0,.int .i64 0,.int .u8 0,.int .u8 0,.int .u8 0,.int .u8 0,.int .i64 0,.int .i64 0,.int .i64 0,.int .i64 0,.int .i64 0,.int .i64 0,.int .i64 0,.slice none 0 0,.int .i64 0,.slice none 0 0,.int .i64 0,.int .i64 0,.bool false,.slice none 0 0,.int .i64 0,.int .i64 0,.bool false,.bool false,.int .i64 0,.int .i64 0,.int .i64 0,.int .u8 0,.int .u8 0,.int .u8 0,.int .u8 0,.int .i64 0,.int .i64 0,.int .i64 0,.int .i64 0,.int .i64 0,.int .i64 0,.int .i64 0,.slice none 0 0,.int .i64 0,.slice none 0 0,.int .i64 0,.int .i64 0,.bool false,.bool false,.int .i64 0,.int .i64 0,.int .i64 0,.bool false,.bool false,.int .i64 0,.int .i64 0,.int .i64 0,.int .u8 0,.int .u8 0,.int .u8 0,.int .u8 0,.int .i64 0,.int .i64 0,.int .i64 0,.int .i64 0,.int .i64 0,.bool false,.bool false,.int .i64 0,.int .i64 0,.int .i64 0,.int .u8 0,.int .u8 0,.int .u8 0,.int .u8 0,.int .i64 0,.int .i64 0,.int .i64 0,.slice none 0 0,.string ⟨#[]⟩,.int .i64 0],none,false⟩),
  (71,⟨1,24,.slice 164,some [.slice none 0 0],none,true⟩),
  (73,⟨1,24,.struct [(0,71)],some [.slice none 0 0],none,false⟩),
  (74,⟨1,24,.slice 166,some [.slice none 0 0],none,true⟩),
  (75,⟨1,24,.slice 168,some [.slice none 0 0],none,true⟩),
  (77,⟨6,144,.struct [(0,73),(1,73),(2,73),(3,74),(4,74),(5,75)],some [.slice none 0 0,.slice none 0 0,.slice none 0 0,.slice none 0 0,.slice none 0 0,.slice none 0 0],none,false⟩),
  (99,⟨1,8,.other,some [.nilFunc],none,true⟩),
  (101,⟨1,24,.slice 145,some [.slice none 0 0],none,true⟩),
  (125,⟨1,16,.iface,some [.nilIface],none,true⟩),
  (131,⟨1,24,.slice 196,some [.slice none 0 0],none,true⟩),
  (133,⟨4,48,.struct [(0,131),(1,4),(2,3),(3,4)],some [.slice none 0 0,.bool false,.int .i64 0,.bool false],none,false⟩),
  (141,⟨1,8,.other,some [.nilFunc],none,true⟩),
  (145,⟨3,32,.struct [(0,9),(1,5),(2,99)],some [.string ⟨#[]⟩,.int .u8 0,.nilFunc],none,false⟩),
  (153,⟨1,8,.other,some [.nilFunc],none,true⟩),
  (157,⟨1,8,.other,some [.nilFunc],none,true⟩),
  (160,⟨1,24,.slice 9,some [.slice none 0 0],none,true⟩),
  (164,⟨3,24,.struct [(0,3),(1,3),(2,3)],some [.int .i64 0,.int .i64 0,.int .i64 0],some [.int .i64,.int .i64,.int .i64],false⟩),
  (166,⟨2,16,.struct [(0,3),(1,3)],some [.int .i64 0,.int .i64 0],some [.int .i64,.int .i64],false⟩),
  (168,⟨3,24,.struct [(0,3),(1,3),(2,3)],some [.int .i64 0,.int .i64 0,.int .i64 0],some [.int .i64,.int .i64,.int .i64],false⟩),
  (189,⟨1,24,.slice 190,some [.slice none 0 0],none,true⟩),
  (190,⟨1,8,.other,some [.nilFunc],none,true⟩),
  (194,⟨2,16,.array 2 3,some [.int .i64 0,.int .i64 0],some [.int .i64,.int .i64],false⟩),
  (196,⟨7,56,.struct [(0,3),(1,194),(3,3),(4,26)],some [.int .i64 0,.int .i64 0,.int .i64 0,.int .i64 0,.int .i64 0,.int .i64 0,.int .i64 0],some [.int .i64,.int .i64,.int .i64,.int .i64,.int .i64,.int .i64,.int .i64],false⟩),
  (203,⟨1,8,.other,some [.nilFunc],none,true⟩),
  (228,⟨256,256,.array 256 5,some [.int .u8 0,.int .u8 0,.int .u8 0,.int .u8 0,.int .u8 0,.int .u8 0,.int .u8 0,.int .u8 0,.int .u8 0,.int .u8 0,.int .u8 0,.int .u8 0,.int .u8 0,.int .u8 0,.int .u8 0,.int .u8 0,.int .u8 0,.int .u8 0,.int .u8 0,.int .u8 0,.int .u8 0,.int .u8 0,.int .u8 0,.int .u8 0,.int .u8 0,.int .u8 0,.int .u8 0,.int .u8 0,.int .u8 0,.int .u8 0,.int .u8 0,.int .u8 0,.int .u8 0,.int .u8 0,.int .u8 0,.int .u8 0,.int .u8 0,.int .u8 0,.int .u8 0,.int .u8 0,.int .u8 0,.int .u8 0,.int .u8 0,.int .u8 0,.int .u8 0,.int .u8 0,.int .u8 0,.int .u8 0,.int .u8 0,.int .u8 0,.int .u8 0,.int .u8 0,.int .u8 0,.int .u8 0,.int .u8 0,.int .u8 0,.int .u8 0,.int .u8 0,.int .u8 0,.int .u8 0,.int .u8 0,.int .u8 0,.int .u8 0,.int .u8 0,.int .u8 0,.int .u8 0,.int .u8 0,.int .u8 0,.int .u8 0,.int .u8 0,.int .u8 0,.int .u8 0,.int .u8 0,.int .u8 0,.int .u8 0,.int .u8 0,.int .u8 0,.int .u8 0,.int .u8 0,.int .u8 0,.int .u8 0,.int .u8 0,.int .u8 0,.int .u8 0,.int .u8 0,.int .u8 0,.int .u8 0,.int .u8 0,.int .u8 0,.int .u8 0,.int .u8 0,.int .u8 0,.int .u8 0,.int .u8 0,.int .u8 0,.int .u8 0,.int .u8 0,.int .u8 0,.int .u8 0,.int .u8 0,.int .u8 0,.int .u8 0,.int .u8 0,.int .u8 0,.int .u8 0,.int .u8 0,.int .u8 0,.int .u8 0,.int .u8 0,.int .u8 0,.int .u8 0,.int .u8 0,.int .u8 0,.int .u8 0,.int .u8 0,.int .u8 0,.int .u8 0,.int .u8 0,.int .u8 0,.int .u8 0,.int .u8 0,.int .u8 0,.int .u8 0,.int .u8 0,.int .u8 0,.int .u8 0,.int .u8 0,.int .u8 0,.int .u8 0,.int .u8 0,.int .u8 0,.int .u8 0,.int .u8 0,.int .u8 0,.int .u8 0,.int .u8 0,.int .u8 0,.int .u8 0,.int .u8 0,.int .u8 0,.int .u8 0,.int .u8 0,.int .u8 0,.int .u8 0,.int .u8 0,.int .u8 0,.int .u8 0,.int .u8 0,.int .u8 0,.int .u8 0,.int .u8 0,.int .u8 0,.int .u8 0,.int .u8 0,.int .u8 0,.int .u8 0,.int .u8 0,.int .u8 0,.int .u8 0,.int .u8 0,.int .u8 0,.int .u8 0,.int .u8 0,.int .u8 0,.int .u8 0,.int .u8 0,.int .u8 0,.int .u8 0,.int .u8 0,.int .u8 0,.int .u8 0,.int .u8 0,.int .u8 0,.int .u8 0,.int .u8 0,.int .u8 0,.int .u8 0,.int .u8 0,.int .u8 0,.int .u8 0,.int .u8 0,.int .u8 0,.int .u8 0,.int .u8 0,.int .u8 0,.int .u8 0,.int .u8 0,.int .u8 0,.int .u8 0,.int .u8 0,.int .u8 0,.int .u8 0,.int .u8 0,.int .u8 0,.int .u8 0,.int .u8 0,.int .u8 0,.int .u8 0,.int .u8 0,.int .u8 0,.int .u8 0,.int .u8 0,.int .u8 0,.int .u8 0,.int .u8 0,.int .u8 0,.int .u8 0,.int .u8 0,.int .u8 0,.int .u8 0,.int .u8 0,.int .u8 0,.int .u8 0,.int .u8 0,.int .u8 0,.int .u8 0,.int .u8 0,.int .u8 0,.int .u8 0,.int .u8 0,.int .u8 0,.int .u8 0,.int .u8 0,.int .u8 0,.int .u8 0,.int .u8 0,.int .u8 0,.int .u8 0,.int .u8 0,.int .u8 0,.int .u8 0,.int .u8 0,.int .u8 0,.int .u8 0,.int .u8 0,.int .u8 0,.int .u8 0,.int .u8 0,.int .u8 0,.int .u8 0,.int .u8 0,.int .u8 0,.int .u8 0,.int .u8 0,.int .u8 0,.int .u8 0,.int .u8 0,.int .u8 0,.int .u8 0,.int .u8 0,.int .u8 0,.int .u8 0,.int .u8 0,.int .u8 0,.int .u8 0,.int .u8 0],some [.int .u8,.int .u8,.int .u8,.int .u8,.int .u8,.int .u8,.int .u8,.int .u8,.int .u8,.int .u8,.int .u8,.int .u8,.int .u8,.int .u8,.int .u8,.int .u8,.int .u8,.int .u8,.int .u8,.int .u8,.int .u8,.int .u8,.int .u8,.int .u8,.int .u8,.int .u8,.int .u8,.int .u8,.int .u8,.int .u8,.int .u8,.int .u8,.int .u8,.int .u8,.int .u8,.int .u8,.int .u8,.int .u8,.int .u8,.int .u8,.int .u8,.int .u8,.int .u8,.int .u8,.int .u8,.int .u8,.int .u8,.int .u8,.int .u8,.int .u8,.int .u8,.int .u8,.int .u8,.int .u8,.int .u8,.int .u8,.int .u8,.int .u8,.int .u8,.int .u8,.int .u8,.int .u8,.int .u8,.int .u8,.int .u8,.int .u8,.int .u8,.int .u8,.int .u8,.int .u8,.int .u8,.int .u8,.int .u8,.int .u8,.int .u8,.int .u8,.int .u8,.int .u8,.int .u8,.int .u8,.int .u8,.int .u8,.int .u8,.int .u8,.int .u8,.int .u8,.int .u8,.int .u8,.int .u8,.int .u8,.int .u8,.int .u8,.int .u8,.int .u8,.int .u8,.int .u8,.int .u8,.int .u8,.int .u8,.int .u8,.int .u8,.int .u8,.int .u8,.int .u8,.int .u8,.int .u8,.int .u8,.int .u8,.int .u8,.int .u8,.int .u8,.int .u8,.int .u8,.int .u8,.int .u8,.int .u8,.int .u8,.int .u8,.int .u8,.int .u8,.int .u8,.int .u8,.int .u8,.int .u8,.int .u8,.int .u8,.int .u8,.int .u8,.int .u8,.int .u8,.int .u8,.int .u8,.int .u8,.int .u8,.int .u8,.int .u8,.int .u8,.int .u8,.int .u8,.int .u8,.int .u8,.int .u8,.int .u8,.int .u8,.int .u8,.int .u8,.int .u8,.int .u8,.int .u8,.int .u8,.int .u8,.int .u8,.int .u8,.int .u8,.int .u8,.int .u8,.int .u8,.int .u8,.int .u8,.int .u8,.int .u8,.int .u8,.int .u8,.int .u8,.int .u8,.int .u8,.int .u8,.int .u8,.int .u8,.int .u8,.int .u8,.int .u8,.int .u8,.int .u8,.int .u8,.int .u8,.int .u8,.int .u8,.int .u8,.int .u8,.int .u8,.int .u8,.int .u8,.int .u8,.int .u8,.int .u8,.int .u8,.int .u8,.int .u8,.int .u8,.int .u8,.int .u8,.int .u8,.int .u8,.int .u8,.int .u8,.int .u8,.int .u8,.int .u8,.int .u8,.int .u8,.int .u8,.int .u8,.int .u8,.int .u8,.int .u8,.int .u8,.int .u8,.int .u8,.int .u8,.int .u8,.int .u8,.int .u8,.int .u8,.int .u8,.int .u8,.int .u8,.int .u8,.int .u8,.int .u8,.int .u8,.int .u8,.int .u8,.int .u8,.int .u8,.int .u8,.int .u8,.int .u8,.int .u8,.int .u8,.int .u8,.int .u8,.int .u8,.int .u8,.int .u8,.int .u8,.int .u8,.int .u8,.int .u8,.int .u8,.int .u8,.int .u8,.int .u8,.int .u8,.int .u8,.int .u8,.int .u8,.int .u8,.int .u8,.int .u8,.int .u8,.int .u8,.int .u8,.int .u8,.int .u8,.int .u8],false⟩),
  (237,⟨31,248,.array 31 3,some [.int .i64 0,.int .i64 0,.int .i64 0,.int .i64 0,.int .i64 0,.int .i64 0,.int .i64 0,.int .i64 0,.int .i64 0,.int .i64 0,.int .i64 0,.int .i64 0,.int .i64 0,.int .i64 0,.int .i64 0,.int .i64 0,.int .i64 0,.int .i64 0,.int .i64 0,.int .i64 0,.int .i64 0,.int .i64 0,.int .i64 0,.int .i64 0,.int .i64 0,.int .i64 0,.int .i64 0,.int .i64 0,.int .i64 0,.int .i64 0,.int .i64 0],some [.int .i64,.int .i64,.int .i64,.int .i64,.int .i64,.int .i64,.int .i64,.int .i64,.int .i64,.int .i64,.int .i64,.int .i64,.int .i64,.int .i64,.int .i64,.int .i64,.int .i64,.int .i64,.int .i64,.int .i64,.int .i64,.int .i64,.int .i64,.int .i64,.int .i64,.int .i64,.int .i64,.int .i64,.int .i64,.int .i64,.int .i64],false⟩),
  (243,⟨2,16,.struct [(0,4),(1,3)],some [.bool false,.int .i64 0],some [.bool,.int .i64],false⟩),
  (244,⟨48,384,.array 24 243,some [.bool false,.int .i64 0,.bool false,.int .i64 0,.bool false,.int .i64 0,.bool false,.int .i64 0,.bool false,.int .i64 0,.bool false,.int .i64 0,.bool false,.int .i64 0,.bool false,.int .i64 0,.bool false,.int .i64 0,.bool false,.int .i64 0,.bool false,.int .i64 0,.bool false,.int .i64 0,.bool false,.int .i64 0,.bool false,.int .i64 0,.bool false,.int .i64 0,.bool false,.int .i64 0,.bool false,.int .i64 0,.bool false,.int .i64 0,.bool false,.int .i64 0,.bool false,.int .i64 0,.bool false,.int .i64 0,.bool false,.int .i64 0,.bool false,.int .i64 0,.bool false,.int .i64 0],some [.bool,.int .i64,.bool,.int .i64,.bool,.int .i64,.bool,.int .i64,.bool,.int .i64,.bool,.int .i64,.bool,.int .i64,.bool,.int .i64,.bool,.int .i64,.bool,.int .i64,.bool,.int .i64,.bool,.int .i64,.bool,.int .i64,.bool,.int .i64,.bool,.int .i64,.bool,.int .i64,.bool,.int .i64,.bool,.int .i64,.bool,.int .i64,.bool,.int .i64,.bool,.int .i64,.bool,.int .i64,.bool,.int .i64,.bool,.int .i64],false⟩),
  (259,⟨1,24,.slice 261,some [.slice none 0 0],none,true⟩),
  (261,⟨2,16,.struct [(0,3),(1,3)],some [.int .i64 0,.int .i64 0],some [.int .i64,.int .i64],false⟩),
  (268,⟨24,24,.array 24 5,some [.int .u8 0,.int .u8 0,.int .u8 0,.int .u8 0,.int .u8 0,.int .u8 0,.int .u8 0,.int .u8 0,.int .u8 0,.int .u8 0,.int .u8 0,.int .u8 0,.int .u8 0,.int .u8 0,.int .u8 0,.int .u8 0,.int .u8 0,.int .u8 0,.int .u8 0,.int .u8 0,.int .u8 0,.int .u8 0,.int .u8 0,.int .u8 0],some [.int .u8,.int .u8,.int .u8,.int .u8,.int .u8,.int .u8,.int .u8,.int .u8,.int .u8,.int .u8,.int .u8,.int .u8,.int .u8,.int .u8,.int .u8,.int .u8,.int .u8,.int .u8,.int .u8,.int .u8,.int .u8,.int .u8,.int .u8,.int .u8],false⟩),
  (269,⟨1,8,.int .u64,some [.int .u64 0],none,true⟩),
  (283,⟨1,8,.int .u64,some [.int .u64 0],none,true⟩)]
theorem tt0_ok:TTok Tryz.prog tt0:=TTok.of _ _ (by kernel_rfl)
theorem hPm:Tryz.prog.follows .mixedOrders=true:=by kernel_rfl

theorem ext2 {P:Program} {f:FuncId} {fn:Func} {e:Array Value→Sem Value} (hf:P.funcs[f]? = some fn) (hname:(fn.name == "runtime.NumGoroutine")=false) (hb:fn.body.isNone=true) (hn:Extern.findNext fn=none) (he:Extern.find fn=some e)
    {a b d:Value} (hr : ∀ w,(e #[a,b]).run P w = .ok d w):ExtFn P f [.v a,.v b] (.v d):=by
  intro w I c vs hl ha
  match vs,hl with
  | [x,y],_ =>
    obtain ⟨y0,h0,r0⟩:=ha 0 _ rfl
    obtain ⟨y1,h1,r1⟩:=ha 1 _ rfl
    have r0:y0=a:=r0
    have r1:y1=b:=r1
    have h0:x=y0:=by simpa using h0
    have h1:y=y1:=by simpa using h1
    rw [h0,h1,r0,r1]
    refine ⟨d,?_,rfl⟩
    show (callFunc f #[a,b]).run P w=_
    rw [run_callFunc_extern hf hname hb hn he,hr];rfl
theorem bytealg_CountString_ok (s:ByteArray) (c:Int) (r:Int) (h:bytealg_CountString s c=some r):ExtFn Tryz.prog 263 [.v (.string s),.v (.int .u8 c)] (.v (.int .i64 r)):=by
  cases h
  exact ext2 Tryz.func263 (by kernel_rfl) (by kernel_rfl) (by kernel_rfl) (e:=Extern.BytealgCount.count) (by kernel_rfl) (fun w=>Lib.run_countString s c w)
theorem bytealg_IndexByteString_ok (s:ByteArray) (c:Int) (r:Int) (h:bytealg_IndexByteString s c=some r):ExtFn Tryz.prog 171 [.v (.string s),.v (.int .u8 c)] (.v (.int .i64 r)):=by
  cases h
  exact ext2 Tryz.func171 (by kernel_rfl) (by kernel_rfl) (by kernel_rfl) (e:=Extern.BytealgIndexByte.indexByte) (by kernel_rfl) (fun w=>Lib.run_indexByteString s c w)

/-! Closing tactics. -/
theorem cellsM (k:Nat) (c:Nat→D):LeL (cellsOf.match_1 (motive:=fun _ _=>List D) k c (fun _=>[]) (fun n c=>c 0 :: cellsOf n fun j=>c (j+1))) ([]++cellsOf k c):=by
  cases k<;>exact LeL.refl _
theorem lenL_rep_len {α β:Type} (xs:List α) (v:β):lenL (repL (lenL xs) v)=lenL xs:=lenL_rep v (lenL_nn xs)
theorem Wy {p:Prop} (h:p:=by first | with_reducible rfl | with_reducible assumption | (symm;with_reducible assumption) | ((try dsimp only [std_eq,stdN,nvS])<;>first | with_reducible rfl | omega | (simp (disch:=first | omega | with_reducible exact lenL_nn _ | with_reducible exact imax1_nn _ | (simp only [lenL_set,lenL_app,lenL_cons,lenL_nil]<;>omega) | ((try simp only [lenL_rep_len]);simp only [le_imin,imin_le,add_imin_le];(try simp (disch:=omega) only [lenL_sub,lenL_rep]);omega) | ((try simp only [lenL_rep_len]);unfold iminI;(try simp (disch:=omega) only [lenL_sub,lenL_rep]);(repeat' split)<;>omega) | fail) only [lenL_bytes,lenL_set,lenL_app,lenL_cons,lenL_nil,lenL_rep,lenL_sub,lenL_cpy,Int.ofNat_eq_natCast,Int.zero_add,Int.sub_zero]<;>first | done | omega | with_reducible assumption | rfl | fail)) | rfl | assumption | (symm;assumption) | fail):p:=h
theorem Wf {p:Prop} (h:p:=by
  (try dsimp only)<;>repeat' first
  | exact trivial
  | with_reducible refine And.intro ?_ ?_
  | with_reducible rfl
  | with_reducible assumption
  | (simp (disch:=first | omega | with_reducible exact lenL_nn _ | with_reducible exact imax1_nn _ | (simp only [lenL_set,lenL_app,lenL_cons,lenL_nil]<;>omega) | ((try simp only [lenL_rep_len]);simp only [le_imin,imin_le,add_imin_le];(try simp (disch:=omega) only [lenL_sub,lenL_rep]);omega) | ((try simp only [lenL_rep_len]);unfold iminI;(try simp (disch:=omega) only [lenL_sub,lenL_rep]);(repeat' split)<;>omega) | fail) only [lenL_bytes,lenL_set,lenL_app,lenL_cons,lenL_nil,lenL_rep,lenL_sub,lenL_cpy,Int.ofNat_eq_natCast,Int.zero_add,Int.sub_zero]<;>first | done | with_reducible assumption | omega | rfl | fail)
  | omega
  | rfl
  | fail):p:=h
theorem Wm {p:Prop} (h:p:=by (try dsimp only [std_eq,stdN,nvS])<;>first | omega | (simp (disch:=first | omega | with_reducible exact lenL_nn _ | with_reducible exact imax1_nn _ | (simp only [lenL_set,lenL_app,lenL_cons,lenL_nil]<;>omega) | ((try simp only [lenL_rep_len]);simp only [le_imin,imin_le,add_imin_le];(try simp (disch:=omega) only [lenL_sub,lenL_rep]);omega) | ((try simp only [lenL_rep_len]);unfold iminI;(try simp (disch:=omega) only [lenL_sub,lenL_rep]);(repeat' split)<;>omega) | fail) only [lenL_bytes,lenL_set,lenL_app,lenL_cons,lenL_nil,lenL_rep,lenL_sub,lenL_cpy,Int.ofNat_eq_natCast,Int.zero_add,Int.sub_zero]<;>omega)):p:=h
theorem Woc {p:Prop} (h:p:=by first | exact out0_int _ _ | (intro i j;first | exact out0_int _ _ | exact out0_bool _ | exact out0_str _ | exact out0_sl (fun i j=>out0_int _ _) | exact out0_sl (fun i j=>out0_bool _) | exact out0_sl (fun i j=>out0_str _) | exact out_cursor_Region _ _ | exact out_Arr4_u8 _ _ | exact out_charset_State _ _ | exact out_api_Pen _ _ | exact out_cursor_Cursor _ _ | exact out_Arr2_i64 _ _ | exact out_api_Cell _ _ | exact out_api_Row _ _ | exact out_grid_Grid _ _ | exact out_tabs_Stops _ _ | exact out_history_Kept _ _ | exact out_screen_Screen _ _ | exact out_modes_Modes _ _ | exact out_modes_mode _ _ | exact out_Arr24_modes_mode _ _ | exact out_Arr2_cursor_Cursor _ _ | exact out_interp_State _ _ | exact out_strings_span _ _ | exact out_ranges_Row _ _ | exact out_ranges_Table _ _ | exact out_ucd_Pair _ _ | exact out_ucd_Form _ _ | exact out_ucd_Data _ _ | exact out_api_Action _ _ | exact out_interp_line _ _ | exact out_Arr24_u8 _ _ | exact out_lapwingref09_Grid _ _ | exact out_lapwingref04_State _ _ | exact out_lapwingref14_Cursor _ _ | exact out_lapwingref14_Region _ _ | exact out_lapwingref12_Stops _ _ | exact out_lapwingref10_Kept _ _ | exact out_lapwingref15_Screen _ _ | exact out_lapwingref13_Modes _ _ | exact out_Arr2_lapwingref14_Cursor _ _ | exact out_lapwingref16_State _ _ | exact out0_sl (fun i j=>out_cursor_Region _ _) | exact out0_sl (fun i j=>out_Arr4_u8 _ _) | exact out0_sl (fun i j=>out_charset_State _ _) | exact out0_sl (fun i j=>out_api_Pen _ _) | exact out0_sl (fun i j=>out_cursor_Cursor _ _) | exact out0_sl (fun i j=>out_Arr2_i64 _ _) | exact out0_sl (fun i j=>out_api_Cell _ _) | exact out0_sl (fun i j=>out_api_Row _ _) | exact out0_sl (fun i j=>out_grid_Grid _ _) | exact out0_sl (fun i j=>out_tabs_Stops _ _) | exact out0_sl (fun i j=>out_history_Kept _ _) | exact out0_sl (fun i j=>out_screen_Screen _ _) | exact out0_sl (fun i j=>out_modes_Modes _ _) | exact out0_sl (fun i j=>out_modes_mode _ _) | exact out0_sl (fun i j=>out_Arr24_modes_mode _ _) | exact out0_sl (fun i j=>out_Arr2_cursor_Cursor _ _) | exact out0_sl (fun i j=>out_interp_State _ _) | exact out0_sl (fun i j=>out_strings_span _ _) | exact out0_sl (fun i j=>out_ranges_Row _ _) | exact out0_sl (fun i j=>out_ranges_Table _ _) | exact out0_sl (fun i j=>out_ucd_Pair _ _) | exact out0_sl (fun i j=>out_ucd_Form _ _) | exact out0_sl (fun i j=>out_ucd_Data _ _) | exact out0_sl (fun i j=>out_api_Action _ _) | exact out0_sl (fun i j=>out_interp_line _ _) | exact out0_sl (fun i j=>out_Arr24_u8 _ _) | exact out0_sl (fun i j=>out_lapwingref09_Grid _ _) | exact out0_sl (fun i j=>out_lapwingref04_State _ _) | exact out0_sl (fun i j=>out_lapwingref14_Cursor _ _) | exact out0_sl (fun i j=>out_lapwingref14_Region _ _) | exact out0_sl (fun i j=>out_lapwingref12_Stops _ _) | exact out0_sl (fun i j=>out_lapwingref10_Kept _ _) | exact out0_sl (fun i j=>out_lapwingref15_Screen _ _) | exact out0_sl (fun i j=>out_lapwingref13_Modes _ _) | exact out0_sl (fun i j=>out_Arr2_lapwingref14_Cursor _ _) | exact out0_sl (fun i j=>out_lapwingref16_State _ _) | trivial | fail) | fail):p:=h
theorem agg0 {p:Nat→Prop} : ∀ j,j < 0→p j:=fun j h=>absurd h (Nat.not_lt_zero j)
theorem aggS {p:Nat→Prop} {n:Nat} (h0:p 0) (h : ∀ j,j < n→p (j+1)) : ∀ j,j < n+1→p j
  | 0,_=>h0
  | j+1,hj=>h j (Nat.lt_of_succ_lt_succ hj)
theorem Wpj {p:Prop} (h:p:=by (conv=>lhs;whnf)<;>(conv=>rhs;whnf)<;>(try dsimp only [std_eq,stdN,nvS])<;>(first | rfl | (simp (disch:=first | omega | with_reducible exact lenL_nn _ | with_reducible exact imax1_nn _ | (simp only [lenL_set,lenL_app,lenL_cons,lenL_nil]<;>omega) | ((try simp only [lenL_rep_len]);simp only [le_imin,imin_le,add_imin_le];(try simp (disch:=omega) only [lenL_sub,lenL_rep]);omega) | ((try simp only [lenL_rep_len]);unfold iminI;(try simp (disch:=omega) only [lenL_sub,lenL_rep]);(repeat' split)<;>omega) | fail) only [getL_bytes,getL_put,getL_app,getL_rep,getL_sub,lenL_sub,lenL_rep,addSubL,getL_cpy,Int.zero_add,Int.sub_zero,beq_iff_eq,decide_eq_true_eq,Bool.and_eq_true]<;>first | rfl | (split<;>first | rfl | (subst_vars;rfl) | (simp (disch:=first | omega | with_reducible exact lenL_nn _ | with_reducible exact imax1_nn _ | (simp only [lenL_set,lenL_app,lenL_cons,lenL_nil]<;>omega) | ((try simp only [lenL_rep_len]);simp only [le_imin,imin_le,add_imin_le];(try simp (disch:=omega) only [lenL_sub,lenL_rep]);omega) | ((try simp only [lenL_rep_len]);unfold iminI;(try simp (disch:=omega) only [lenL_sub,lenL_rep]);(repeat' split)<;>omega) | fail) only [getL_one,getL_zero]<;>rfl)) | (simp (disch:=omega) only [getL_one,getL_zero]<;>rfl) | ((simp only [lenL_app,lenL_cons,lenL_nil,Int.ofNat_eq_natCast])<;>(repeat' split)<;>first | rfl | (exfalso;omega) | (subst_vars;rfl) | (simp (disch:=omega) only [getL_one,getL_zero]<;>rfl) | (congr 3;omega) | fail)) | fail)):p:=h
theorem Wp {p:Prop} (h:p:=by
  intro i i0 i1
  first
  | (exfalso;revert i1;show i < (0:Int)→False;omega)
  | ((try dsimp only [std_eq,stdN,nvS] at i1);(try simp only [Int.ofNat_eq_natCast,lenL_app,lenL_cons,lenL_nil,lenL_set,lenL_bytes] at i1);(try simp (disch:=first | omega | with_reducible exact lenL_nn _ | with_reducible exact imax1_nn _ | (simp only [lenL_set,lenL_app,lenL_cons,lenL_nil]<;>omega) | ((try simp only [lenL_rep_len]);simp only [le_imin,imin_le,add_imin_le];(try simp (disch:=omega) only [lenL_sub,lenL_rep]);omega) | ((try simp only [lenL_rep_len]);unfold iminI;(try simp (disch:=omega) only [lenL_sub,lenL_rep]);(repeat' split)<;>omega) | fail) only [lenL_sub,lenL_rep,lenL_cpy,Int.zero_add,Int.sub_zero] at i1)
     first
     | (repeat' first | exact agg0 | refine aggS ?_ ?_ | exact Wpj | fail
        first | done | fail)
     | ((first | (obtain rfl:i=0:=(by omega)) | (rcases (show i=0∨i=1 by omega) with rfl | rfl) | (rcases (show i=0∨i=1∨i=2 by omega) with rfl | rfl | rfl) | (rcases (show i=0∨i=1∨i=2∨i=3 by omega) with rfl | rfl | rfl | rfl) | (rcases (show i=0∨i=1∨i=2∨i=3∨i=4 by omega) with rfl | rfl | rfl | rfl | rfl) | (rcases (show i=0∨i=1∨i=2∨i=3∨i=4∨i=5 by omega) with rfl | rfl | rfl | rfl | rfl | rfl) | (rcases (show i=0∨i=1∨i=2∨i=3∨i=4∨i=5∨i=6 by omega) with rfl | rfl | rfl | rfl | rfl | rfl | rfl) | (rcases (show i=0∨i=1∨i=2∨i=3∨i=4∨i=5∨i=6∨i=7 by omega) with rfl | rfl | rfl | rfl | rfl | rfl | rfl | rfl)) <;>
        (repeat' first | exact agg0 | refine aggS ?_ ?_ | exact rfl | fail)<;>first | done | fail)
     | fail)
  | fail):p:=h
theorem intN {p:Int→Prop} {n:Nat} (h : ∀ k:Nat,k < n→p (k:Int)) : ∀ i:Int,0≤i→i < (n:Int)→p i:=fun i h0 h1=>by
  have:=h i.toNat (by omega)
  rwa [show ((i.toNat:Nat):Int)=i by omega] at this
theorem WpN {p:Prop} (h:p:=by
  refine intN ?_
  (repeat' first | exact agg0 | refine aggS ?_ ?_ | exact rfl | fail)
  first | done | fail):p:=h
theorem Wsk {p:Prop} (h:p:=by
  repeat' first
  | exact trivial
  | exact agg0
  | refine aggS ?_ ?_
  | refine And.intro rfl ?_
  | exact rfl
  | intro i
  | fail
  first | done | fail):p:=h
theorem Wpx {p:Prop} (h:p:=by
  intro hb
  (try dsimp only [std_eq,stdN,nvS] at hb)
  (try simp only [Int.zero_add] at hb)
  (try (have hb2:=hb;simp only [lt_add_imin] at hb2))
  (try simp only [nv_get])
  (first | simp (disch:=first | omega | with_reducible exact lenL_nn _ | with_reducible exact imax1_nn _ | (simp only [lenL_set,lenL_app,lenL_cons,lenL_nil]<;>omega) | ((try simp only [lenL_rep_len]);simp only [le_imin,imin_le,add_imin_le];(try simp (disch:=omega) only [lenL_sub,lenL_rep]);omega) | ((try simp only [lenL_rep_len]);unfold iminI;(try simp (disch:=omega) only [lenL_sub,lenL_rep]);(repeat' split)<;>omega) | fail) only [getL_put,getL_app,getL_rep,getL_sub,getL_cpy,lenL_app,lenL_cons,lenL_nil,lenL_set,Int.zero_add,if_pos hb,if_neg hb,getL_one] | simp (disch:=first | omega | with_reducible exact lenL_nn _ | with_reducible exact imax1_nn _ | (simp only [lenL_set,lenL_app,lenL_cons,lenL_nil]<;>omega) | ((try simp only [lenL_rep_len]);simp only [le_imin,imin_le,add_imin_le];(try simp (disch:=omega) only [lenL_sub,lenL_rep]);omega) | ((try simp only [lenL_rep_len]);unfold iminI;(try simp (disch:=omega) only [lenL_sub,lenL_rep]);(repeat' split)<;>omega) | fail) only [getL_put,getL_app,getL_rep,getL_sub,getL_cpy,lenL_app,lenL_cons,lenL_nil,lenL_set,Int.zero_add,if_pos hb,getL_one] | skip)
  first | exact Wd | exact Wpc | fail):p:=h
theorem Wpc {p:Prop} (h:p:=by
  repeat' first
  | exact agg0
  | refine aggS ?_ ?_
  | exact LeD.of Wpj
  | exact LeD.nil (by (try dsimp only [std_eq,stdN,nvS]);simp (disch:=first | omega | with_reducible exact lenL_nn _ | with_reducible exact imax1_nn _ | (simp only [lenL_set,lenL_app,lenL_cons,lenL_nil]<;>omega) | ((try simp only [lenL_rep_len]);simp only [le_imin,imin_le,add_imin_le];(try simp (disch:=omega) only [lenL_sub,lenL_rep]);omega) | ((try simp only [lenL_rep_len]);unfold iminI;(try simp (disch:=omega) only [lenL_sub,lenL_rep]);(repeat' split)<;>omega) | fail) only [getL_rep];rfl)
  | ((with_reducible refine put_in ?_ ?_ ?_ ?_);(focus exact rfl);(focus exact Wsk);(focus exact Wpx);(focus exact Wpx))
  | ((with_reducible refine put_out ?_ ?_);(focus exact rfl))
  | ((with_reducible refine cat_in ?_ ?_ ?_);(focus exact Wsk);(focus exact Wpx);(focus exact Wpx))
  | ((with_reducible refine cpy_in ?_ ?_ ?_);(focus exact Wsk);(focus exact Wpx);(focus exact Wpx))
  | exact Wd
  | fail
  first | done | fail):p:=h
theorem Wpd {p:Prop} (h:p:=by
  intro i i0 i1
  (try dsimp only [std_eq,stdN,nvS] at i1);(try simp only [Int.ofNat_eq_natCast,lenL_app,lenL_cons,lenL_nil,lenL_set,lenL_bytes] at i1);(try simp (disch:=first | omega | with_reducible exact lenL_nn _ | with_reducible exact imax1_nn _ | (simp only [lenL_set,lenL_app,lenL_cons,lenL_nil]<;>omega) | ((try simp only [lenL_rep_len]);simp only [le_imin,imin_le,add_imin_le];(try simp (disch:=omega) only [lenL_sub,lenL_rep]);omega) | ((try simp only [lenL_rep_len]);unfold iminI;(try simp (disch:=omega) only [lenL_sub,lenL_rep]);(repeat' split)<;>omega) | fail) only [lenL_sub,lenL_rep,lenL_cpy,Int.zero_add,Int.sub_zero] at i1)
  first | exact Wpc | fail):p:=h
theorem Wpe {p:Prop} (h:p:=by
  intro i i0 i1
  (try dsimp only [std_eq,stdN,nvS] at i1);(try simp only [Int.ofNat_eq_natCast,lenL_app,lenL_cons,lenL_nil,lenL_set,lenL_bytes] at i1)
  (first | (obtain rfl:i=0:=(by omega)) | (rcases (show i=0∨i=1 by omega) with rfl | rfl) | (rcases (show i=0∨i=1∨i=2 by omega) with rfl | rfl | rfl) | (rcases (show i=0∨i=1∨i=2∨i=3 by omega) with rfl | rfl | rfl | rfl) | (rcases (show i=0∨i=1∨i=2∨i=3∨i=4 by omega) with rfl | rfl | rfl | rfl | rfl) | (rcases (show i=0∨i=1∨i=2∨i=3∨i=4∨i=5 by omega) with rfl | rfl | rfl | rfl | rfl | rfl) | (rcases (show i=0∨i=1∨i=2∨i=3∨i=4∨i=5∨i=6 by omega) with rfl | rfl | rfl | rfl | rfl | rfl | rfl) | (rcases (show i=0∨i=1∨i=2∨i=3∨i=4∨i=5∨i=6∨i=7 by omega) with rfl | rfl | rfl | rfl | rfl | rfl | rfl | rfl))<;>(repeat' first | exact agg0 | refine aggS ?_ ?_ | exact Wd | fail)
  first | done | fail):p:=h
theorem cells_at : ∀ {k:Nat} {c c':Nat→D},cellsOf k c=cellsOf k c'→∀ j,j < k→c j=c' j
  | 0,_,_,_,j,hj=>absurd hj (Nat.not_lt_zero j)
  | k+1,c,c',h,0,_=>(List.cons.inj h).1
  | k+1,c,c',h,j+1,hj=>cells_at (c:=fun j=>c (j+1)) (c':=fun j=>c' (j+1)) (List.cons.inj h).2 j (Nat.lt_of_succ_lt_succ hj)
theorem LeD.aggR {k:Nat} {c c':Nat→D} (_:Nat.ble 20 k=true) (h:cellsOf k c=cellsOf k c'):LeD (.agg k c) (.agg k c'):=LeD.agg fun j hj=>LeD.of (cells_at h j hj)
theorem out1_of0 {objs:List (Option Ob)} : ∀ (d d':D),out0 (std Tryz.prog) d d'→out1 (std Tryz.prog) objs d d':=by
  intro d
  induction d with
  | agg k c ih =>
    intro d' h
    cases d'<;>try exact h
    rename_i k' c'
    simp only [out0] at h
    simp only [out1]
    split at h
    · rename_i hk
      rw [if_pos hk]
      intro i h0 h1 j hj
      exact ih j _ (h i h0 h1 j hj)
    · exact h.elim
  | fn f k c ih =>
    intro d' h
    cases d'<;>cases f<;>try exact h
    rename_i f' k' c' g
    cases f'<;>try exact h
    obtain ⟨a,b,e⟩:=h
    exact ⟨a,b,fun i h0 h1 j hj=>ih j _ (e i h0 h1 j hj)⟩
  | vec id g sz off n=>intro d' h;cases d'<;>first | exact trivial | exact False.elim h | (simp [out0] at h)
  | bref id g j=>intro d' h;cases d'<;>first | exact trivial | exact False.elim h | (simp [out0] at h)
  | _=>intro d' h;exact h
theorem outT_eq {k:Nat} {c c':Nat→D} {objs:List (Option Ob)} (_:Nat.ble 20 k=true) (ho : ∀ j,out0 (std Tryz.prog) (c' j) (c' j)) (h:cellsOf k c=cellsOf k c'):outT (std Tryz.prog) objs [.agg k c] (.agg k c'):=by
  show (if Nat.beq k k then _ else _)
  rw [Nat.beq_refl,if_pos rfl]
  intro _ _ _ j hj
  rw [cells_at h j hj]
  exact out1_of0 _ _ (ho j)
theorem Wd {p:Prop} (h:p:=by
  repeat' first
  | ((with_reducible refine LeD.aggR ?_ ?_);(focus exact rfl);(focus as_aux_lemma=>kernel_rfl))
  | exact LeD.refl _
  | exact LeD.junk _
  | exact LeD.nil rfl
  | exact LeD.vec rfl Wy
  | exact LeD.slF Wy Wp
  | exact LeD.sl Wy Wpe
  | exact LeOb.refl _
  | exact LeOb.arrF Wy Wp
  | exact LeOb.arrG Wy Wpd
  | refine LeOb.box ?_
  | exact trivial
  | exact agg0
  | refine aggS ?_ ?_
  | refine LeD.agg ?_
  | exact LeD.imm (fun _=>Wd)
  | refine LeD.fn ?_
  | refine LeD.cndT rfl ?_
  | refine LeD.cndF rfl ?_
  | exact LeD.win (by decide) Wd
  | refine And.intro ?_ ?_
  | exact cellsM _ _
  | exact LeL.refl _
  | fail
  first | done | fail):p:=h
theorem Wks {p:Prop} (h:p:=by
  repeat' first
  | exact trivial
  | refine And.intro (Exists.intro _ (And.intro rfl Wd)) ?_
  | fail
  first | done | fail):p:=h
theorem Wos {p:Prop} (h:p:=by
  repeat' first | exact trivial | refine And.intro rfl ?_ | fail
  first | done | fail):p:=h
theorem Wlt {p:Prop} (h:p:=by show (_:Nat) < _;(try dsimp only [std_eq,stdN]);first | omega | exact Nat.lt_of_lt_of_le (by apply_assumption) (by omega) | fail):p:=h
theorem Wle {p:Prop} (h:p:=by first | exact Nat.le_refl _ | (refine leC ?_;(try dsimp only [std_eq,stdN]);omega) | fail):p:=h
theorem Wlay {p:Prop} (h:p:=by first | exact lay_of rfl Wos Wle Wf rfl rfl Wks Wks | fail):p:=h
theorem Wt {c:Prop} [Decidable c] {a b:Prop} (x:a) (h:c:=by exact rfl):if c then a else b:=by rw [if_pos h];exact x
theorem We {c:Prop} [Decidable c] {a b:Prop} (x:b) (h : ¬ c:=by decide):if c then a else b:=by rw [if_neg h];exact x
theorem Wcl {p:Prop} (h:p:=by first
  | exact trivial
  | (intro _ _ _ j hj;exact clo_fv _ j hj)
  | (intro i _ _
     repeat' first | exact agg0 | refine aggS ?_ ?_ | exact Wcl | fail
     first | done | fail)
  | fail):p:=h
theorem WoN {a b:Nat} (h:a=b):(std Tryz.prog).eqN a b:=h
theorem WoE {a b:Int} (h:a=b):(std Tryz.prog).eqI a b:=h
theorem WoB {a b:Bool} (h:a=b):(std Tryz.prog).eqB a b:=h
theorem WoD {a:Array Oper} {b:List (Nat × Nat)} {c:List (Option Nat)} (h:drOk a b c=true):(std Tryz.prog).dr a b c:=h
theorem WoA {n:Int} {k:Nat} {f:Int→Nat→Prop} (h : ∀ i:Int,0≤i→i < n→∀ j,j < k→f i j):(std Tryz.prog).all2 n k f:=h
theorem WoT {b:Bool} (h:b=true):(std Tryz.prog).tru b:=h
theorem WoI {b:Bool} {p:Prop} (h:b=true→p):(std Tryz.prog).imp b p:=h
theorem WoK {f:FuncId} {a:List D} {d:D} (h:PureFn Tryz.prog f a d∨ExtFn Tryz.prog f a d):(std Tryz.prog).ok f a d:=h
theorem WoV {f:FuncId} {a:List D} {d:D} (h:PureFn Tryz.prog f a d):(std Tryz.prog).okv f a d:=h
theorem WoX {objs:List (Option Ob)} {f:FuncId} {a:List D} {d:D} (h:SeeFn Tryz.prog objs f a d):(std Tryz.prog).see objs f a d:=h
theorem WseO {p:Prop} (h:p:=by
  repeat' first
  | exact agg0
  | refine aggS ?_ ?_
  | exact trivial
  | exact clo_fvF _
  | refine clo_agg ?_
  | (refine clo_sl ?_;intro i)
  | exact Wcl
  | fail
  first | done | fail):p:=h
theorem WseZ {p:Prop} (h:p:=by ((try dsimp only [std_eq,stdN])<;>(try simp only [Int.zero_add])<;>first | done | rfl | fail)):p:=h
theorem WseI {p:Prop} (h:p:=by
  intro hb
  (try dsimp only [std_eq,stdN,nvS] at hb)
  (try simp only [Int.zero_add] at hb)
  (try simp only [nv_get])
  (first | simp (disch:=first | omega | with_reducible exact lenL_nn _ | (simp only [lenL_set,lenL_app,lenL_cons,lenL_nil]<;>omega)) only [getL_put,getL_app,lenL_app,lenL_cons,lenL_nil,lenL_set,Int.zero_add,if_pos hb,if_neg hb,getL_one] | simp (disch:=first | omega | with_reducible exact lenL_nn _ | (simp only [lenL_set,lenL_app,lenL_cons,lenL_nil]<;>omega)) only [getL_put,getL_app,lenL_app,lenL_cons,lenL_nil,lenL_set,Int.zero_add,if_pos hb,getL_one] | skip)
  first | exact WseC | fail):p:=h
theorem WseC {p:Prop} (h:p:=by
  repeat' first
  | exact agg0
  | refine aggS ?_ ?_
  | exact SeeD.junk
  | exact SeeD.v
  | ((with_reducible refine SeeD.dsel ?_ ?_ ?_);(focus exact Wsk);(focus exact WseI);(focus exact WseI))
  | ((with_reducible refine SeeD.cat ?_ ?_ ?_);(focus exact Wsk);(focus exact WseI);(focus exact WseI))
  | exact SeeD.le (P:=Tryz.prog) (LeD.refl _) (clo_fvF _)
  | exact SeeD.le (P:=Tryz.prog) (LeD.of WseZ) (clo_fvF _)
  | refine SeeD.fn rfl rfl ?_
  | refine SeeD.cndT rfl ?_
  | refine SeeD.cndF rfl ?_
  | refine SeeD.bref rfl rfl ?_
  | exact SeeD.le (P:=Tryz.prog) Wd WseO
  | fail
  first | done | fail):p:=h
theorem WseD {p:Prop} (h:p:=by
  first
  | ((with_reducible refine SeeD.sl ?_ ?_);(focus exact Wy);(intro i i0 i1;(try dsimp only [std_eq,stdN,nvS] at i1);(try simp only [Int.ofNat_eq_natCast,lenL_app,lenL_cons,lenL_nil,lenL_set] at i1);first | ((first | (obtain rfl:i=0:=(by omega)) | (rcases (show i=0∨i=1 by omega) with rfl | rfl) | (rcases (show i=0∨i=1∨i=2 by omega) with rfl | rfl | rfl))<;>exact WseC) | exact WseC | fail))
  | exact SeeD.le (P:=Tryz.prog) Wd WseO
  | fail):p:=h
theorem WseL {p:Prop} (h:p:=by
  repeat' first
  | exact trivial
  | exact WseD
  | refine And.intro ?_ ?_
  | fail
  first | done | fail):p:=h
theorem WseP {p:Prop} (h:p:=by
  repeat' first
  | exact agg0
  | refine aggS ?_ ?_
  | exact PurD.v _
  | exact PurD.nilsl
  | refine PurD.agg ?_
  | (refine PurD.sl ?_;intro i)
  | fail
  first | done | fail):p:=h
theorem WrX {p:Prop} (h:p:=by
  refine SeeFn.mk (by assumption) ?_ ?_
  · exact WseL
  · exact WseP):p:=h
theorem WoL {f:FuncId} {a:List D} {b c:List Ob} {d:D} (h:LentFn Tryz.prog f a b c d):(std Tryz.prog).lent f a b c d:=h
theorem Wol1 {a b:Nat} (h:a < b):(std Tryz.prog).ltN a b:=h
theorem Wtr {p:Prop} (h:p:=by first
  | with_reducible assumption
  | ((try dsimp only [std_eq,stdN])<;>first | with_reducible rfl | with_reducible assumption | ((try clear h);grind) | fail)
  | fail):p:=h
theorem Wok {p:Prop} (h:p:=by first
  | exact Or.inl (PureFn.arg (by assumption) Wd)
  | exact Or.inr (ExtFn.arg (by assumption) Wd)
  | exact Or.inl (PureFn.arg (PureFn.sl (by assumption)) Wd)
  | exact Or.inl (PureFn.arg (by apply_assumption;assumption) Wd)
  | exact Or.inl (PureFn.arg (PureFn.sl (by apply_assumption;assumption)) Wd)
  | fail):p:=h
theorem Wob {p:Prop} (h:p:=by first
  | ((with_reducible refine WoN ?_);exact rfl)
  | exact trivial
  | ((with_reducible refine WoT ?_);exact Wtr)
  | ((with_reducible refine WoI ?_);intro hg;first | exact Bool.noConfusion hg | ((try dsimp only [std_eq,stdN] at hg);exact Wob) | fail)
  | ((with_reducible refine WoK ?_);exact Wok)
  | ((with_reducible refine WoL ?_);exact LentFn.arg (by assumption) Wd)
  | ((with_reducible refine WoX ?_);exact WrX)
  | ((with_reducible refine WoV ?_);first | exact PureFn.arg (by assumption) Wd | exact PureFn.arg (by apply_assumption;assumption) Wd | fail)
  | ((with_reducible refine WoA ?_);exact Wcl)
  | ((with_reducible refine WoD ?_);kernel_rfl)
  | ((with_reducible refine Wol1 ?_);exact Wlt)
  | ((with_reducible refine WoE ?_);exact Wy)
  | ((with_reducible refine WoB ?_);exact rfl)
  | ((with_reducible refine And.intro ?_ ?_);(focus exact Wob);(focus exact Wob))
  | (dsimp only [std_eq,stdN];first | with_reducible assumption | omega | fail)
  | exact Wcl
  | assumption
  | fail):p:=h
theorem WoS {a b:ByteArray} (h:a=b):(std Tryz.prog).eqS a b:=h
theorem WoC {o m n:Int} (h0:0≤o) (h1:0≤m) (h2:o+m≤n):(std Tryz.prog).cut o ((std Tryz.prog).add o m) n:=cut_end h0 h1 h2
theorem WrA {p:Prop} (h:p:=by first
  | (intro i _ _
     repeat' first | exact agg0 | refine aggS ?_ ?_ | exact Wrt | fail
     first | done | fail)
  | fail):p:=h
theorem Wrt {p:Prop} (h:p:=by
  first
  | ((try subst he);exact outT_eq rfl (fun j=>out_screen_Screen _ j) (by as_aux_lemma=>kernel_rfl))
  | ((try subst he);exact outT_eq rfl (fun j=>out_Arr24_modes_mode _ j) (by as_aux_lemma=>kernel_rfl))
  | ((try subst he);exact outT_eq rfl (fun j=>out_Arr2_cursor_Cursor _ j) (by as_aux_lemma=>kernel_rfl))
  | ((try subst he);exact outT_eq rfl (fun j=>out_interp_State _ j) (by as_aux_lemma=>kernel_rfl))
  | ((try subst he);exact outT_eq rfl (fun j=>out_Arr24_u8 _ j) (by as_aux_lemma=>kernel_rfl))
  | ((try subst he);exact outT_eq rfl (fun j=>out_lapwingref15_Screen _ j) (by as_aux_lemma=>kernel_rfl))
  | ((try subst he);exact outT_eq rfl (fun j=>out_Arr2_lapwingref14_Cursor _ j) (by as_aux_lemma=>kernel_rfl))
  | ((try subst he);exact outT_eq rfl (fun j=>out_lapwingref16_State _ j) (by as_aux_lemma=>kernel_rfl))
  | skip
  (try first | show out1 (std Tryz.prog) _ _ (nvS.fC _ _) | show out0 (std Tryz.prog) _ (nvS.fC _ _) | fail)
  (try simp only [nv_kn,nv_ki,nv_kb,nv_ks,nv_kf,nv_fn,nv_fi,nv_fb,nv_fs,nv_ff,nv_ci,nv_cb,nv_cs,nv_cf,nv_kx,nv_fx,nv_cx])
  (try (generalize hp:std Tryz.prog=p;generalize hv:nvS=nv;cbv<;>subst hp hv))
  repeat' first
  | with_reducible refine And.intro ?_ ?_
  | exact trivial
  | ((with_reducible refine WoN ?_);(try subst he);exact rfl)
  | ((with_reducible refine WoE ?_);(try subst he);exact Wy)
  | ((with_reducible refine WoB ?_);(try subst he);exact rfl)
  | ((with_reducible refine WoS ?_);(try subst he);exact rfl)
  | ((with_reducible refine WoI ?_);exact (fun h=>Bool.noConfusion h))
  | ((with_reducible refine out0_all ?_ ?_);(focus exact Woc);(try subst he);(focus first | exact WpN | exact Wp))
  | exact out0_fv _
  | ((with_reducible refine WoA ?_);(try subst he);intro _ _ _ j hj;first | exact out1_fv _ j hj | exact out_fv _ j hj | fail)
  | ((with_reducible refine WoA ?_);(try (have he:(_:FV)=_:=he;subst he));exact WrA)
  | ((with_reducible refine WoC ?_ ?_ ?_);(focus ((try subst he);exact Wm));(focus exact lenL_nn _);(focus ((try subst he);exact Wm)))
  | ((try subst he);exact rfl)
  | exact Woc
  | fail
  first | done | fail):p:=h
theorem Wret {p:Prop} (h:p:=by
  (try dsimp only [noGoto,inBlockQ,thenQ])
  repeat (first | refine Wt ?_ | refine We ?_)
  first
  | exact retQ_ret rfl Wos Wrt
  | exact retQ_normal rfl Wos Wrt
  | exact lentQ_r rfl Wos Wrt Wrt
  | exact lentQ_n rfl Wos Wrt Wrt
  | fail):p:=h
theorem Wlv {p:Prop} (h:p:=by first
  | exact Wret
  | (cases he;first | (show LayP _ _ _ _ _ _ _ _;exact Wlay) | ((try dsimp only [noGoto,inBlockQ,thenQ]);(repeat (first | refine Wt ?_ | refine We ?_));intro (he:_=_);exact Wlv) | fail)
  | fail):p:=h
theorem Wend {p:Prop} (h:p:=by
  first
  | (cases h;done)
  | (have he:=Option.some.inj h;clear h;exact Wlv)
  | fail):p:=h
theorem Wb {β:Type} {c d:Bool} {x y:Option β} {r:β} {A B:Prop} (h:iteO c x y=some r) (e:c=d) (ht:c=true→x=some r→A) (hf:c=false→y=some r→B):(std Tryz.prog).ifb d A B :=
  ⟨fun hc=>ht (e.trans hc) (iteO_t h (e.trans hc)),fun hc=>hf (e.trans hc) (iteO_f h (e.trans hc))⟩
section
variable {β:Type} {k:Option β} {r:β} {G:Prop}
theorem chk_g {c C G:Prop} [Decidable c] (h:chk c k=some r) (f:c→C) (g:c→k=some r→G):C∧G:=⟨f (chk_some h).1,g (chk_some h).1 (chk_some h).2⟩
theorem WsI {i n i' n':Int} (h:chk (0≤i∧i < n) k=some r) (ei:i=i') (en:n=n') (g:0≤i∧i < n→k=some r→G):(std Tryz.prog).inb i' n'∧G:=by
  subst ei;subst en;exact chk_g h (fun q=>q) fun q=>g q
theorem WgI {b d:Bool} {i n i' n':Int} (h:chk (b=true→0≤i∧i < n) k=some r) (eb:b=d) (ei:i=i') (en:n=n') (g:(b=true→0≤i∧i < n)→k=some r→G):(std Tryz.prog).imp d ((std Tryz.prog).inb i' n')∧G:=by
  subst eb;subst ei;subst en;exact chk_g h (fun q=>q) g
theorem WsR {K:IntKind} {x x':Int} (h:chk (inR K x) k=some r) (ex:x=x') (g:inR K x→k=some r→G):(std Tryz.prog).rng K x'∧G:=by
  subst ex;exact chk_g h (fun q=>q) fun q=>g q
theorem WgR {K:IntKind} {b d:Bool} {x x':Int} (h:chk (b=true→inR K x) k=some r) (eb:b=d) (ex:x=x') (g:(b=true→inR K x)→k=some r→G):(std Tryz.prog).imp d ((std Tryz.prog).rng K x')∧G:=by
  subst eb;subst ex;exact chk_g h (fun q=>q) g
theorem WsC {l m n l' m' n':Int} (h:chk (0≤l∧l≤m∧m≤n) k=some r) (el:l=l') (em:m=m') (en:n=n') (g:0≤l∧l≤m∧m≤n→k=some r→G):(std Tryz.prog).cut l' m' n'∧G:=by
  subst el;subst em;subst en;exact chk_g h (fun q=>q) fun q=>g q
theorem WgC {b d:Bool} {l m n l' m' n':Int} (h:chk (b=true→0≤l∧l≤m∧m≤n) k=some r) (eb:b=d) (el:l=l') (em:m=m') (en:n=n') (g:(b=true→0≤l∧l≤m∧m≤n)→k=some r→G):(std Tryz.prog).imp d ((std Tryz.prog).cut l' m' n')∧G:=by
  subst eb;subst el;subst em;subst en;exact chk_g h (fun q=>q) g
theorem WsG {B:Nat} {x x':Int} (h:chk (growOk B x) k=some r) (ex:x=x') (g:growOk B x→k=some r→G):(std Tryz.prog).grow B x'∧G:=by
  subst ex;exact chk_g h (fun q=>q) fun q=>g q
theorem WgG {B:Nat} {b d:Bool} {x x':Int} (h:chk (b=true→growOk B x) k=some r) (eb:b=d) (ex:x=x') (g:(b=true→growOk B x)→k=some r→G):(std Tryz.prog).imp d ((std Tryz.prog).grow B x')∧G:=by
  subst eb;subst ex;exact chk_g h (fun q=>q) g
theorem WsM {B:Nat} {l m l' m':Int} (h:chk (makeOk B l m) k=some r) (el:l=l') (em:m=m') (g:makeOk B l m∧0≤l∧l≤m→k=some r→G):(std Tryz.prog).make B l' m'∧G:=by
  subst el;subst em;exact chk_g h (fun q=>q) fun q=>g ⟨q,q.1,q.2.1⟩
theorem WgM {B:Nat} {b d:Bool} {l m l' m':Int} (h:chk (b=true→makeOk B l m) k=some r) (eb:b=d) (el:l=l') (em:m=m') (g:(b=true→makeOk B l m)→k=some r→G):(std Tryz.prog).imp d ((std Tryz.prog).make B l' m')∧G:=by
  subst eb;subst el;subst em;exact chk_g h (fun q=>q) g
theorem WsN {x x':Int} (h:chk (x≠0) k=some r) (ex:x=x') (g:x≠0→k=some r→G):(std Tryz.prog).ne0 x'∧G:=by
  subst ex;exact chk_g h (fun q=>q) fun q=>g q
theorem WgN {b d:Bool} {x x':Int} (h:chk (b=true→x≠0) k=some r) (eb:b=d) (ex:x=x') (g:(b=true→x≠0)→k=some r→G):(std Tryz.prog).imp d ((std Tryz.prog).ne0 x')∧G:=by
  subst eb;subst ex;exact chk_g h (fun q=>q) g
theorem WsZ {x x':Int} (h:chk ((0:Int)≤x) k=some r) (ex:x=x') (g:(0:Int)≤x→k=some r→G):(std Tryz.prog).ge0 x'∧G:=by
  subst ex;exact chk_g h (fun q=>q) fun q=>g q
theorem WgZ {b d:Bool} {x x':Int} (h:chk (b=true→(0:Int)≤x) k=some r) (eb:b=d) (ex:x=x') (g:(b=true→(0:Int)≤x)→k=some r→G):(std Tryz.prog).imp d ((std Tryz.prog).ge0 x')∧G:=by
  subst eb;subst ex;exact chk_g h (fun q=>q) g
end
theorem Wbt {A B:Prop} (h:A):(std Tryz.prog).ifb true A B:=⟨fun _=>h,fun h=>Bool.noConfusion h⟩
theorem Wbf {A B:Prop} (h:B):(std Tryz.prog).ifb false A B:=⟨fun h=>Bool.noConfusion h,fun _=>h⟩
theorem Wct {A B:Prop} {d:Bool} (e:d=true) (h:A):(std Tryz.prog).ifb d A B:=⟨fun _=>h,fun h=>absurd (e.symm.trans h) (by decide)⟩
theorem Wcf {A B:Prop} {d:Bool} (e:d=false) (h:B):(std Tryz.prog).ifb d A B:=⟨fun h=>absurd (e.symm.trans h) (by decide),fun _=>h⟩
theorem Wz {p:Prop} (h:p:=by
  intro N hN
  generalize hp:std Tryz.prog=p;generalize hv:nvS=nv;cbv;subst hp hv
  repeat' first
  | ((with_reducible refine Wb h ?_ ?_ ?_);(focus exact rfl);all_goals (clear h;intro hx h))
  | ((with_reducible refine WsI h ?_ ?_ ?_);(focus exact rfl);(focus exact rfl);(clear h;intro hx h);(try (have hx:=hx;simp only [Int.zero_add] at hx)))
  | ((with_reducible refine WsR h ?_ ?_);(focus exact rfl);(clear h;intro hx h))
  | ((with_reducible refine WsC h ?_ ?_ ?_ ?_);(focus exact rfl);(focus exact rfl);(focus exact rfl);(clear h;intro hx h);(try (have hx:=hx;simp only [Int.zero_add] at hx)))
  | ((with_reducible refine WsG h ?_ ?_);(focus exact rfl);(clear h;intro hx h))
  | ((with_reducible refine WsM h ?_ ?_ ?_);(focus exact rfl);(focus exact rfl);(clear h;intro hx h))
  | ((with_reducible refine WsN h ?_ ?_);(focus exact rfl);(clear h;intro hx h))
  | ((with_reducible refine WsZ h ?_ ?_);(focus exact rfl);(clear h;intro hx h))
  | ((with_reducible refine WgI h ?_ ?_ ?_ ?_);(focus exact rfl);(focus exact rfl);(focus exact rfl);(clear h;intro hx h))
  | ((with_reducible refine WgR h ?_ ?_ ?_);(focus exact rfl);(focus exact rfl);(clear h;intro hx h))
  | ((with_reducible refine WgC h ?_ ?_ ?_ ?_ ?_);(focus exact rfl);(focus exact rfl);(focus exact rfl);(focus exact rfl);(clear h;intro hx h))
  | ((with_reducible refine WgG h ?_ ?_ ?_);(focus exact rfl);(focus exact rfl);(clear h;intro hx h))
  | ((with_reducible refine WgM h ?_ ?_ ?_ ?_);(focus exact rfl);(focus exact rfl);(focus exact rfl);(clear h;intro hx h))
  | ((with_reducible refine WgN h ?_ ?_ ?_);(focus exact rfl);(focus exact rfl);(clear h;intro hx h))
  | ((with_reducible refine WgZ h ?_ ?_ ?_);(focus exact rfl);(focus exact rfl);(clear h;intro hx h))
  | (refine Wbn h (by with_reducible assumption) ?_;clear h;intro hx hx h;(try dsimp only at h))
  | with_reducible refine Wbt ?_
  | with_reducible refine Wbf ?_
  | ((with_reducible refine Wct ?_ ?_);(focus exact rfl))
  | ((with_reducible refine Wcf ?_ ?_);(focus exact rfl))
  | ((with_reducible refine And.intro ?_ ?_);(focus exact Wob))
  | (have hx:=(chk_some h).1;replace h:=(chk_some h).2;(try (have hx:lenL _=lenL _:=hx;simp (disch:=first | omega | with_reducible exact imax1_nn _) only [lenL_rep] at hx)))
  | (subst hN;exact Wend)
  | fail
  first | done | fail):p:=h
theorem Wq {G G':Prop} (k:G') (h:Kp G'→G:=by
  intro k h
  intro N hN
  generalize hp:std Tryz.prog=p;generalize hv:nvS=nv;cbv;subst hp hv
  repeat' first
  | ((with_reducible refine Wb h ?_ ?_ ?_);(focus exact rfl);all_goals (clear h;intro hx h))
  | ((with_reducible refine WsI h ?_ ?_ ?_);(focus exact rfl);(focus exact rfl);(clear h;intro hx h);(try (have hx:=hx;simp only [Int.zero_add] at hx)))
  | ((with_reducible refine WsR h ?_ ?_);(focus exact rfl);(clear h;intro hx h))
  | ((with_reducible refine WsC h ?_ ?_ ?_ ?_);(focus exact rfl);(focus exact rfl);(focus exact rfl);(clear h;intro hx h);(try (have hx:=hx;simp only [Int.zero_add] at hx)))
  | ((with_reducible refine WsG h ?_ ?_);(focus exact rfl);(clear h;intro hx h))
  | ((with_reducible refine WsM h ?_ ?_ ?_);(focus exact rfl);(focus exact rfl);(clear h;intro hx h))
  | ((with_reducible refine WsN h ?_ ?_);(focus exact rfl);(clear h;intro hx h))
  | ((with_reducible refine WsZ h ?_ ?_);(focus exact rfl);(clear h;intro hx h))
  | ((with_reducible refine WgI h ?_ ?_ ?_ ?_);(focus exact rfl);(focus exact rfl);(focus exact rfl);(clear h;intro hx h))
  | ((with_reducible refine WgR h ?_ ?_ ?_);(focus exact rfl);(focus exact rfl);(clear h;intro hx h))
  | ((with_reducible refine WgC h ?_ ?_ ?_ ?_ ?_);(focus exact rfl);(focus exact rfl);(focus exact rfl);(focus exact rfl);(clear h;intro hx h))
  | ((with_reducible refine WgG h ?_ ?_ ?_);(focus exact rfl);(focus exact rfl);(clear h;intro hx h))
  | ((with_reducible refine WgM h ?_ ?_ ?_ ?_);(focus exact rfl);(focus exact rfl);(focus exact rfl);(clear h;intro hx h))
  | ((with_reducible refine WgN h ?_ ?_ ?_);(focus exact rfl);(focus exact rfl);(clear h;intro hx h))
  | ((with_reducible refine WgZ h ?_ ?_ ?_);(focus exact rfl);(focus exact rfl);(clear h;intro hx h))
  | (refine Wbn h (by with_reducible assumption) ?_;clear h;intro hx hx h;(try dsimp only at h))
  | with_reducible refine Wbt ?_
  | with_reducible refine Wbf ?_
  | ((with_reducible refine Wct ?_ ?_);(focus exact rfl))
  | ((with_reducible refine Wcf ?_ ?_);(focus exact rfl))
  | ((with_reducible refine And.intro ?_ ?_);(focus exact Wob))
  | (have hx:=(chk_some h).1;replace h:=(chk_some h).2;(try (have hx:lenL _=lenL _:=hx;simp (disch:=first | omega | with_reducible exact imax1_nn _) only [lenL_rep] at hx)))
  | (clear k;cases h;first | done | fail)
  | (subst hN;(first | show Tr _ _ _ _ | show wpEnd _ _ _ _ _ _ _ | fail);(repeat revert hx);revert h;exact k.get)
  | (clear k;subst hN;exact Wend)
  | fail
  first | done | fail):G:=h ⟨k⟩

abbrev cxW (K:List (Nat × Nat)) (O:List (Nat × CallR)) (I:List Nat) (m:Nat) (G:List (Nat × List Gh)):Cx:=⟨tt0,⟨fun f=>kOf K f,fun k _ _ _=>orcL O k,fun t=>memN I t⟩,m,fun r=>ghL G r⟩
section
variable {c:Code} {Q:Exit→St→Prop} {st:St} {K:List (Nat × Nat)} {O:List (Nat × CallR)}
theorem Wx (I:List Nat) (m:Nat) (G:List (Nat × List Gh)) (h : ∀ N,N=Q→wp (std Tryz.prog) (cxW [] [] I m G) c N st):Tr Tryz.prog c Q st:=Tr.chunk tt0_ok hPm h
theorem Wk (I:List Nat) (m:Nat) (G:List (Nat × List Gh)) (h : ∀ N,N=Q→wp (std Tryz.prog) (cxW K O I m G) c N st):TrK K O Tryz.prog c Q st:=Tr.chunk tt0_ok hPm h
theorem Wkp (n:Nat) (I:List Nat) (m:Nat) (G:List (Nat × List Gh)) (h : ∀ N,N=Q→wpPre (std Tryz.prog) (cxW K O I m G) n c N st):TrK K O Tryz.prog c Q st:=Tr.pre tt0_ok hPm n h
section
variable {α γ:Type} {A:Option (Fl α γ)} {k:α→Option γ} {r:γ}
theorem Wxc (n:Nat) (I:List Nat) (m:Nat) (G:List (Nat × List Gh)) (h:cutO A k=some r) (c0:Nat) (J U:List (Nat × Nat)) (F:α→Hid→Fr)
    (hB : ∀ (x:α) (c1:Nat) (g:Nat→Nat) (t:Nat→Bool),c0 < c1→(∀ k,g k < c1)→(F x ⟨c1,g,t⟩).p ()→k x=some r→Tr Tryz.prog (restN n c) Q (MF st J U F x ⟨c1,g,t⟩)) (hA : ∀ f,A=some f→∀ N,N=stepF Tryz.prog st c0 J U F r Q f→wpCut (std Tryz.prog) (cxW [] [] I m G) N n c st):Tr Tryz.prog c Q st:=WcutN tt0_ok hPm n h c0 J U F hB hA
theorem Wkc (n:Nat) (I:List Nat) (m:Nat) (G:List (Nat × List Gh)) (h:cutO A k=some r) (c0:Nat) (J U:List (Nat × Nat)) (F:α→Hid→Fr)
    (hB : ∀ (x:α) (c1:Nat) (g:Nat→Nat) (t:Nat→Bool),c0 < c1→(∀ k,g k < c1)→(F x ⟨c1,g,t⟩).p ()→k x=some r→Tr Tryz.prog (restN n c) Q (MF st J U F x ⟨c1,g,t⟩)) (hA : ∀ f,A=some f→∀ N,N=stepF Tryz.prog st c0 J U F r Q f→wpCut (std Tryz.prog) (cxW K O I m G) N n c st):TrK K O Tryz.prog c Q st:=WcutN tt0_ok hPm n h c0 J U F hB hA
end
theorem Wyp (n:Nat) (I:List Nat) (m:Nat) (G:List (Nat × List Gh)) {L:Prop} (h:L→∀ N,N=Q→wpPre (std Tryz.prog) (cxW [] [] I m G) n c N st):L→Tr Tryz.prog c Q st:=fun l=>Tr.pre tt0_ok hPm n (h l)
theorem Wjp (n:Nat) (I:List Nat) (m:Nat) (G:List (Nat × List Gh)) {L:Prop} (h:L→∀ N,N=Q→wpPre (std Tryz.prog) (cxW K O I m G) n c N st):L→TrK K O Tryz.prog c Q st:=fun l=>Tr.pre tt0_ok hPm n (h l)
end
theorem Wfn {f:FuncId} {args:List D} {res:D} {fn:Func} (hf:Tryz.prog.funcs[f]? = some fn) (c:Code) (h : ∀ ctr,0 < ctr→Tr Tryz.prog c (retQ (std Tryz.prog) tt0 fn.results.toList res) (door args fn.ntmps ctr)) (hn:(fn.name == "runtime.NumGoroutine")=false:=by kernel_rfl) (hb:fn.body=some c:=by kernel_rfl):PureFn Tryz.prog f args res:=fn_tr tt0_ok hf hn hb h
theorem Wfl {f:FuncId} {args:List D} {pre post:List Ob} {res:D} {fn:Func} (hf:Tryz.prog.funcs[f]? = some fn) (c:Code) (h : ∀ ctr,0 < ctr→Tr Tryz.prog c (lentQ (std Tryz.prog) tt0 fn.results.toList post res) (doorL args pre fn.ntmps ctr)) (hn:(fn.name == "runtime.NumGoroutine")=false:=by kernel_rfl) (hb:fn.body=some c:=by kernel_rfl) (hl:post.length=pre.length:=by rfl):LentFn Tryz.prog f args pre post res:=lent_tr tt0_ok hf hn hb hl h
end Go.Vx
