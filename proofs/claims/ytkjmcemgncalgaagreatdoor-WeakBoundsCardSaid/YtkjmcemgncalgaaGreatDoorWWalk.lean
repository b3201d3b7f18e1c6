/- Walks, by program (lift.py): the code does what the lifted functions say. -/
import Derived.Test.YtkjmcemgncalgaaGreatDoorWLift
import Derived.Test.YtkjmcemgncalgaaGreatDoorChecked
set_option linter.all false
namespace Go.Vx
open Go.Proofs
set_option maxRecDepth 100000
set_option linter.unusedVariables false
set_option linter.unusedSimpArgs false
def D_strings_span (nv:Nv) (x:T_strings_span) (j:Nat):D:=match j with
  | 0=>(.v (.int .i64 x.fstart))
  | 1=>(.v (.int .i64 x.fend))
  | _=>.junk
def D_ranges_Row (nv:Nv) (x:T_ranges_Row) (j:Nat):D:=match j with
  | 0=>(.v (.int .i64 x.fLo))
  | 1=>(.v (.int .i64 x.fHi))
  | 2=>(.v (.int .i64 x.fV))
  | _=>.junk
def D_ranges_Table (nv:Nv) (x:T_ranges_Table) (j:Nat):D:=match j with
  | 0=>(.sl 3 (nv.len x.fL) false (fun ix jx=>(D_ranges_Row nv (nv.get d_ranges_Row x.fL ix) jx)))
  | _=>.junk
def D_ucd_Pair (nv:Nv) (x:T_ucd_Pair) (j:Nat):D:=match j with
  | 0=>(.v (.int .i64 x.fA))
  | 1=>(.v (.int .i64 x.fB))
  | _=>.junk
def D_ucd_Form (nv:Nv) (x:T_ucd_Form) (j:Nat):D:=match j with
  | 0=>(.v (.int .i64 x.fR))
  | 1=>(.v (.int .i64 x.fAt))
  | 2=>(.v (.int .i64 x.fN))
  | _=>.junk
def D_ucd_Data (nv:Nv) (x:T_ucd_Data) (j:Nat):D:=match j with
  | 0=>(.sl 3 (nv.len x.fClass.fL) false (fun ix jx=>(D_ranges_Row nv (nv.get d_ranges_Row x.fClass.fL ix) jx)))
  | 1=>(.sl 3 (nv.len x.fWide.fL) false (fun ix jx=>(D_ranges_Row nv (nv.get d_ranges_Row x.fWide.fL ix) jx)))
  | 2=>(.sl 3 (nv.len x.fJoin.fL) false (fun ix jx=>(D_ranges_Row nv (nv.get d_ranges_Row x.fJoin.fL ix) jx)))
  | 3=>(.sl 2 (nv.len x.fMirror) false (fun ix jx=>(D_ucd_Pair nv (nv.get d_ucd_Pair x.fMirror ix) jx)))
  | 4=>(.sl 2 (nv.len x.fBrackets) false (fun ix jx=>(D_ucd_Pair nv (nv.get d_ucd_Pair x.fBrackets ix) jx)))
  | 5=>(.sl 3 (nv.len x.fForms) false (fun ix jx=>(D_ucd_Form nv (nv.get d_ucd_Form x.fForms ix) jx)))
  | _=>.junk
def D_embed_stack_int_ (nv:Nv) (x:T_embed_stack_int_) (j:Nat):D:=match j with
  | 0=>(.sl 1 (nv.len x.fl) false (fun ix jx=>(.v (.int .i64 (nv.get 0 x.fl ix)))))
  | _=>.junk
def D_embed_status (nv:Nv) (x:T_embed_status) (j:Nat):D:=match j with
  | 0=>(.v (.int .i64 x.flevel))
  | 1=>(.v (.int .i64 x.foverride))
  | 2=>(.v (.bool x.fisolate))
  | _=>.junk
def D_embed_status_ (nv:Nv) (x:T_embed_status_) (j:Nat):D:=match j with
  | 0=>(.sl 3 (nv.len x.fl) false (fun ix jx=>(D_embed_status nv (nv.get d_embed_status x.fl ix) jx)))
  | _=>.junk
def D_embed_Run (nv:Nv) (x:T_embed_Run) (j:Nat):D:=match j with
  | 0=>(.sl 1 (nv.len x.fLevels) false (fun ix jx=>(.v (.int .i64 (nv.get 0 x.fLevels ix)))))
  | 1=>(.sl 1 (nv.len x.fClasses) false (fun ix jx=>(.v (.int .i64 (nv.get 0 x.fClasses ix)))))
  | 2=>(.sl 1 (nv.len x.fRemoved) false (fun ix jx=>(.v (.bool (nv.get false x.fRemoved ix)))))
  | _=>.junk
def D_embed_machine (nv:Nv) (x:T_embed_machine) (j:Nat):D:=match j with
  | 0=>(.sl 1 (nv.len x.fl) false (fun ix jx=>(.v (.int .i64 (nv.get 0 x.fl ix)))))
  | 1=>(.sl 1 (nv.len x.fmatch) false (fun ix jx=>(.v (.int .i64 (nv.get 0 x.fmatch ix)))))
  | 2=>(.v (.int .i64 x.fbase))
  | 3=>(.sl 1 (nv.len x.frun.fLevels) false (fun ix jx=>(.v (.int .i64 (nv.get 0 x.frun.fLevels ix)))))
  | 4=>(.sl 1 (nv.len x.frun.fClasses) false (fun ix jx=>(.v (.int .i64 (nv.get 0 x.frun.fClasses ix)))))
  | 5=>(.sl 1 (nv.len x.frun.fRemoved) false (fun ix jx=>(.v (.bool (nv.get false x.frun.fRemoved ix)))))
  | 6=>(.sl 3 (nv.len x.fopen.fl) false (fun ix jx=>(D_embed_status nv (nv.get d_embed_status x.fopen.fl ix) jx)))
  | 7=>(.v (.int .i64 x.fisolates))
  | 8=>(.v (.int .i64 x.fembeddings))
  | 9=>(.v (.int .i64 x.fvalid))
  | _=>.junk
def D_weak_text (nv:Nv) (x:T_weak_text) (j:Nat):D:=match j with
  | 0=>(.sl 1 (nv.len x.fl) false (fun ix jx=>(.v (.int .i64 (nv.get 0 x.fl ix)))))
  | 1=>(.v (.int .i64 x.fsos))
  | _=>.junk
def D_Arr2_i64 (nv:Nv) (x:T_Arr2_i64) (j:Nat):D:=match j with
  | 0=>(.v (.int .i64 x.x0))
  | 1=>(.v (.int .i64 x.x1))
  | _=>.junk
def D_weak_line (nv:Nv) (x:T_weak_line) (j:Nat):D:=match j with
  | 0=>(.sl 1 (nv.len x.fl) false (fun ix jx=>(.v (.int .i64 (nv.get 0 x.fl ix)))))
  | 1=>(.sl 1 (nv.len x.fwas) false (fun ix jx=>(.v (.int .i64 (nv.get 0 x.fwas ix)))))
  | 2=>(.v (.int .i64 x.fsos))
  | 3=>(.v (.int .i64 x.feos))
  | 4=>(.v (.int .i64 x.fdir))
  | 5=>(.v (.int .i64 x.fagainst))
  | 6=>(.sl 2 (nv.len x.fpairs) false (fun ix jx=>(D_Arr2_i64 nv (nv.get d_Arr2_i64 x.fpairs ix) jx)))
  | _=>.junk
theorem out_strings_span {P:Program} (x:T_strings_span) (j:Nat):out0 (std P) (D_strings_span nvS x j) (D_strings_span nvS x j):=match j with
  | 0=>out0_int _ _
  | 1=>out0_int _ _
  | _+2=>trivial
theorem out_ranges_Row {P:Program} (x:T_ranges_Row) (j:Nat):out0 (std P) (D_ranges_Row nvS x j) (D_ranges_Row nvS x j):=match j with
  | 0=>out0_int _ _
  | 1=>out0_int _ _
  | 2=>out0_int _ _
  | _+3=>trivial
theorem out_ranges_Table {P:Program} (x:T_ranges_Table) (j:Nat):out0 (std P) (D_ranges_Table nvS x j) (D_ranges_Table nvS x j):=match j with
  | 0=>out0_sl (fun i j=>out_ranges_Row _ _)
  | _+1=>trivial
theorem out_ucd_Pair {P:Program} (x:T_ucd_Pair) (j:Nat):out0 (std P) (D_ucd_Pair nvS x j) (D_ucd_Pair nvS x j):=match j with
  | 0=>out0_int _ _
  | 1=>out0_int _ _
  | _+2=>trivial
theorem out_ucd_Form {P:Program} (x:T_ucd_Form) (j:Nat):out0 (std P) (D_ucd_Form nvS x j) (D_ucd_Form nvS x j):=match j with
  | 0=>out0_int _ _
  | 1=>out0_int _ _
  | 2=>out0_int _ _
  | _+3=>trivial
theorem out_ucd_Data {P:Program} (x:T_ucd_Data) (j:Nat):out0 (std P) (D_ucd_Data nvS x j) (D_ucd_Data nvS x j):=match j with
  | 0=>out0_sl (fun i j=>out_ranges_Row _ _)
  | 1=>out0_sl (fun i j=>out_ranges_Row _ _)
  | 2=>out0_sl (fun i j=>out_ranges_Row _ _)
  | 3=>out0_sl (fun i j=>out_ucd_Pair _ _)
  | 4=>out0_sl (fun i j=>out_ucd_Pair _ _)
  | 5=>out0_sl (fun i j=>out_ucd_Form _ _)
  | _+6=>trivial
theorem out_embed_stack_int_ {P:Program} (x:T_embed_stack_int_) (j:Nat):out0 (std P) (D_embed_stack_int_ nvS x j) (D_embed_stack_int_ nvS x j):=match j with
  | 0=>out0_sl (fun i j=>out0_int _ _)
  | _+1=>trivial
theorem out_embed_status {P:Program} (x:T_embed_status) (j:Nat):out0 (std P) (D_embed_status nvS x j) (D_embed_status nvS x j):=match j with
  | 0=>out0_int _ _
  | 1=>out0_int _ _
  | 2=>out0_bool _
  | _+3=>trivial
theorem clo_embed_status {P:Program} (x:T_embed_status) (j:Nat):clo (std P) (D_embed_status nvS x j):=match j with
  | 0=>trivial
  | 1=>trivial
  | 2=>trivial
  | _+3=>trivial
theorem flat_embed_status {P:Program} (x:T_embed_status) (j:Nat):flat (std P) (D_embed_status nvS x j):=match j with
  | 0=>trivial
  | 1=>trivial
  | 2=>trivial
  | _+3=>trivial
theorem out_embed_status_ {P:Program} (x:T_embed_status_) (j:Nat):out0 (std P) (D_embed_status_ nvS x j) (D_embed_status_ nvS x j):=match j with
  | 0=>out0_sl (fun i j=>out_embed_status _ _)
  | _+1=>trivial
theorem out_embed_Run {P:Program} (x:T_embed_Run) (j:Nat):out0 (std P) (D_embed_Run nvS x j) (D_embed_Run nvS x j):=match j with
  | 0=>out0_sl (fun i j=>out0_int _ _)
  | 1=>out0_sl (fun i j=>out0_int _ _)
  | 2=>out0_sl (fun i j=>out0_bool _)
  | _+3=>trivial
theorem out_embed_machine {P:Program} (x:T_embed_machine) (j:Nat):out0 (std P) (D_embed_machine nvS x j) (D_embed_machine nvS x j):=match j with
  | 0=>out0_sl (fun i j=>out0_int _ _)
  | 1=>out0_sl (fun i j=>out0_int _ _)
  | 2=>out0_int _ _
  | 3=>out0_sl (fun i j=>out0_int _ _)
  | 4=>out0_sl (fun i j=>out0_int _ _)
  | 5=>out0_sl (fun i j=>out0_bool _)
  | 6=>out0_sl (fun i j=>out_embed_status _ _)
  | 7=>out0_int _ _
  | 8=>out0_int _ _
  | 9=>out0_int _ _
  | _+10=>trivial
theorem out_weak_text {P:Program} (x:T_weak_text) (j:Nat):out0 (std P) (D_weak_text nvS x j) (D_weak_text nvS x j):=match j with
  | 0=>out0_sl (fun i j=>out0_int _ _)
  | 1=>out0_int _ _
  | _+2=>trivial
theorem out_Arr2_i64 {P:Program} (x:T_Arr2_i64) (j:Nat):out0 (std P) (D_Arr2_i64 nvS x j) (D_Arr2_i64 nvS x j):=match j with
  | 0=>out0_int _ _
  | 1=>out0_int _ _
  | _+2=>trivial
theorem clo_Arr2_i64 {P:Program} (x:T_Arr2_i64) (j:Nat):clo (std P) (D_Arr2_i64 nvS x j):=match j with
  | 0=>trivial
  | 1=>trivial
  | _+2=>trivial
theorem out_weak_line {P:Program} (x:T_weak_line) (j:Nat):out0 (std P) (D_weak_line nvS x j) (D_weak_line nvS x j):=match j with
  | 0=>out0_sl (fun i j=>out0_int _ _)
  | 1=>out0_sl (fun i j=>out0_int _ _)
  | 2=>out0_int _ _
  | 3=>out0_int _ _
  | 4=>out0_int _ _
  | 5=>out0_int _ _
  | 6=>out0_sl (fun i j=>out_Arr2_i64 _ _)
  | _+7=>trivial
def tt0:TT:=[(2,⟨1,8,.int .i64,some [.int .i64 0],none,true⟩),
  (3,⟨1,8,.int .i64,some [.int .i64 0],none,true⟩),
  (4,⟨1,1,.bool,some [.bool false],none,true⟩),
  (5,⟨1,1,.int .u8,some [.int .u8 0],none,true⟩),
  (9,⟨1,16,.string,some [.string ⟨#[]⟩],none,true⟩),
  (21,⟨1,4,.int .i32,some [.int .i32 0],none,true⟩),
  (22,⟨1,24,.slice 3,some [.slice none 0 0],none,true⟩),
  (24,⟨1,24,.slice 66,some [.slice none 0 0],none,true⟩),
  (26,⟨1,24,.struct [(0,24)],some [.slice none 0 0],none,false⟩),
  (27,⟨1,24,.slice 56,some [.slice none 0 0],none,true⟩),
  (28,⟨1,24,.slice 68,some [.slice none 0 0],none,true⟩),
  (30,⟨6,144,.struct [(0,26),(1,26),(2,26),(3,27),(4,27),(5,28)],some [.slice none 0 0,.slice none 0 0,.slice none 0 0,.slice none 0 0,.slice none 0 0,.slice none 0 0],none,false⟩),
  (37,⟨1,24,.slice 39,some [.slice none 0 0],none,true⟩),
  (39,⟨2,16,.array 2 3,some [.int .i64 0,.int .i64 0],some [.int .i64,.int .i64],false⟩),
  (56,⟨2,16,.struct [(0,3),(1,3)],some [.int .i64 0,.int .i64 0],some [.int .i64,.int .i64],false⟩),
  (59,⟨2,32,.struct [(0,22),(1,3)],some [.slice none 0 0,.int .i64 0],none,false⟩),
  (60,⟨1,8,.other,some [.nilFunc],none,true⟩),
  (61,⟨1,24,.slice 60,some [.slice none 0 0],none,true⟩),
  (62,⟨1,24,.slice 9,some [.slice none 0 0],none,true⟩),
  (66,⟨3,24,.struct [(0,3),(1,3),(2,3)],some [.int .i64 0,.int .i64 0,.int .i64 0],some [.int .i64,.int .i64,.int .i64],false⟩),
  (68,⟨3,24,.struct [(0,3),(1,3),(2,3)],some [.int .i64 0,.int .i64 0,.int .i64 0],some [.int .i64,.int .i64,.int .i64],false⟩),
  (70,⟨1,24,.slice 4,some [.slice none 0 0],none,true⟩),
  (72,⟨3,72,.struct [(0,22),(1,22),(2,70)],some [.slice none 0 0,.slice none 0 0,.slice none 0 0],none,false⟩),
  (74,⟨1,24,.slice 22,some [.slice none 0 0],none,true⟩),
  (81,⟨1,8,.int .u64,some [.int .u64 0],none,true⟩),
  (87,⟨1,16,.iface,some [.nilIface],none,true⟩),
  (90,⟨256,256,.array 256 5,some [.int .u8 0,.int .u8 0,.int .u8 0,.int .u8 0,.int .u8 0,.int .u8 0,.int .u8 0,.int .u8 0,.int .u8 0,.int .u8 0,.int .u8 0,.int .u8 0,.int .u8 0,.int .u8 0,.int .u8 0,.int .u8 0,.int .u8 0,.int .u8 0,.int .u8 0,.int .u8 0,.int .u8 0,.int .u8 0,.int .u8 0,.int .u8 0,.int .u8 0,.int .u8 0,.int .u8 0,.int .u8 0,.int .u8 0,.int .u8 0,.int .u8 0,.int .u8 0,.int .u8 0,.int .u8 0,.int .u8 0,.int .u8 0,.int .u8 0,.int .u8 0,.int .u8 0,.int .u8 0,.int .u8 0,.int .u8 0,.int .u8 0,.int .u8 0,.int .u8 0,.int .u8 0,.int .u8 0,.int .u8 0,.int .u8 0,.int .u8 0,.int .u8 0,.int .u8 0,.int .u8 0,.int .u8 0,.int .u8 0,.int .u8 0,.int .u8 0,.int .u8 0,.int .u8 0,.int .u8 0,.int .u8 0,.int .u8 0,.int .u8 0,.int .u8 0,.int .u8 0,.int .u8 0,.int .u8 0,.int .u8 0,.int .u8 0,.int .u8 0,.int .u8 0,.int .u8 0,.int .u8 0,.int .u8 0,.int .u8 0,.int .u8 0,.int .u8 0,.int .u8 0,.int .u8 0,.int .u8 0,.int .u8 0,.int .u8 0,.int .u8 0,.int .u8 0,.int .u8 0,.int .u8 0,.int .u8 0,.int .u8 0,.int .u8 0,.int .u8 0,.int .u8 0,.int .u8 0,.int .u8 0,.int .u8 0,.int .u8 0,.int .u8 0,.int .u8 0,.int .u8 0,.int .u8 0,.int .u8 0,.int .u8 0,.int .u8 0,.int .u8 0,.int .u8 0,.int .u8 0,.int .u8 0,.int .u8 0,.int .u8 0,.int .u8 0,.int .u8 0,.int .u8 0,.int .u8 0,.int .u8 0,.int .u8 0,.int .u8 0,.int .u8 0,.int .u8 0,.int .u8 0,.int .u8 0,.int .u8 0,.int .u8 0,.int .u8 0,.int .u8 0,.int .u8 0,.int .u8 0,.int .u8 0,.int .u8 0,.int .u8 0,.int .u8 0,.int .u8 0,.int .u8 0,.int .u8 0,.int .u8 0,.int .u8 0,.int .u8 0,.int .u8 0,.int .u8 0,.int .u8 0,.int .u8 0,.int .u8 0,.int .u8 0,.int .u8 0,.int .u8 0,.int .u8 0,.int .u8 0,.int .u8 0,.int .u8 0,.int .u8 0,.int .u8 0,.int .u8 0,.int .u8 0,.int .u8 0,.int .u8 0,.int .u8 0,.int .u8 0,.int .u8 0,.int .u8 0,.int .u8 0,.int .u8 0,.int .u8 0,.int .u8 0,.int .u8 0,.int .u8 0,.int .u8 0,.int .u8 0,.int .u8 0,.int .u8 0,.int .u8 0,.int .u8 0,.int .u8 0,.int .u8 0,.int .u8 0,.int .u8 0,.int .u8 0,.int .u8 0,.int .u8 0,.int .u8 0,.int .u8 0,.int .u8 0,.int .u8 0,.int .u8 0,.int .u8 0,.int .u8 0,.int .u8 0,.int .u8 0,.int .u8 0,.int .u8 0,.int .u8 0,.int .u8 0,.int .u8 0,.int .u8 0,.int .u8 0,.int .u8 0,.int .u8 0,.int .u8 0,.int .u8 0,.int .u8 0,.int .u8 0,.int .u8 0,.int .u8 0,.int .u8 0,.int .u8 0,.int .u8 0,.int .u8 0,.int .u8 0,.int .u8 0,.int .u8 0,.int .u8 0,.int .u8 0,.int .u8 0,.int .u8 0,.int .u8 0,.int .u8 0,.int .u8 0,.int .u8 0,.int .u8 0,.int .u8 0,.int .u8 0,.int .u8 0,.int .u8 0,.int .u8 0,.int .u8 0,.int .u8 0,.int .u8 0,.int .u8 0,.int .u8 0,.int .u8 0,.int .u8 0,.int .u8 0,.int .u8 0,.int .u8 0,.int .u8 0,.int .u8 0,.int .u8 0,.int .u8 0,.int .u8 0,.int .u8 0,.int .u8 0,.int .u8 0,.int .u8 0,.int .u8 0,.int .u8 0,.int .u8 0,.int .u8 0,.int .u8 0,.int .u8 0,.int .u8 0,.int .u8 0,.int .u8 0,.int .u8 0,.int .u8 0,.int .u8 0,.int .u8 0,.int .u8 0,.int .u8 0,.int .u8 0],some [.int .u8,.int .u8,.int .u8,.int .u8,.int .u8,.int .u8,.int .u8,.int .u8,.int .u8,.int .u8,.int .u8,.int .u8,.int .u8,.int .u8,.int .u8,.int .u8,.int .u8,.int .u8,.int .u8,.int .u8,.int .u8,.int .u8,.int .u8,.int .u8,.int .u8,.int .u8,.int .u8,.int .u8,.int .u8,.int .u8,.int .u8,.int .u8,.int .u8,.int .u8,.int .u8,.int .u8,.int .u8,.int .u8,.int .u8,.int .u8,.int .u8,.int .u8,.int .u8,.int .u8,.int .u8,.int .u8,.int .u8,.int .u8,.int .u8,.int .u8,.int .u8,.int .u8,.int .u8,.int .u8,.int .u8,.int .u8,.int .u8,.int .u8,.int .u8,.int .u8,.int .u8,.int .u8,.int .u8,.int .u8,.int .u8,.int .u8,.int .u8,.int .u8,.int .u8,.int .u8,.int .u8,.int .u8,.int .u8,.int .u8,.int .u8,.int .u8,.int .u8,.int .u8,.int .u8,.int .u8,.int .u8,.int .u8,.int .u8,.int .u8,.int .u8,.int .u8,.int .u8,.int .u8,.int .u8,.int .u8,.int .u8,.int .u8,.int .u8,.int .u8,.int .u8,.int .u8,.int .u8,.int .u8,.int .u8,.int .u8,.int .u8,.int .u8,.int .u8,.int .u8,.int .u8,.int .u8,.int .u8,.int .u8,.int .u8,.int .u8,.int .u8,.int .u8,.int .u8,.int .u8,.int .u8,.int .u8,.int .u8,.int .u8,.int .u8,.int .u8,.int .u8,.int .u8,.int .u8,.int .u8,.int .u8,.int .u8,.int .u8,.int .u8,.int .u8,.int .u8,.int .u8,.int .u8,.int .u8,.int .u8,.int .u8,.int .u8,.int .u8,.int .u8,.int .u8,.int .u8,.int .u8,.int .u8,.int .u8,.int .u8,.int .u8,.int .u8,.int .u8,.int .u8,.int .u8,.int .u8,.int .u8,.int .u8,.int .u8,.int .u8,.int .u8,.int .u8,.int .u8,.int .u8,.int .u8,.int .u8,.int .u8,.int .u8,.int .u8,.int .u8,.int .u8,.int .u8,.int .u8,.int .u8,.int .u8,.int .u8,.int .u8,.int .u8,.int .u8,.int .u8,.int .u8,.int .u8,.int .u8,.int .u8,.int .u8,.int .u8,.int .u8,.int .u8,.int .u8,.int .u8,.int .u8,.int .u8,.int .u8,.int .u8,.int .u8,.int .u8,.int .u8,.int .u8,.int .u8,.int .u8,.int .u8,.int .u8,.int .u8,.int .u8,.int .u8,.int .u8,.int .u8,.int .u8,.int .u8,.int .u8,.int .u8,.int .u8,.int .u8,.int .u8,.int .u8,.int .u8,.int .u8,.int .u8,.int .u8,.int .u8,.int .u8,.int .u8,.int .u8,.int .u8,.int .u8,.int .u8,.int .u8,.int .u8,.int .u8,.int .u8,.int .u8,.int .u8,.int .u8,.int .u8,.int .u8,.int .u8,.int .u8,.int .u8,.int .u8,.int .u8,.int .u8,.int .u8,.int .u8,.int .u8,.int .u8,.int .u8,.int .u8,.int .u8,.int .u8,.int .u8,.int .u8,.int .u8,.int .u8,.int .u8,.int .u8,.int .u8,.int .u8,.int .u8,.int .u8,.int .u8,.int .u8,.int .u8],false⟩),
  (92,⟨1,24,.struct [(0,22)],some [.slice none 0 0],none,false⟩),
  (95,⟨1,24,.slice 102,some [.slice none 0 0],none,true⟩),
  (97,⟨1,24,.struct [(0,95)],some [.slice none 0 0],none,false⟩),
  (99,⟨10,176,.struct [(0,22),(1,22),(2,3),(3,72),(6,97),(7,3),(8,3),(9,3)],some [.slice none 0 0,.slice none 0 0,.int .i64 0,.slice none 0 0,.slice none 0 0,.slice none 0 0,.slice none 0 0,.int .i64 0,.int .i64 0,.int .i64 0],none,false⟩),
  (102,⟨3,24,.struct [(0,3),(1,3),(2,4)],some [.int .i64 0,.int .i64 0,.bool false],some [.int .i64,.int .i64,.bool],false⟩),
  (108,⟨7,104,.struct [(0,22),(1,22),(2,3),(3,3),(4,3),(5,3),(6,37)],some [.slice none 0 0,.slice none 0 0,.int .i64 0,.int .i64 0,.int .i64 0,.int .i64 0,.slice none 0 0],none,false⟩),
  (109,⟨1,8,.other,some [.nilFunc],none,true⟩),
  (110,⟨1,24,.slice 109,some [.slice none 0 0],none,true⟩),
  (122,⟨1,8,.int .u64,some [.int .u64 0],none,true⟩),
  (125,⟨1,24,.slice 127,some [.slice none 0 0],none,true⟩),
  (127,⟨2,16,.struct [(0,3),(1,3)],some [.int .i64 0,.int .i64 0],some [.int .i64,.int .i64],false⟩),
  (166,⟨1,24,.slice 5,some [.slice none 0 0],none,true⟩)]
theorem tt0_ok:TTok Tryz.prog tt0:=TTok.of _ _ (by kernel_rfl)
theorem hPm:Tryz.prog.follows .mixedOrders=true:=by kernel_rfl

theorem ext2 {P:Program} {f:FuncId} {fn:Func} {e:Array Value→Sem Value} (hf:P.funcs[f]? = some fn) (hname:(fn.name == "runtime.NumGoroutine")=false) (hb:fn.body.isNone=true) (hn:Extern.findNext fn=none) (he:Extern.find fn=some e)
    {a b d:Value} (hr : ∀ w,(e #[a,b]).run P w = .ok d w):ExtFn P f [.v a,.v b] (.v d):=by
  intro w I c vs hl ha
  match vs,hl with
  | [x,y],_ =>
    obtain ⟨y0,h0,r0⟩:=ha 0 _ rfl
    obtain ⟨y1,h1,r1⟩:=ha 1 _ rfl
    have r0:y0=a:=r0
    have r1:y1=b:=r1
    have h0:x=y0:=by simpa using h0
    have h1:y=y1:=by simpa using h1
    rw [h0,h1,r0,r1]
    refine ⟨d,?_,rfl⟩
    show (callFunc f #[a,b]).run P w=_
    rw [run_callFunc_extern hf hname hb hn he,hr];rfl
theorem bytealg_CountString_ok (s:ByteArray) (c:Int) (r:Int) (h:bytealg_CountString s c=some r):ExtFn Tryz.prog 104 [.v (.string s),.v (.int .u8 c)] (.v (.int .i64 r)):=by
  cases h
  exact ext2 Tryz.func104 (by kernel_rfl) (by kernel_rfl) (by kernel_rfl) (e:=Extern.BytealgCount.count) (by kernel_rfl) (fun w=>Lib.run_countString s c w)
theorem bytealg_IndexByteString_ok (s:ByteArray) (c:Int) (r:Int) (h:bytealg_IndexByteString s c=some r):ExtFn Tryz.prog 124 [.v (.string s),.v (.int .u8 c)] (.v (.int .i64 r)):=by
  cases h
  exact ext2 Tryz.func124 (by kernel_rfl) (by kernel_rfl) (by kernel_rfl) (e:=Extern.BytealgIndexByte.indexByte) (by kernel_rfl) (fun w=>Lib.run_indexByteString s c w)

/-! Names for what is proved again and again. -/
theorem Wy {p:Prop} (h:p:=by first | with_reducible rfl | with_reducible assumption | (symm;with_reducible assumption) | ((try dsimp only [std_eq,stdN,nvS])<;>first | with_reducible rfl | omega | (simp (disch:=first | omega | (simp only [lenL_set,lenL_app,lenL_cons,lenL_nil]<;>omega)) only [lenL_bytes,lenL_set,lenL_app,lenL_cons,lenL_nil,lenL_rep,lenL_sub,lenL_cpy,Int.ofNat_eq_natCast,Int.zero_add,Int.sub_zero]<;>first | done | omega | with_reducible assumption)) | rfl):p:=h
theorem Wf {p:Prop} (h:p:=by first | with_reducible assumption | (simp (disch:=first | omega | (simp only [lenL_set,lenL_app,lenL_cons,lenL_nil]<;>omega)) only [lenL_bytes,lenL_set,lenL_app,lenL_cons,lenL_nil,lenL_rep,lenL_sub,lenL_cpy,Int.ofNat_eq_natCast,Int.zero_add,Int.sub_zero]<;>first | done | with_reducible assumption | omega) | omega | rfl):p:=h
theorem Wl {p:Prop} (h:p:=by show (_:Nat) < _;(try dsimp only [std_eq,stdN]);omega):p:=h
theorem Wm {p:Prop} (h:p:=by (try dsimp only [std_eq,stdN,nvS])<;>first | omega | (simp (disch:=first | omega | (simp only [lenL_set,lenL_app,lenL_cons,lenL_nil]<;>omega)) only [lenL_bytes,lenL_set,lenL_app,lenL_cons,lenL_nil,lenL_rep,lenL_sub,lenL_cpy,Int.ofNat_eq_natCast,Int.zero_add,Int.sub_zero]<;>omega)):p:=h
theorem Wo {p:Prop} (h:p:=by intro i j;first | exact out0_int _ _ | exact out0_bool _ | exact out0_str _ | exact out_strings_span _ _ | exact out_ranges_Row _ _ | exact out_ranges_Table _ _ | exact out_ucd_Pair _ _ | exact out_ucd_Form _ _ | exact out_ucd_Data _ _ | exact out_embed_stack_int_ _ _ | exact out_embed_status _ _ | exact out_embed_status_ _ _ | exact out_embed_Run _ _ | exact out_embed_machine _ _ | exact out_weak_text _ _ | exact out_Arr2_i64 _ _ | exact out_weak_line _ _ | exact out0_sl (fun i j=>out0_int _ _) | exact out0_sl (fun i j=>out0_bool _) | exact out0_sl (fun i j=>out0_str _) | exact out0_sl (fun i j=>out_strings_span _ _) | exact out0_sl (fun i j=>out_ranges_Row _ _) | exact out0_sl (fun i j=>out_ranges_Table _ _) | exact out0_sl (fun i j=>out_ucd_Pair _ _) | exact out0_sl (fun i j=>out_ucd_Form _ _) | exact out0_sl (fun i j=>out_ucd_Data _ _) | exact out0_sl (fun i j=>out_embed_stack_int_ _ _) | exact out0_sl (fun i j=>out_embed_status _ _) | exact out0_sl (fun i j=>out_embed_status_ _ _) | exact out0_sl (fun i j=>out_embed_Run _ _) | exact out0_sl (fun i j=>out_embed_machine _ _) | exact out0_sl (fun i j=>out_weak_text _ _) | exact out0_sl (fun i j=>out_Arr2_i64 _ _) | exact out0_sl (fun i j=>out_weak_line _ _) | trivial):p:=h
theorem Wp {p:Prop} (h:p:=by
  intro i i0 i1 j hj
  (try dsimp only [std_eq,stdN,nvS] at i1);(try simp only [Int.ofNat_eq_natCast,lenL_app,lenL_cons,lenL_nil,lenL_set,lenL_bytes] at i1);(try simp (disch:=first | omega | (simp only [lenL_set,lenL_app,lenL_cons,lenL_nil]<;>omega)) only [lenL_sub,lenL_rep,lenL_cpy,Int.zero_add,Int.sub_zero] at i1)
  (first | (obtain rfl:j=0:=(by omega)) | (rcases (show j=0∨j=1 by omega) with rfl | rfl) | (rcases (show j=0∨j=1∨j=2 by omega) with rfl | rfl | rfl) | (rcases (show j=0∨j=1∨j=2∨j=3 by omega) with rfl | rfl | rfl | rfl) | (rcases (show j=0∨j=1∨j=2∨j=3∨j=4 by omega) with rfl | rfl | rfl | rfl | rfl) | (rcases (show j=0∨j=1∨j=2∨j=3∨j=4∨j=5 by omega) with rfl | rfl | rfl | rfl | rfl | rfl) | (rcases (show j=0∨j=1∨j=2∨j=3∨j=4∨j=5∨j=6 by omega) with rfl | rfl | rfl | rfl | rfl | rfl | rfl) | (rcases (show j=0∨j=1∨j=2∨j=3∨j=4∨j=5∨j=6∨j=7 by omega) with rfl | rfl | rfl | rfl | rfl | rfl | rfl | rfl))<;>(conv=>lhs;whnf)<;>(conv=>rhs;whnf)<;>(try dsimp only [std_eq,stdN,nvS])<;>(first | rfl | (simp (disch:=first | omega | (simp only [lenL_set,lenL_app,lenL_cons,lenL_nil]<;>omega)) only [getL_bytes,getL_put,getL_app,getL_rep,getL_sub,lenL_sub,addSubL,getL_cpy,Int.zero_add,Int.sub_zero,beq_iff_eq,decide_eq_true_eq,Bool.and_eq_true]<;>first | rfl | (split<;>first | rfl | (simp (disch:=first | omega | (simp only [lenL_set,lenL_app,lenL_cons,lenL_nil]<;>omega)) only [getL_one,getL_zero]<;>rfl)) | (simp (disch:=omega) only [getL_one,getL_zero]<;>rfl) | ((simp only [lenL_app,lenL_cons,lenL_nil,Int.ofNat_eq_natCast])<;>(repeat' split)<;>first | rfl | (exfalso;omega) | (simp (disch:=omega) only [getL_one,getL_zero]<;>rfl) | (congr 3;omega))))):p:=h
theorem Wk {l:List D} {k:Nat} {d:D} {r:List (Nat × D)} (h:l[k]? = some d) (t:LeKs l r):LeKs l ((k,d) :: r):=⟨⟨_,h,LeD.refl _⟩,t⟩
theorem Wq {l:List D} {k:Nat} {d d':D} {r:List (Nat × D)} (h:l[k]? = some d) (e:LeD d d') (t:LeKs l r):LeKs l ((k,d') :: r):=⟨⟨_,h,e⟩,t⟩
theorem Wi {l:List (Option Ob)} {k:Nat} {d:Ob} {r:List (Nat × Ob)} (h:l[k]? = some (some d)) (t:LeKo l r):LeKo l ((k,d) :: r):=⟨⟨_,h,LeOb.refl _⟩,t⟩
theorem Wj {l:List (Option Ob)} {k:Nat} {d d':Ob} {r:List (Nat × Ob)} (h:l[k]? = some (some d)) (e:LeOb d d') (t:LeKo l r):LeKo l ((k,d') :: r):=⟨⟨_,h,e⟩,t⟩
theorem Wa {l:List (Option Ob)} {k g sz:Nat} {n n':Int} {t:Bool} {f f':Int→Nat→D} {r:List (Nat × Ob)} (h:l[k]? = some (some (.arr g sz n t f))) (q:LeKo l r) (hn:n=n':=by exact Wy) (hp : ∀ i:Int,0≤i→i < n→∀ j:Nat,j < sz→f i j=f' i j:=by exact Wp):LeKo l ((k,.arr g sz n' t f') :: r):=⟨⟨_,h,LeOb.arrE hn hp⟩,q⟩
theorem Wg {P:Program} {st:St} {c n m:Nat} {ks:List (Nat × D)} {os:List (Nat × Ob)} (hs:LeKs st.slots ks) (ho:LeKo st.objs os) (hc:st.ctr < c:=by exact Wl) (hn:st.slots.length=n:=by exact rfl) (hm:st.objs.length=m:=by exact rfl):GeSt P st ⟨frm n ks 0,frO m os 0,c⟩:=GeSt.of (LeSt.frame hc hn hm hs ho)
theorem Wz {c:Nat} : allLt [] c:=trivial
theorem Wn {k x c:Nat} {r:List (Nat × Nat)} (h:x < c) (q:allLt r c):allLt ((k,x) :: r) c:=And.intro h q
theorem Wh {p:Prop} (h:p:=by refine Hid.mk_ok (by omega) ?_;repeat (first | exact Wz | refine Wn (by first | omega | exact Nat.lt_add_right _ (by apply_assumption)) ?_)):p:=h
theorem Wt {c:Prop} [Decidable c] {a b:Prop} (x:a) (h:c:=by exact rfl):if c then a else b:=by rw [if_pos h];exact x
theorem We {c:Prop} [Decidable c] {a b:Prop} (x:b) (h : ¬ c:=by decide):if c then a else b:=by rw [if_neg h];exact x
theorem Wb {d:D} {r r':List D} (h:LeL r r'):LeL (d :: r) (d :: r'):=And.intro (LeD.refl _) h
theorem Wd {d d':D} {r r':List D} (e:LeD d d') (h:LeL r r'):LeL (d :: r) (d' :: r'):=And.intro e h
abbrev WF (n:Nat) (k:List (Nat × D)) (m:Nat) (o:List (Nat × Ob)) (h:Hid):St:=⟨frm n k 0,frO m o 0,h.c⟩
abbrev WI (nv:Nv) (l:List Int) (ix:Int) (_:Nat):D:=.v (.int .i64 (nv.get 0 l ix))
abbrev WS (nv:Nv) (l:List Int):D:=.sl 1 (nv.len l) false (WI nv l)
abbrev WV (x:Int):D:=.v (.int .i64 x)
abbrev WB (x:Bool):D:=.v (.bool x)
abbrev WX (k:List (Nat × Nat)) (o:List (Nat × CallR)) (i:List Nat) (m:Nat) (g:List (Nat × List Gh)):Cx:=⟨tt0,⟨fun f=>kOf k f,fun k _ _ _=>orcL o k,fun t=>memN i t⟩,m,fun r=>ghL g r⟩
theorem Wc (k:List (Nat × Nat)) (o:List (Nat × CallR)) (i:List Nat) (m:Nat) (g:List (Nat × List Gh)) {c:Code} {Q:Exit→St→Prop} {st:St} (h : ∀ N,N=Q→wp (std Tryz.prog) ⟨tt0,⟨fun f=>kOf k f,fun k _ _ _=>orcL o k,fun t=>memN i t⟩,m,fun r=>ghL g r⟩ c N st):Tr Tryz.prog c Q st:=Tr.chunk tt0_ok hPm h
theorem Wx (k:List (Nat × Nat)) (o:List (Nat × CallR)) (i:List Nat) (m:Nat) (g:List (Nat × List Gh)) (n:Nat) {c:Code} {Q:Exit→St→Prop} {st:St} (h : ∀ N,N=Q→wpPre (std Tryz.prog) ⟨tt0,⟨fun f=>kOf k f,fun k _ _ _=>orcL o k,fun t=>memN i t⟩,m,fun r=>ghL g r⟩ n c N st):Tr Tryz.prog c Q st:=Tr.pre tt0_ok hPm n h
end Go.Vx
