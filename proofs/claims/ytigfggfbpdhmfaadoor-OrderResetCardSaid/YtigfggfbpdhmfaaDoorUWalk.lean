/- Walks, by program (lift.py): the code does what the lifted functions say. -/
import Derived.Test.YtigfggfbpdhmfaaDoorULift
import Derived.Test.YtigfggfbpdhmfaaDoorChecked
set_option linter.all false
namespace Go.Vx
open Go.Proofs
set_option maxRecDepth 100000
set_option linter.unusedVariables false
set_option linter.unusedSimpArgs false
def D_strings_span (nv : Nv) (x : T_strings_span) (j : Nat) : D := match j with
  | 0 => (.v (.int .i64 x.fstart))
  | 1 => (.v (.int .i64 x.fend))
  | _ => .junk
def D_ranges_Row (nv : Nv) (x : T_ranges_Row) (j : Nat) : D := match j with
  | 0 => (.v (.int .i64 x.fLo))
  | 1 => (.v (.int .i64 x.fHi))
  | 2 => (.v (.int .i64 x.fV))
  | _ => .junk
def D_ranges_Table (nv : Nv) (x : T_ranges_Table) (j : Nat) : D := match j with
  | 0 => (.sl 3 (nv.len x.fL) false (fun i j => (D_ranges_Row nv (nv.get d_ranges_Row x.fL i) j)))
  | _ => .junk
def D_ucd_Pair (nv : Nv) (x : T_ucd_Pair) (j : Nat) : D := match j with
  | 0 => (.v (.int .i64 x.fA))
  | 1 => (.v (.int .i64 x.fB))
  | _ => .junk
def D_ucd_Form (nv : Nv) (x : T_ucd_Form) (j : Nat) : D := match j with
  | 0 => (.v (.int .i64 x.fR))
  | 1 => (.v (.int .i64 x.fAt))
  | 2 => (.v (.int .i64 x.fN))
  | _ => .junk
def D_ucd_Data (nv : Nv) (x : T_ucd_Data) (j : Nat) : D := match j with
  | 0 => (.sl 3 (nv.len x.fClass.fL) false (fun i j => (D_ranges_Row nv (nv.get d_ranges_Row x.fClass.fL i) j)))
  | 1 => (.sl 3 (nv.len x.fWide.fL) false (fun i j => (D_ranges_Row nv (nv.get d_ranges_Row x.fWide.fL i) j)))
  | 2 => (.sl 3 (nv.len x.fJoin.fL) false (fun i j => (D_ranges_Row nv (nv.get d_ranges_Row x.fJoin.fL i) j)))
  | 3 => (.sl 2 (nv.len x.fMirror) false (fun i j => (D_ucd_Pair nv (nv.get d_ucd_Pair x.fMirror i) j)))
  | 4 => (.sl 2 (nv.len x.fBrackets) false (fun i j => (D_ucd_Pair nv (nv.get d_ucd_Pair x.fBrackets i) j)))
  | 5 => (.sl 3 (nv.len x.fForms) false (fun i j => (D_ucd_Form nv (nv.get d_ucd_Form x.fForms i) j)))
  | _ => .junk
theorem out_strings_span {P : Program} (x : T_strings_span) (j : Nat) : out0 (std P) (D_strings_span nvS x j) (D_strings_span nvS x j) := match j with
  | 0 => out0_int _ _
  | 1 => out0_int _ _
  | _ + 2 => trivial
theorem out1_strings_span {P : Program} {objs : List (Option Ob)} (x : T_strings_span) (j : Nat) : out1 (std P) objs (D_strings_span nvS x j) (D_strings_span nvS x j) := match j with
  | 0 => out0_int _ _
  | 1 => out0_int _ _
  | _ + 2 => trivial
theorem clo_strings_span {P : Program} (x : T_strings_span) (j : Nat) : clo (std P) (D_strings_span nvS x j) := match j with
  | 0 => trivial
  | 1 => trivial
  | _ + 2 => trivial
theorem flat_strings_span {P : Program} (x : T_strings_span) (j : Nat) : flat (std P) (D_strings_span nvS x j) := match j with
  | 0 => trivial
  | 1 => trivial
  | _ + 2 => trivial
theorem out_ranges_Row {P : Program} (x : T_ranges_Row) (j : Nat) : out0 (std P) (D_ranges_Row nvS x j) (D_ranges_Row nvS x j) := match j with
  | 0 => out0_int _ _
  | 1 => out0_int _ _
  | 2 => out0_int _ _
  | _ + 3 => trivial
theorem out1_ranges_Row {P : Program} {objs : List (Option Ob)} (x : T_ranges_Row) (j : Nat) : out1 (std P) objs (D_ranges_Row nvS x j) (D_ranges_Row nvS x j) := match j with
  | 0 => out0_int _ _
  | 1 => out0_int _ _
  | 2 => out0_int _ _
  | _ + 3 => trivial
theorem clo_ranges_Row {P : Program} (x : T_ranges_Row) (j : Nat) : clo (std P) (D_ranges_Row nvS x j) := match j with
  | 0 => trivial
  | 1 => trivial
  | 2 => trivial
  | _ + 3 => trivial
theorem flat_ranges_Row {P : Program} (x : T_ranges_Row) (j : Nat) : flat (std P) (D_ranges_Row nvS x j) := match j with
  | 0 => trivial
  | 1 => trivial
  | 2 => trivial
  | _ + 3 => trivial
theorem out_ranges_Table {P : Program} (x : T_ranges_Table) (j : Nat) : out0 (std P) (D_ranges_Table nvS x j) (D_ranges_Table nvS x j) := match j with
  | 0 => out0_sl (fun i j => out_ranges_Row _ _)
  | _ + 1 => trivial
theorem out1_ranges_Table {P : Program} {objs : List (Option Ob)} (x : T_ranges_Table) (j : Nat) : out1 (std P) objs (D_ranges_Table nvS x j) (D_ranges_Table nvS x j) := match j with
  | 0 => out0_sl (fun i j => out_ranges_Row _ _)
  | _ + 1 => trivial
theorem clo_ranges_Table {P : Program} (x : T_ranges_Table) (j : Nat) : clo (std P) (D_ranges_Table nvS x j) := match j with
  | 0 => (fun i _ _ _ _ => clo_ranges_Row _ _)
  | _ + 1 => trivial
theorem out_ucd_Pair {P : Program} (x : T_ucd_Pair) (j : Nat) : out0 (std P) (D_ucd_Pair nvS x j) (D_ucd_Pair nvS x j) := match j with
  | 0 => out0_int _ _
  | 1 => out0_int _ _
  | _ + 2 => trivial
theorem out1_ucd_Pair {P : Program} {objs : List (Option Ob)} (x : T_ucd_Pair) (j : Nat) : out1 (std P) objs (D_ucd_Pair nvS x j) (D_ucd_Pair nvS x j) := match j with
  | 0 => out0_int _ _
  | 1 => out0_int _ _
  | _ + 2 => trivial
theorem clo_ucd_Pair {P : Program} (x : T_ucd_Pair) (j : Nat) : clo (std P) (D_ucd_Pair nvS x j) := match j with
  | 0 => trivial
  | 1 => trivial
  | _ + 2 => trivial
theorem flat_ucd_Pair {P : Program} (x : T_ucd_Pair) (j : Nat) : flat (std P) (D_ucd_Pair nvS x j) := match j with
  | 0 => trivial
  | 1 => trivial
  | _ + 2 => trivial
theorem out_ucd_Form {P : Program} (x : T_ucd_Form) (j : Nat) : out0 (std P) (D_ucd_Form nvS x j) (D_ucd_Form nvS x j) := match j with
  | 0 => out0_int _ _
  | 1 => out0_int _ _
  | 2 => out0_int _ _
  | _ + 3 => trivial
theorem out1_ucd_Form {P : Program} {objs : List (Option Ob)} (x : T_ucd_Form) (j : Nat) : out1 (std P) objs (D_ucd_Form nvS x j) (D_ucd_Form nvS x j) := match j with
  | 0 => out0_int _ _
  | 1 => out0_int _ _
  | 2 => out0_int _ _
  | _ + 3 => trivial
theorem clo_ucd_Form {P : Program} (x : T_ucd_Form) (j : Nat) : clo (std P) (D_ucd_Form nvS x j) := match j with
  | 0 => trivial
  | 1 => trivial
  | 2 => trivial
  | _ + 3 => trivial
theorem flat_ucd_Form {P : Program} (x : T_ucd_Form) (j : Nat) : flat (std P) (D_ucd_Form nvS x j) := match j with
  | 0 => trivial
  | 1 => trivial
  | 2 => trivial
  | _ + 3 => trivial
theorem out_ucd_Data {P : Program} (x : T_ucd_Data) (j : Nat) : out0 (std P) (D_ucd_Data nvS x j) (D_ucd_Data nvS x j) := match j with
  | 0 => out0_sl (fun i j => out_ranges_Row _ _)
  | 1 => out0_sl (fun i j => out_ranges_Row _ _)
  | 2 => out0_sl (fun i j => out_ranges_Row _ _)
  | 3 => out0_sl (fun i j => out_ucd_Pair _ _)
  | 4 => out0_sl (fun i j => out_ucd_Pair _ _)
  | 5 => out0_sl (fun i j => out_ucd_Form _ _)
  | _ + 6 => trivial
theorem out1_ucd_Data {P : Program} {objs : List (Option Ob)} (x : T_ucd_Data) (j : Nat) : out1 (std P) objs (D_ucd_Data nvS x j) (D_ucd_Data nvS x j) := match j with
  | 0 => out0_sl (fun i j => out_ranges_Row _ _)
  | 1 => out0_sl (fun i j => out_ranges_Row _ _)
  | 2 => out0_sl (fun i j => out_ranges_Row _ _)
  | 3 => out0_sl (fun i j => out_ucd_Pair _ _)
  | 4 => out0_sl (fun i j => out_ucd_Pair _ _)
  | 5 => out0_sl (fun i j => out_ucd_Form _ _)
  | _ + 6 => trivial
theorem clo_ucd_Data {P : Program} (x : T_ucd_Data) (j : Nat) : clo (std P) (D_ucd_Data nvS x j) := match j with
  | 0 => (fun i _ _ _ _ => clo_ranges_Row _ _)
  | 1 => (fun i _ _ _ _ => clo_ranges_Row _ _)
  | 2 => (fun i _ _ _ _ => clo_ranges_Row _ _)
  | 3 => (fun i _ _ _ _ => clo_ucd_Pair _ _)
  | 4 => (fun i _ _ _ _ => clo_ucd_Pair _ _)
  | 5 => (fun i _ _ _ _ => clo_ucd_Form _ _)
  | _ + 6 => trivial
def tt0 : TT := [(2, ⟨1, 8, .int .i64, some [.int .i64 0], none, true⟩),
  (3, ⟨1, 8, .int .i64, some [.int .i64 0], none, true⟩),
  (4, ⟨1, 1, .bool, some [.bool false], none, true⟩),
  (5, ⟨1, 1, .int .u8, some [.int .u8 0], none, true⟩),
  (9, ⟨1, 16, .string, some [.string ⟨#[]⟩], none, true⟩),
  (21, ⟨1, 4, .int .i32, some [.int .i32 0], none, true⟩),
  (23, ⟨1, 24, .slice 62, some [.slice none 0 0], none, true⟩),
  (25, ⟨1, 24, .struct [(0, 23)], some [.slice none 0 0], none, false⟩),
  (26, ⟨1, 24, .slice 60, some [.slice none 0 0], none, true⟩),
  (27, ⟨1, 24, .slice 57, some [.slice none 0 0], none, true⟩),
  (29, ⟨6, 144, .struct [(0, 25), (1, 25), (2, 25), (3, 26), (4, 26), (5, 27)], some [.slice none 0 0, .slice none 0 0, .slice none 0 0, .slice none 0 0, .slice none 0 0, .slice none 0 0], none, false⟩),
  (41, ⟨1, 24, .slice 3, some [.slice none 0 0], none, true⟩),
  (57, ⟨3, 24, .struct [(0, 3), (1, 3), (2, 3)], some [.int .i64 0, .int .i64 0, .int .i64 0], some [.int .i64, .int .i64, .int .i64], false⟩),
  (60, ⟨2, 16, .struct [(0, 3), (1, 3)], some [.int .i64 0, .int .i64 0], some [.int .i64, .int .i64], false⟩),
  (62, ⟨3, 24, .struct [(0, 3), (1, 3), (2, 3)], some [.int .i64 0, .int .i64 0, .int .i64 0], some [.int .i64, .int .i64, .int .i64], false⟩),
  (68, ⟨1, 8, .map 3 3, some [.map none], none, true⟩),
  (71, ⟨1, 24, .slice 9, some [.slice none 0 0], none, true⟩),
  (79, ⟨1, 16, .iface, some [.nilIface], none, true⟩),
  (82, ⟨256, 256, .array 256 5, some [.int .u8 0, .int .u8 0, .int .u8 0, .int .u8 0, .int .u8 0, .int .u8 0, .int .u8 0, .int .u8 0, .int .u8 0, .int .u8 0, .int .u8 0, .int .u8 0, .int .u8 0, .int .u8 0, .int .u8 0, .int .u8 0, .int .u8 0, .int .u8 0, .int .u8 0, .int .u8 0, .int .u8 0, .int .u8 0, .int .u8 0, .int .u8 0, .int .u8 0, .int .u8 0, .int .u8 0, .int .u8 0, .int .u8 0, .int .u8 0, .int .u8 0, .int .u8 0, .int .u8 0, .int .u8 0, .int .u8 0, .int .u8 0, .int .u8 0, .int .u8 0, .int .u8 0, .int .u8 0, .int .u8 0, .int .u8 0, .int .u8 0, .int .u8 0, .int .u8 0, .int .u8 0, .int .u8 0, .int .u8 0, .int .u8 0, .int .u8 0, .int .u8 0, .int .u8 0, .int .u8 0, .int .u8 0, .int .u8 0, .int .u8 0, .int .u8 0, .int .u8 0, .int .u8 0, .int .u8 0, .int .u8 0, .int .u8 0, .int .u8 0, .int .u8 0, .int .u8 0, .int .u8 0, .int .u8 0, .int .u8 0, .int .u8 0, .int .u8 0, .int .u8 0, .int .u8 0, .int .u8 0, .int .u8 0, .int .u8 0, .int .u8 0, .int .u8 0, .int .u8 0, .int .u8 0, .int .u8 0, .int .u8 0, .int .u8 0, .int .u8 0, .int .u8 0, .int .u8 0, .int .u8 0, .int .u8 0, .int .u8 0, .int .u8 0, .int .u8 0, .int .u8 0, .int .u8 0, .int .u8 0, .int .u8 0, .int .u8 0, .int .u8 0, .int .u8 0, .int .u8 0, .int .u8 0, .int .u8 0, .int .u8 0, .int .u8 0, .int .u8 0, .int .u8 0, .int .u8 0, .int .u8 0, .int .u8 0, .int .u8 0, .int .u8 0, .int .u8 0, .int .u8 0, .int .u8 0, .int .u8 0, .int .u8 0, .int .u8 0, .int .u8 0, .int .u8 0, .int .u8 0, .int .u8 0, .int .u8 0, .int .u8 0, .int .u8 0, .int .u8 0, .int .u8 0, .int .u8 0, .int .u8 0, .int .u8 0, .int .u8 0, .int .u8 0, .int .u8 0, .int .u8 0, .int .u8 0, .int .u8 0, .int .u8 0, .int .u8 0, .int .u8 0, .int .u8 0, .int .u8 0, .int .u8 0, .int .u8 0, .int .u8 0, .int .u8 0, .int .u8 0, .int .u8 0, .int .u8 0, .int .u8 0, .int .u8 0, .int .u8 0, .int .u8 0, .int .u8 0, .int .u8 0, .int .u8 0, .int .u8 0, .int .u8 0, .int .u8 0, .int .u8 0, .int .u8 0, .int .u8 0, .int .u8 0, .int .u8 0, .int .u8 0, .int .u8 0, .int .u8 0, .int .u8 0, .int .u8 0, .int .u8 0, .int .u8 0, .int .u8 0, .int .u8 0, .int .u8 0, .int .u8 0, .int .u8 0, .int .u8 0, .int .u8 0, .int .u8 0, .int .u8 0, .int .u8 0, .int .u8 0, .int .u8 0, .int .u8 0, .int .u8 0, .int .u8 0, .int .u8 0, .int .u8 0, .int .u8 0, .int .u8 0, .int .u8 0, .int .u8 0, .int .u8 0, .int .u8 0, .int .u8 0, .int .u8 0, .int .u8 0, .int .u8 0, .int .u8 0, .int .u8 0, .int .u8 0, .int .u8 0, .int .u8 0, .int .u8 0, .int .u8 0, .int .u8 0, .int .u8 0, .int .u8 0, .int .u8 0, .int .u8 0, .int .u8 0, .int .u8 0, .int .u8 0, .int .u8 0, .int .u8 0, .int .u8 0, .int .u8 0, .int .u8 0, .int .u8 0, .int .u8 0, .int .u8 0, .int .u8 0, .int .u8 0, .int .u8 0, .int .u8 0, .int .u8 0, .int .u8 0, .int .u8 0, .int .u8 0, .int .u8 0, .int .u8 0, .int .u8 0, .int .u8 0, .int .u8 0, .int .u8 0, .int .u8 0, .int .u8 0, .int .u8 0, .int .u8 0, .int .u8 0, .int .u8 0, .int .u8 0, .int .u8 0, .int .u8 0, .int .u8 0, .int .u8 0, .int .u8 0, .int .u8 0, .int .u8 0, .int .u8 0, .int .u8 0, .int .u8 0, .int .u8 0, .int .u8 0, .int .u8 0, .int .u8 0, .int .u8 0, .int .u8 0, .int .u8 0, .int .u8 0], some [.int .u8, .int .u8, .int .u8, .int .u8, .int .u8, .int .u8, .int .u8, .int .u8, .int .u8, .int .u8, .int .u8, .int .u8, .int .u8, .int .u8, .int .u8, .int .u8, .int .u8, .int .u8, .int .u8, .int .u8, .int .u8, .int .u8, .int .u8, .int .u8, .int .u8, .int .u8, .int .u8, .int .u8, .int .u8, .int .u8, .int .u8, .int .u8, .int .u8, .int .u8, .int .u8, .int .u8, .int .u8, .int .u8, .int .u8, .int .u8, .int .u8, .int .u8, .int .u8, .int .u8, .int .u8, .int .u8, .int .u8, .int .u8, .int .u8, .int .u8, .int .u8, .int .u8, .int .u8, .int .u8, .int .u8, .int .u8, .int .u8, .int .u8, .int .u8, .int .u8, .int .u8, .int .u8, .int .u8, .int .u8, .int .u8, .int .u8, .int .u8, .int .u8, .int .u8, .int .u8, .int .u8, .int .u8, .int .u8, .int .u8, .int .u8, .int .u8, .int .u8, .int .u8, .int .u8, .int .u8, .int .u8, .int .u8, .int .u8, .int .u8, .int .u8, .int .u8, .int .u8, .int .u8, .int .u8, .int .u8, .int .u8, .int .u8, .int .u8, .int .u8, .int .u8, .int .u8, .int .u8, .int .u8, .int .u8, .int .u8, .int .u8, .int .u8, .int .u8, .int .u8, .int .u8, .int .u8, .int .u8, .int .u8, .int .u8, .int .u8, .int .u8, .int .u8, .int .u8, .int .u8, .int .u8, .int .u8, .int .u8, .int .u8, .int .u8, .int .u8, .int .u8, .int .u8, .int .u8, .int .u8, .int .u8, .int .u8, .int .u8, .int .u8, .int .u8, .int .u8, .int .u8, .int .u8, .int .u8, .int .u8, .int .u8, .int .u8, .int .u8, .int .u8, .int .u8, .int .u8, .int .u8, .int .u8, .int .u8, .int .u8, .int .u8, .int .u8, .int .u8, .int .u8, .int .u8, .int .u8, .int .u8, .int .u8, .int .u8, .int .u8, .int .u8, .int .u8, .int .u8, .int .u8, .int .u8, .int .u8, .int .u8, .int .u8, .int .u8, .int .u8, .int .u8, .int .u8, .int .u8, .int .u8, .int .u8, .int .u8, .int .u8, .int .u8, .int .u8, .int .u8, .int .u8, .int .u8, .int .u8, .int .u8, .int .u8, .int .u8, .int .u8, .int .u8, .int .u8, .int .u8, .int .u8, .int .u8, .int .u8, .int .u8, .int .u8, .int .u8, .int .u8, .int .u8, .int .u8, .int .u8, .int .u8, .int .u8, .int .u8, .int .u8, .int .u8, .int .u8, .int .u8, .int .u8, .int .u8, .int .u8, .int .u8, .int .u8, .int .u8, .int .u8, .int .u8, .int .u8, .int .u8, .int .u8, .int .u8, .int .u8, .int .u8, .int .u8, .int .u8, .int .u8, .int .u8, .int .u8, .int .u8, .int .u8, .int .u8, .int .u8, .int .u8, .int .u8, .int .u8, .int .u8, .int .u8, .int .u8, .int .u8, .int .u8, .int .u8, .int .u8, .int .u8, .int .u8, .int .u8, .int .u8, .int .u8, .int .u8, .int .u8, .int .u8, .int .u8, .int .u8, .int .u8, .int .u8, .int .u8, .int .u8, .int .u8, .int .u8, .int .u8, .int .u8, .int .u8, .int .u8, .int .u8, .int .u8], false⟩),
  (85, ⟨1, 24, .slice 87, some [.slice none 0 0], none, true⟩),
  (87, ⟨2, 16, .struct [(0, 3), (1, 3)], some [.int .i64 0, .int .i64 0], some [.int .i64, .int .i64], false⟩),
  (96, ⟨1, 8, .int .u64, some [.int .u64 0], none, true⟩),
  (99, ⟨1, 8, .int .u64, some [.int .u64 0], none, true⟩),
  (116, ⟨1, 24, .slice 5, some [.slice none 0 0], none, true⟩)]
theorem tt0_ok : TTok Tryd.prog tt0 := TTok.of _ _ (by kernel_rfl)
theorem hPm : Tryd.prog.follows .mixedOrders = true := by kernel_rfl

theorem ext2 {P : Program} {f : FuncId} {fn : Func} {e : Array Value → Sem Value} (hf : P.funcs[f]? = some fn) (hname : (fn.name == "runtime.NumGoroutine") = false) (hb : fn.body.isNone = true) (hn : Extern.findNext fn = none) (he : Extern.find fn = some e)
    {a b d : Value} (hr : ∀ w, (e #[a, b]).run P w = .ok d w) : ExtFn P f [.v a, .v b] (.v d) := by
  intro w I c vs hl ha
  match vs, hl with
  | [x, y], _ =>
    obtain ⟨y0, h0, r0⟩ := ha 0 _ rfl
    obtain ⟨y1, h1, r1⟩ := ha 1 _ rfl
    have r0 : y0 = a := r0
    have r1 : y1 = b := r1
    have h0 : x = y0 := by simpa using h0
    have h1 : y = y1 := by simpa using h1
    rw [h0, h1, r0, r1]
    refine ⟨d, ?_, rfl⟩
    show (callFunc f #[a, b]).run P w = _
    rw [run_callFunc_extern hf hname hb hn he, hr]; rfl
theorem bytealg_CountString_ok (s : ByteArray) (c : Int) (r : Int) (h : bytealg_CountString s c = some r) : ExtFn Tryd.prog 66 [.v (.string s), .v (.int .u8 c)] (.v (.int .i64 r)) := by
  cases h
  exact ext2 Tryd.func66 (by kernel_rfl) (by kernel_rfl) (by kernel_rfl) (e := Extern.BytealgCount.count) (by kernel_rfl) (fun w => Lib.run_countString s c w)
theorem bytealg_IndexByteString_ok (s : ByteArray) (c : Int) (r : Int) (h : bytealg_IndexByteString s c = some r) : ExtFn Tryd.prog 85 [.v (.string s), .v (.int .u8 c)] (.v (.int .i64 r)) := by
  cases h
  exact ext2 Tryd.func85 (by kernel_rfl) (by kernel_rfl) (by kernel_rfl) (e := Extern.BytealgIndexByte.indexByte) (by kernel_rfl) (fun w => Lib.run_indexByteString s c w)
end Go.Vx
