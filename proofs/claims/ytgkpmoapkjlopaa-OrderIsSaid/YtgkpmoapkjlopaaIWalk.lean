/- Walks, by program (lift.py): the code does what the lifted functions say. -/
import Derived.Test.YtgkpmoapkjlopaaILift
import Derived.Test.YtgkpmoapkjlopaaChecked
set_option linter.all false
namespace Go.Vx
open Go.Proofs
set_option maxRecDepth 100000
set_option linter.unusedVariables false
set_option linter.unusedSimpArgs false
def D_Arr2_i64 (nv : Nv) (x : T_Arr2_i64) (j : Nat) : D := match j with
  | 0 => (.v (.int .i64 x.x0))
  | 1 => (.v (.int .i64 x.x1))
  | _ => .junk
def D_lapwingref01_Row (nv : Nv) (x : T_lapwingref01_Row) (j : Nat) : D := match j with
  | 0 => (.v (.int .i64 x.fLo))
  | 1 => (.v (.int .i64 x.fHi))
  | 2 => (.v (.int .i64 x.fV))
  | _ => .junk
def D_lapwingref01_Table (nv : Nv) (x : T_lapwingref01_Table) (j : Nat) : D := match j with
  | 0 => (.sl 3 (nv.len x.fL) false (fun i j => (D_lapwingref01_Row nv (nv.get d_lapwingref01_Row x.fL i) j)))
  | _ => .junk
def D_lapwingref02_Pair (nv : Nv) (x : T_lapwingref02_Pair) (j : Nat) : D := match j with
  | 0 => (.v (.int .i64 x.fA))
  | 1 => (.v (.int .i64 x.fB))
  | _ => .junk
def D_lapwingref02_Form (nv : Nv) (x : T_lapwingref02_Form) (j : Nat) : D := match j with
  | 0 => (.v (.int .i64 x.fR))
  | 1 => (.v (.int .i64 x.fAt))
  | 2 => (.v (.int .i64 x.fN))
  | _ => .junk
def D_lapwingref02_Data (nv : Nv) (x : T_lapwingref02_Data) (j : Nat) : D := match j with
  | 0 => (.sl 3 (nv.len x.fClass.fL) false (fun i j => (D_lapwingref01_Row nv (nv.get d_lapwingref01_Row x.fClass.fL i) j)))
  | 1 => (.sl 3 (nv.len x.fWide.fL) false (fun i j => (D_lapwingref01_Row nv (nv.get d_lapwingref01_Row x.fWide.fL i) j)))
  | 2 => (.sl 3 (nv.len x.fJoin.fL) false (fun i j => (D_lapwingref01_Row nv (nv.get d_lapwingref01_Row x.fJoin.fL i) j)))
  | 3 => (.sl 2 (nv.len x.fMirror) false (fun i j => (D_lapwingref02_Pair nv (nv.get d_lapwingref02_Pair x.fMirror i) j)))
  | 4 => (.sl 2 (nv.len x.fBrackets) false (fun i j => (D_lapwingref02_Pair nv (nv.get d_lapwingref02_Pair x.fBrackets i) j)))
  | 5 => (.sl 3 (nv.len x.fForms) false (fun i j => (D_lapwingref02_Form nv (nv.get d_lapwingref02_Form x.fForms i) j)))
  | _ => .junk
def D_ranges_Row (nv : Nv) (x : T_ranges_Row) (j : Nat) : D := match j with
  | 0 => (.v (.int .i64 x.fLo))
  | 1 => (.v (.int .i64 x.fHi))
  | 2 => (.v (.int .i64 x.fV))
  | _ => .junk
def D_ranges_Table (nv : Nv) (x : T_ranges_Table) (j : Nat) : D := match j with
  | 0 => (.sl 3 (nv.len x.fL) false (fun i j => (D_ranges_Row nv (nv.get d_ranges_Row x.fL i) j)))
  | _ => .junk
def D_ucd_Pair (nv : Nv) (x : T_ucd_Pair) (j : Nat) : D := match j with
  | 0 => (.v (.int .i64 x.fA))
  | 1 => (.v (.int .i64 x.fB))
  | _ => .junk
def D_ucd_Form (nv : Nv) (x : T_ucd_Form) (j : Nat) : D := match j with
  | 0 => (.v (.int .i64 x.fR))
  | 1 => (.v (.int .i64 x.fAt))
  | 2 => (.v (.int .i64 x.fN))
  | _ => .junk
def D_ucd_Data (nv : Nv) (x : T_ucd_Data) (j : Nat) : D := match j with
  | 0 => (.sl 3 (nv.len x.fClass.fL) false (fun i j => (D_ranges_Row nv (nv.get d_ranges_Row x.fClass.fL i) j)))
  | 1 => (.sl 3 (nv.len x.fWide.fL) false (fun i j => (D_ranges_Row nv (nv.get d_ranges_Row x.fWide.fL i) j)))
  | 2 => (.sl 3 (nv.len x.fJoin.fL) false (fun i j => (D_ranges_Row nv (nv.get d_ranges_Row x.fJoin.fL i) j)))
  | 3 => (.sl 2 (nv.len x.fMirror) false (fun i j => (D_ucd_Pair nv (nv.get d_ucd_Pair x.fMirror i) j)))
  | 4 => (.sl 2 (nv.len x.fBrackets) false (fun i j => (D_ucd_Pair nv (nv.get d_ucd_Pair x.fBrackets i) j)))
  | 5 => (.sl 3 (nv.len x.fForms) false (fun i j => (D_ucd_Form nv (nv.get d_ucd_Form x.fForms i) j)))
  | _ => .junk
theorem out_Arr2_i64 {P : Program} (x : T_Arr2_i64) (j : Nat) : out0 (std P) (D_Arr2_i64 nvS x j) (D_Arr2_i64 nvS x j) := match j with
  | 0 => out0_int _ _
  | 1 => out0_int _ _
  | _ + 2 => trivial
theorem out1_Arr2_i64 {P : Program} {objs : List (Option Ob)} (x : T_Arr2_i64) (j : Nat) : out1 (std P) objs (D_Arr2_i64 nvS x j) (D_Arr2_i64 nvS x j) := match j with
  | 0 => out0_int _ _
  | 1 => out0_int _ _
  | _ + 2 => trivial
theorem clo_Arr2_i64 {P : Program} (x : T_Arr2_i64) (j : Nat) : clo (std P) (D_Arr2_i64 nvS x j) := match j with
  | 0 => trivial
  | 1 => trivial
  | _ + 2 => trivial
theorem flat_Arr2_i64 {P : Program} (x : T_Arr2_i64) (j : Nat) : flat (std P) (D_Arr2_i64 nvS x j) := match j with
  | 0 => trivial
  | 1 => trivial
  | _ + 2 => trivial
theorem out_lapwingref01_Row {P : Program} (x : T_lapwingref01_Row) (j : Nat) : out0 (std P) (D_lapwingref01_Row nvS x j) (D_lapwingref01_Row nvS x j) := match j with
  | 0 => out0_int _ _
  | 1 => out0_int _ _
  | 2 => out0_int _ _
  | _ + 3 => trivial
theorem out1_lapwingref01_Row {P : Program} {objs : List (Option Ob)} (x : T_lapwingref01_Row) (j : Nat) : out1 (std P) objs (D_lapwingref01_Row nvS x j) (D_lapwingref01_Row nvS x j) := match j with
  | 0 => out0_int _ _
  | 1 => out0_int _ _
  | 2 => out0_int _ _
  | _ + 3 => trivial
theorem clo_lapwingref01_Row {P : Program} (x : T_lapwingref01_Row) (j : Nat) : clo (std P) (D_lapwingref01_Row nvS x j) := match j with
  | 0 => trivial
  | 1 => trivial
  | 2 => trivial
  | _ + 3 => trivial
theorem flat_lapwingref01_Row {P : Program} (x : T_lapwingref01_Row) (j : Nat) : flat (std P) (D_lapwingref01_Row nvS x j) := match j with
  | 0 => trivial
  | 1 => trivial
  | 2 => trivial
  | _ + 3 => trivial
theorem out_lapwingref01_Table {P : Program} (x : T_lapwingref01_Table) (j : Nat) : out0 (std P) (D_lapwingref01_Table nvS x j) (D_lapwingref01_Table nvS x j) := match j with
  | 0 => out0_sl (fun i j => out_lapwingref01_Row _ _)
  | _ + 1 => trivial
theorem out1_lapwingref01_Table {P : Program} {objs : List (Option Ob)} (x : T_lapwingref01_Table) (j : Nat) : out1 (std P) objs (D_lapwingref01_Table nvS x j) (D_lapwingref01_Table nvS x j) := match j with
  | 0 => out0_sl (fun i j => out_lapwingref01_Row _ _)
  | _ + 1 => trivial
theorem clo_lapwingref01_Table {P : Program} (x : T_lapwingref01_Table) (j : Nat) : clo (std P) (D_lapwingref01_Table nvS x j) := match j with
  | 0 => (fun i _ _ _ _ => clo_lapwingref01_Row _ _)
  | _ + 1 => trivial
theorem out_lapwingref02_Pair {P : Program} (x : T_lapwingref02_Pair) (j : Nat) : out0 (std P) (D_lapwingref02_Pair nvS x j) (D_lapwingref02_Pair nvS x j) := match j with
  | 0 => out0_int _ _
  | 1 => out0_int _ _
  | _ + 2 => trivial
theorem out1_lapwingref02_Pair {P : Program} {objs : List (Option Ob)} (x : T_lapwingref02_Pair) (j : Nat) : out1 (std P) objs (D_lapwingref02_Pair nvS x j) (D_lapwingref02_Pair nvS x j) := match j with
  | 0 => out0_int _ _
  | 1 => out0_int _ _
  | _ + 2 => trivial
theorem clo_lapwingref02_Pair {P : Program} (x : T_lapwingref02_Pair) (j : Nat) : clo (std P) (D_lapwingref02_Pair nvS x j) := match j with
  | 0 => trivial
  | 1 => trivial
  | _ + 2 => trivial
theorem flat_lapwingref02_Pair {P : Program} (x : T_lapwingref02_Pair) (j : Nat) : flat (std P) (D_lapwingref02_Pair nvS x j) := match j with
  | 0 => trivial
  | 1 => trivial
  | _ + 2 => trivial
theorem out_lapwingref02_Form {P : Program} (x : T_lapwingref02_Form) (j : Nat) : out0 (std P) (D_lapwingref02_Form nvS x j) (D_lapwingref02_Form nvS x j) := match j with
  | 0 => out0_int _ _
  | 1 => out0_int _ _
  | 2 => out0_int _ _
  | _ + 3 => trivial
theorem out1_lapwingref02_Form {P : Program} {objs : List (Option Ob)} (x : T_lapwingref02_Form) (j : Nat) : out1 (std P) objs (D_lapwingref02_Form nvS x j) (D_lapwingref02_Form nvS x j) := match j with
  | 0 => out0_int _ _
  | 1 => out0_int _ _
  | 2 => out0_int _ _
  | _ + 3 => trivial
theorem clo_lapwingref02_Form {P : Program} (x : T_lapwingref02_Form) (j : Nat) : clo (std P) (D_lapwingref02_Form nvS x j) := match j with
  | 0 => trivial
  | 1 => trivial
  | 2 => trivial
  | _ + 3 => trivial
theorem flat_lapwingref02_Form {P : Program} (x : T_lapwingref02_Form) (j : Nat) : flat (std P) (D_lapwingref02_Form nvS x j) := match j with
  | 0 => trivial
  | 1 => trivial
  | 2 => trivial
  | _ + 3 => trivial
theorem out_lapwingref02_Data {P : Program} (x : T_lapwingref02_Data) (j : Nat) : out0 (std P) (D_lapwingref02_Data nvS x j) (D_lapwingref02_Data nvS x j) := match j with
  | 0 => out0_sl (fun i j => out_lapwingref01_Row _ _)
  | 1 => out0_sl (fun i j => out_lapwingref01_Row _ _)
  | 2 => out0_sl (fun i j => out_lapwingref01_Row _ _)
  | 3 => out0_sl (fun i j => out_lapwingref02_Pair _ _)
  | 4 => out0_sl (fun i j => out_lapwingref02_Pair _ _)
  | 5 => out0_sl (fun i j => out_lapwingref02_Form _ _)
  | _ + 6 => trivial
theorem out1_lapwingref02_Data {P : Program} {objs : List (Option Ob)} (x : T_lapwingref02_Data) (j : Nat) : out1 (std P) objs (D_lapwingref02_Data nvS x j) (D_lapwingref02_Data nvS x j) := match j with
  | 0 => out0_sl (fun i j => out_lapwingref01_Row _ _)
  | 1 => out0_sl (fun i j => out_lapwingref01_Row _ _)
  | 2 => out0_sl (fun i j => out_lapwingref01_Row _ _)
  | 3 => out0_sl (fun i j => out_lapwingref02_Pair _ _)
  | 4 => out0_sl (fun i j => out_lapwingref02_Pair _ _)
  | 5 => out0_sl (fun i j => out_lapwingref02_Form _ _)
  | _ + 6 => trivial
theorem clo_lapwingref02_Data {P : Program} (x : T_lapwingref02_Data) (j : Nat) : clo (std P) (D_lapwingref02_Data nvS x j) := match j with
  | 0 => (fun i _ _ _ _ => clo_lapwingref01_Row _ _)
  | 1 => (fun i _ _ _ _ => clo_lapwingref01_Row _ _)
  | 2 => (fun i _ _ _ _ => clo_lapwingref01_Row _ _)
  | 3 => (fun i _ _ _ _ => clo_lapwingref02_Pair _ _)
  | 4 => (fun i _ _ _ _ => clo_lapwingref02_Pair _ _)
  | 5 => (fun i _ _ _ _ => clo_lapwingref02_Form _ _)
  | _ + 6 => trivial
theorem out_ranges_Row {P : Program} (x : T_ranges_Row) (j : Nat) : out0 (std P) (D_ranges_Row nvS x j) (D_ranges_Row nvS x j) := match j with
  | 0 => out0_int _ _
  | 1 => out0_int _ _
  | 2 => out0_int _ _
  | _ + 3 => trivial
theorem out1_ranges_Row {P : Program} {objs : List (Option Ob)} (x : T_ranges_Row) (j : Nat) : out1 (std P) objs (D_ranges_Row nvS x j) (D_ranges_Row nvS x j) := match j with
  | 0 => out0_int _ _
  | 1 => out0_int _ _
  | 2 => out0_int _ _
  | _ + 3 => trivial
theorem clo_ranges_Row {P : Program} (x : T_ranges_Row) (j : Nat) : clo (std P) (D_ranges_Row nvS x j) := match j with
  | 0 => trivial
  | 1 => trivial
  | 2 => trivial
  | _ + 3 => trivial
theorem flat_ranges_Row {P : Program} (x : T_ranges_Row) (j : Nat) : flat (std P) (D_ranges_Row nvS x j) := match j with
  | 0 => trivial
  | 1 => trivial
  | 2 => trivial
  | _ + 3 => trivial
theorem out_ranges_Table {P : Program} (x : T_ranges_Table) (j : Nat) : out0 (std P) (D_ranges_Table nvS x j) (D_ranges_Table nvS x j) := match j with
  | 0 => out0_sl (fun i j => out_ranges_Row _ _)
  | _ + 1 => trivial
theorem out1_ranges_Table {P : Program} {objs : List (Option Ob)} (x : T_ranges_Table) (j : Nat) : out1 (std P) objs (D_ranges_Table nvS x j) (D_ranges_Table nvS x j) := match j with
  | 0 => out0_sl (fun i j => out_ranges_Row _ _)
  | _ + 1 => trivial
theorem clo_ranges_Table {P : Program} (x : T_ranges_Table) (j : Nat) : clo (std P) (D_ranges_Table nvS x j) := match j with
  | 0 => (fun i _ _ _ _ => clo_ranges_Row _ _)
  | _ + 1 => trivial
theorem out_ucd_Pair {P : Program} (x : T_ucd_Pair) (j : Nat) : out0 (std P) (D_ucd_Pair nvS x j) (D_ucd_Pair nvS x j) := match j with
  | 0 => out0_int _ _
  | 1 => out0_int _ _
  | _ + 2 => trivial
theorem out1_ucd_Pair {P : Program} {objs : List (Option Ob)} (x : T_ucd_Pair) (j : Nat) : out1 (std P) objs (D_ucd_Pair nvS x j) (D_ucd_Pair nvS x j) := match j with
  | 0 => out0_int _ _
  | 1 => out0_int _ _
  | _ + 2 => trivial
theorem clo_ucd_Pair {P : Program} (x : T_ucd_Pair) (j : Nat) : clo (std P) (D_ucd_Pair nvS x j) := match j with
  | 0 => trivial
  | 1 => trivial
  | _ + 2 => trivial
theorem flat_ucd_Pair {P : Program} (x : T_ucd_Pair) (j : Nat) : flat (std P) (D_ucd_Pair nvS x j) := match j with
  | 0 => trivial
  | 1 => trivial
  | _ + 2 => trivial
theorem out_ucd_Form {P : Program} (x : T_ucd_Form) (j : Nat) : out0 (std P) (D_ucd_Form nvS x j) (D_ucd_Form nvS x j) := match j with
  | 0 => out0_int _ _
  | 1 => out0_int _ _
  | 2 => out0_int _ _
  | _ + 3 => trivial
theorem out1_ucd_Form {P : Program} {objs : List (Option Ob)} (x : T_ucd_Form) (j : Nat) : out1 (std P) objs (D_ucd_Form nvS x j) (D_ucd_Form nvS x j) := match j with
  | 0 => out0_int _ _
  | 1 => out0_int _ _
  | 2 => out0_int _ _
  | _ + 3 => trivial
theorem clo_ucd_Form {P : Program} (x : T_ucd_Form) (j : Nat) : clo (std P) (D_ucd_Form nvS x j) := match j with
  | 0 => trivial
  | 1 => trivial
  | 2 => trivial
  | _ + 3 => trivial
theorem flat_ucd_Form {P : Program} (x : T_ucd_Form) (j : Nat) : flat (std P) (D_ucd_Form nvS x j) := match j with
  | 0 => trivial
  | 1 => trivial
  | 2 => trivial
  | _ + 3 => trivial
theorem out_ucd_Data {P : Program} (x : T_ucd_Data) (j : Nat) : out0 (std P) (D_ucd_Data nvS x j) (D_ucd_Data nvS x j) := match j with
  | 0 => out0_sl (fun i j => out_ranges_Row _ _)
  | 1 => out0_sl (fun i j => out_ranges_Row _ _)
  | 2 => out0_sl (fun i j => out_ranges_Row _ _)
  | 3 => out0_sl (fun i j => out_ucd_Pair _ _)
  | 4 => out0_sl (fun i j => out_ucd_Pair _ _)
  | 5 => out0_sl (fun i j => out_ucd_Form _ _)
  | _ + 6 => trivial
theorem out1_ucd_Data {P : Program} {objs : List (Option Ob)} (x : T_ucd_Data) (j : Nat) : out1 (std P) objs (D_ucd_Data nvS x j) (D_ucd_Data nvS x j) := match j with
  | 0 => out0_sl (fun i j => out_ranges_Row _ _)
  | 1 => out0_sl (fun i j => out_ranges_Row _ _)
  | 2 => out0_sl (fun i j => out_ranges_Row _ _)
  | 3 => out0_sl (fun i j => out_ucd_Pair _ _)
  | 4 => out0_sl (fun i j => out_ucd_Pair _ _)
  | 5 => out0_sl (fun i j => out_ucd_Form _ _)
  | _ + 6 => trivial
theorem clo_ucd_Data {P : Program} (x : T_ucd_Data) (j : Nat) : clo (std P) (D_ucd_Data nvS x j) := match j with
  | 0 => (fun i _ _ _ _ => clo_ranges_Row _ _)
  | 1 => (fun i _ _ _ _ => clo_ranges_Row _ _)
  | 2 => (fun i _ _ _ _ => clo_ranges_Row _ _)
  | 3 => (fun i _ _ _ _ => clo_ucd_Pair _ _)
  | 4 => (fun i _ _ _ _ => clo_ucd_Pair _ _)
  | 5 => (fun i _ _ _ _ => clo_ucd_Form _ _)
  | _ + 6 => trivial
def tt0 : TT := [(3, ⟨1, 8, .int .i64, some [.int .i64 0], none, true⟩),
  (4, ⟨1, 1, .bool, some [.bool false], none, true⟩),
  (22, ⟨1, 24, .slice 3, some [.slice none 0 0], none, true⟩),
  (28, ⟨1, 24, .slice 32, some [.slice none 0 0], none, true⟩),
  (32, ⟨2, 16, .array 2 3, some [.int .i64 0, .int .i64 0], some [.int .i64, .int .i64], false⟩),
  (34, ⟨1, 24, .slice 69, some [.slice none 0 0], none, true⟩),
  (36, ⟨1, 24, .struct [(0, 34)], some [.slice none 0 0], none, false⟩),
  (37, ⟨1, 24, .slice 61, some [.slice none 0 0], none, true⟩),
  (38, ⟨1, 24, .slice 64, some [.slice none 0 0], none, true⟩),
  (40, ⟨6, 144, .struct [(0, 36), (1, 36), (2, 36), (3, 37), (4, 37), (5, 38)], some [.slice none 0 0, .slice none 0 0, .slice none 0 0, .slice none 0 0, .slice none 0 0, .slice none 0 0], none, false⟩),
  (43, ⟨1, 24, .slice 70, some [.slice none 0 0], none, true⟩),
  (45, ⟨1, 24, .struct [(0, 43)], some [.slice none 0 0], none, false⟩),
  (46, ⟨1, 24, .slice 62, some [.slice none 0 0], none, true⟩),
  (47, ⟨1, 24, .slice 65, some [.slice none 0 0], none, true⟩),
  (49, ⟨6, 144, .struct [(0, 45), (1, 45), (2, 45), (3, 46), (4, 46), (5, 47)], some [.slice none 0 0, .slice none 0 0, .slice none 0 0, .slice none 0 0, .slice none 0 0, .slice none 0 0], none, false⟩),
  (55, ⟨1, 24, .slice 4, some [.slice none 0 0], none, true⟩),
  (61, ⟨2, 16, .struct [(0, 3), (1, 3)], some [.int .i64 0, .int .i64 0], some [.int .i64, .int .i64], false⟩),
  (62, ⟨2, 16, .struct [(0, 3), (1, 3)], some [.int .i64 0, .int .i64 0], some [.int .i64, .int .i64], false⟩),
  (64, ⟨3, 24, .struct [(0, 3), (1, 3), (2, 3)], some [.int .i64 0, .int .i64 0, .int .i64 0], some [.int .i64, .int .i64, .int .i64], false⟩),
  (65, ⟨3, 24, .struct [(0, 3), (1, 3), (2, 3)], some [.int .i64 0, .int .i64 0, .int .i64 0], some [.int .i64, .int .i64, .int .i64], false⟩),
  (69, ⟨3, 24, .struct [(0, 3), (1, 3), (2, 3)], some [.int .i64 0, .int .i64 0, .int .i64 0], some [.int .i64, .int .i64, .int .i64], false⟩),
  (70, ⟨3, 24, .struct [(0, 3), (1, 3), (2, 3)], some [.int .i64 0, .int .i64 0, .int .i64 0], some [.int .i64, .int .i64, .int .i64], false⟩)]
theorem tt0_ok : TTok Try.prog tt0 := TTok.of _ _ (by kernel_rfl)
theorem hPm : Try.prog.follows .mixedOrders = true := by kernel_rfl
end Go.Vx
