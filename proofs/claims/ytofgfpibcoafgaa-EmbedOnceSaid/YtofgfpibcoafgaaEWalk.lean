/- Walks, by program (lift.py): the code does what the lifted functions say. -/
import Derived.Test.YtofgfpibcoafgaaELift
import Derived.Test.YtofgfpibcoafgaaChecked
set_option linter.all false
namespace Go.Vx
open Go.Proofs
set_option maxRecDepth 100000
set_option linter.unusedVariables false
set_option linter.unusedSimpArgs false
def D_embed_stack_int_ (nv : Nv) (x : T_embed_stack_int_) (j : Nat) : D := match j with
  | 0 => (.sl 1 (nv.len x.fl) false (fun ix jx => (.v (.int .i64 (nv.get 0 x.fl ix)))))
  | _ => .junk
def D_embed_status (nv : Nv) (x : T_embed_status) (j : Nat) : D := match j with
  | 0 => (.v (.int .i64 x.flevel))
  | 1 => (.v (.int .i64 x.foverride))
  | 2 => (.v (.bool x.fisolate))
  | _ => .junk
def D_embed_status_ (nv : Nv) (x : T_embed_status_) (j : Nat) : D := match j with
  | 0 => (.sl 3 (nv.len x.fl) false (fun ix jx => (D_embed_status nv (nv.get d_embed_status x.fl ix) jx)))
  | _ => .junk
def D_embed_Run (nv : Nv) (x : T_embed_Run) (j : Nat) : D := match j with
  | 0 => (.sl 1 (nv.len x.fLevels) false (fun ix jx => (.v (.int .i64 (nv.get 0 x.fLevels ix)))))
  | 1 => (.sl 1 (nv.len x.fClasses) false (fun ix jx => (.v (.int .i64 (nv.get 0 x.fClasses ix)))))
  | 2 => (.sl 1 (nv.len x.fRemoved) false (fun ix jx => (.v (.bool (nv.get false x.fRemoved ix)))))
  | _ => .junk
def D_embed_machine (nv : Nv) (x : T_embed_machine) (j : Nat) : D := match j with
  | 0 => (.sl 1 (nv.len x.fl) false (fun ix jx => (.v (.int .i64 (nv.get 0 x.fl ix)))))
  | 1 => (.sl 1 (nv.len x.fmatch) false (fun ix jx => (.v (.int .i64 (nv.get 0 x.fmatch ix)))))
  | 2 => (.v (.int .i64 x.fbase))
  | 3 => (.sl 1 (nv.len x.frun.fLevels) false (fun ix jx => (.v (.int .i64 (nv.get 0 x.frun.fLevels ix)))))
  | 4 => (.sl 1 (nv.len x.frun.fClasses) false (fun ix jx => (.v (.int .i64 (nv.get 0 x.frun.fClasses ix)))))
  | 5 => (.sl 1 (nv.len x.frun.fRemoved) false (fun ix jx => (.v (.bool (nv.get false x.frun.fRemoved ix)))))
  | 6 => (.sl 3 (nv.len x.fopen.fl) false (fun ix jx => (D_embed_status nv (nv.get d_embed_status x.fopen.fl ix) jx)))
  | 7 => (.v (.int .i64 x.fisolates))
  | 8 => (.v (.int .i64 x.fembeddings))
  | 9 => (.v (.int .i64 x.fvalid))
  | _ => .junk
theorem out_embed_stack_int_ {P : Program} (x : T_embed_stack_int_) (j : Nat) : out0 (std P) (D_embed_stack_int_ nvS x j) (D_embed_stack_int_ nvS x j) := match j with
  | 0 => out0_sl (fun i j => out0_int _ _)
  | _ + 1 => trivial
theorem out1_embed_stack_int_ {P : Program} {objs : List (Option Ob)} (x : T_embed_stack_int_) (j : Nat) : out1 (std P) objs (D_embed_stack_int_ nvS x j) (D_embed_stack_int_ nvS x j) := match j with
  | 0 => out0_sl (fun i j => out0_int _ _)
  | _ + 1 => trivial
theorem clo_embed_stack_int_ {P : Program} (x : T_embed_stack_int_) (j : Nat) : clo (std P) (D_embed_stack_int_ nvS x j) := match j with
  | 0 => (fun i _ _ _ _ => trivial)
  | _ + 1 => trivial
theorem out_embed_status {P : Program} (x : T_embed_status) (j : Nat) : out0 (std P) (D_embed_status nvS x j) (D_embed_status nvS x j) := match j with
  | 0 => out0_int _ _
  | 1 => out0_int _ _
  | 2 => out0_bool _
  | _ + 3 => trivial
theorem out1_embed_status {P : Program} {objs : List (Option Ob)} (x : T_embed_status) (j : Nat) : out1 (std P) objs (D_embed_status nvS x j) (D_embed_status nvS x j) := match j with
  | 0 => out0_int _ _
  | 1 => out0_int _ _
  | 2 => out0_bool _
  | _ + 3 => trivial
theorem clo_embed_status {P : Program} (x : T_embed_status) (j : Nat) : clo (std P) (D_embed_status nvS x j) := match j with
  | 0 => trivial
  | 1 => trivial
  | 2 => trivial
  | _ + 3 => trivial
theorem flat_embed_status {P : Program} (x : T_embed_status) (j : Nat) : flat (std P) (D_embed_status nvS x j) := match j with
  | 0 => trivial
  | 1 => trivial
  | 2 => trivial
  | _ + 3 => trivial
theorem out_embed_status_ {P : Program} (x : T_embed_status_) (j : Nat) : out0 (std P) (D_embed_status_ nvS x j) (D_embed_status_ nvS x j) := match j with
  | 0 => out0_sl (fun i j => out_embed_status _ _)
  | _ + 1 => trivial
theorem out1_embed_status_ {P : Program} {objs : List (Option Ob)} (x : T_embed_status_) (j : Nat) : out1 (std P) objs (D_embed_status_ nvS x j) (D_embed_status_ nvS x j) := match j with
  | 0 => out0_sl (fun i j => out_embed_status _ _)
  | _ + 1 => trivial
theorem clo_embed_status_ {P : Program} (x : T_embed_status_) (j : Nat) : clo (std P) (D_embed_status_ nvS x j) := match j with
  | 0 => (fun i _ _ _ _ => clo_embed_status _ _)
  | _ + 1 => trivial
theorem out_embed_Run {P : Program} (x : T_embed_Run) (j : Nat) : out0 (std P) (D_embed_Run nvS x j) (D_embed_Run nvS x j) := match j with
  | 0 => out0_sl (fun i j => out0_int _ _)
  | 1 => out0_sl (fun i j => out0_int _ _)
  | 2 => out0_sl (fun i j => out0_bool _)
  | _ + 3 => trivial
theorem out1_embed_Run {P : Program} {objs : List (Option Ob)} (x : T_embed_Run) (j : Nat) : out1 (std P) objs (D_embed_Run nvS x j) (D_embed_Run nvS x j) := match j with
  | 0 => out0_sl (fun i j => out0_int _ _)
  | 1 => out0_sl (fun i j => out0_int _ _)
  | 2 => out0_sl (fun i j => out0_bool _)
  | _ + 3 => trivial
theorem clo_embed_Run {P : Program} (x : T_embed_Run) (j : Nat) : clo (std P) (D_embed_Run nvS x j) := match j with
  | 0 => (fun i _ _ _ _ => trivial)
  | 1 => (fun i _ _ _ _ => trivial)
  | 2 => (fun i _ _ _ _ => trivial)
  | _ + 3 => trivial
theorem out_embed_machine {P : Program} (x : T_embed_machine) (j : Nat) : out0 (std P) (D_embed_machine nvS x j) (D_embed_machine nvS x j) := match j with
  | 0 => out0_sl (fun i j => out0_int _ _)
  | 1 => out0_sl (fun i j => out0_int _ _)
  | 2 => out0_int _ _
  | 3 => out0_sl (fun i j => out0_int _ _)
  | 4 => out0_sl (fun i j => out0_int _ _)
  | 5 => out0_sl (fun i j => out0_bool _)
  | 6 => out0_sl (fun i j => out_embed_status _ _)
  | 7 => out0_int _ _
  | 8 => out0_int _ _
  | 9 => out0_int _ _
  | _ + 10 => trivial
theorem out1_embed_machine {P : Program} {objs : List (Option Ob)} (x : T_embed_machine) (j : Nat) : out1 (std P) objs (D_embed_machine nvS x j) (D_embed_machine nvS x j) := match j with
  | 0 => out0_sl (fun i j => out0_int _ _)
  | 1 => out0_sl (fun i j => out0_int _ _)
  | 2 => out0_int _ _
  | 3 => out0_sl (fun i j => out0_int _ _)
  | 4 => out0_sl (fun i j => out0_int _ _)
  | 5 => out0_sl (fun i j => out0_bool _)
  | 6 => out0_sl (fun i j => out_embed_status _ _)
  | 7 => out0_int _ _
  | 8 => out0_int _ _
  | 9 => out0_int _ _
  | _ + 10 => trivial
theorem clo_embed_machine {P : Program} (x : T_embed_machine) (j : Nat) : clo (std P) (D_embed_machine nvS x j) := match j with
  | 0 => (fun i _ _ _ _ => trivial)
  | 1 => (fun i _ _ _ _ => trivial)
  | 2 => trivial
  | 3 => (fun i _ _ _ _ => trivial)
  | 4 => (fun i _ _ _ _ => trivial)
  | 5 => (fun i _ _ _ _ => trivial)
  | 6 => (fun i _ _ _ _ => clo_embed_status _ _)
  | 7 => trivial
  | 8 => trivial
  | 9 => trivial
  | _ + 10 => trivial
def tt0 : TT := [(3, ⟨1, 8, .int .i64, some [.int .i64 0], none, true⟩),
  (4, ⟨1, 1, .bool, some [.bool false], none, true⟩),
  (22, ⟨1, 24, .slice 3, some [.slice none 0 0], none, true⟩),
  (26, ⟨1, 24, .slice 4, some [.slice none 0 0], none, true⟩),
  (28, ⟨3, 72, .struct [(0, 22), (1, 22), (2, 26)], some [.slice none 0 0, .slice none 0 0, .slice none 0 0], none, false⟩),
  (30, ⟨1, 24, .slice 22, some [.slice none 0 0], none, true⟩),
  (37, ⟨1, 24, .struct [(0, 22)], some [.slice none 0 0], none, false⟩),
  (41, ⟨1, 24, .slice 48, some [.slice none 0 0], none, true⟩),
  (43, ⟨1, 24, .struct [(0, 41)], some [.slice none 0 0], none, false⟩),
  (45, ⟨10, 176, .struct [(0, 22), (1, 22), (2, 3), (3, 28), (6, 43), (7, 3), (8, 3), (9, 3)], some [.slice none 0 0, .slice none 0 0, .int .i64 0, .slice none 0 0, .slice none 0 0, .slice none 0 0, .slice none 0 0, .int .i64 0, .int .i64 0, .int .i64 0], none, false⟩),
  (48, ⟨3, 24, .struct [(0, 3), (1, 3), (2, 4)], some [.int .i64 0, .int .i64 0, .bool false], some [.int .i64, .int .i64, .bool], false⟩)]
theorem tt0_ok : TTok Try.prog tt0 := TTok.of _ _ (by kernel_rfl)
theorem hPm : Try.prog.follows .mixedOrders = true := by kernel_rfl
end Go.Vx
