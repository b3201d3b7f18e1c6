/-
  No cell of these rows narrows 'for every input' (looked for: loops, veiled, ifaces, maps, wideKeys, modest, calm, conditions, laid).
  DERIVED. THE GIVEN ROWS OF THIS SEAT. 3 by the template 'for every input the law returns true; each argument reads behind the call as it read before'; 0 by the template 'total and deterministic' (their statements: YtofgfpibcoafgaaTotals.lean).
  GIVEN WITH THE SEED: the statements are not yours to turn. If you find one false, say at which input.
  Laid BY PROGRAM, IN A SANDBOX (cutbox-rows.mjs): the forced cells as the released guide's own fill.sh prints them over the translation 33f9270c6381478d… (all of the seat's roots in one cut). By AI agents, Wed Nov 11 2026. No macro, syntax, notation, axiom, sorry.
-/
import Derived.Test.YtofgfpibcoafgaaChecked
import GoSem.Claim
import GoSem.ClaimJoined
import GoSem.ClaimMapViews
import Derived.JoinedTies
import Derived.KernelRfl
namespace Go.Proofs.Ytofgfpibcoafgaa
/- THE CELL 'sum', in the pinned program and in every row, IS THE sha256 OF THE DUMP (.gsa) THAT YtofgfpibcoafgaaProg.lean LOADS. Nothing in Lean hashes anything: it is a label: what it is worth is what the hold of that sum in a sandbox is worth. -/
noncomputable def Try.pinned : Pinned := { name := "ytofgfpibcoafgaa", sum := "33f9270c6381478d6765a6ce37a28bd76c51996614ae43e9927df5fd1c01acb9", checked := Try.checked }
namespace Rows
def none {H : Type} : Left H := { results := [], args := [] }

/-- 'lapwinglaw17.EmbedMatch': WHATEVER THE INPUT: true; the input reads as it did. -/
def embedMatchSpec : ChangeSpec := { name := "embedMatch", fn := fun _ => fun
  | [d1, d2] => { results := [.lit (.bool true)], args := [d1, d2] }
  | _ => none }
def embedMatchRow : OpenClaim := { program := "ytofgfpibcoafgaa", sum := "33f9270c6381478d6765a6ce37a28bd76c51996614ae43e9927df5fd1c01acb9", func := "lapwing/lapwinglaw17.EmbedMatch", spec := "embedMatch", apart := false }
def EmbedMatchSaid : Prop := embedMatchRow.holds Try.pinned (OpenSpec.ofChange embedMatchSpec)

/-- ITS FALSE NEIGHBOUR: 'it returns false'. Refute it at one input. -/
def embedMatchWrong : ChangeSpec := { name := "embedMatch", fn := fun _ => fun
  | [d1, d2] => { results := [.lit (.bool false)], args := [d1, d2] }
  | _ => none }
def EmbedMatchWrongFalsely : Prop := embedMatchRow.holds Try.pinned (OpenSpec.ofChange embedMatchWrong)

/-- 'lapwinglaw17.EmbedFlat': WHATEVER THE INPUT: true; the input reads as it did. -/
def embedFlatSpec : ChangeSpec := { name := "embedFlat", fn := fun _ => fun
  | [d1, d2] => { results := [.lit (.bool true)], args := [d1, d2] }
  | _ => none }
def embedFlatRow : OpenClaim := { program := "ytofgfpibcoafgaa", sum := "33f9270c6381478d6765a6ce37a28bd76c51996614ae43e9927df5fd1c01acb9", func := "lapwing/lapwinglaw17.EmbedFlat", spec := "embedFlat", apart := false }
def EmbedFlatSaid : Prop := embedFlatRow.holds Try.pinned (OpenSpec.ofChange embedFlatSpec)

/-- ITS FALSE NEIGHBOUR: 'it returns false'. Refute it at one input. -/
def embedFlatWrong : ChangeSpec := { name := "embedFlat", fn := fun _ => fun
  | [d1, d2] => { results := [.lit (.bool false)], args := [d1, d2] }
  | _ => none }
def EmbedFlatWrongFalsely : Prop := embedFlatRow.holds Try.pinned (OpenSpec.ofChange embedFlatWrong)

/-- 'lapwinglaw17.EmbedOnce': WHATEVER THE INPUT: true; the input reads as it did. -/
def embedOnceSpec : ChangeSpec := { name := "embedOnce", fn := fun _ => fun
  | [d1, d2] => { results := [.lit (.bool true)], args := [d1, d2] }
  | _ => none }
def embedOnceRow : OpenClaim := { program := "ytofgfpibcoafgaa", sum := "33f9270c6381478d6765a6ce37a28bd76c51996614ae43e9927df5fd1c01acb9", func := "lapwing/lapwinglaw17.EmbedOnce", spec := "embedOnce", apart := false }
def EmbedOnceSaid : Prop := embedOnceRow.holds Try.pinned (OpenSpec.ofChange embedOnceSpec)

/-- ITS FALSE NEIGHBOUR: 'it returns false'. Refute it at one input. -/
def embedOnceWrong : ChangeSpec := { name := "embedOnce", fn := fun _ => fun
  | [d1, d2] => { results := [.lit (.bool false)], args := [d1, d2] }
  | _ => none }
def EmbedOnceWrongFalsely : Prop := embedOnceRow.holds Try.pinned (OpenSpec.ofChange embedOnceWrong)

/- THE SECOND FORM. 'bulk': how many values and letters a reading holds, each counted each time it is reached (what is shared counts as often as it is met; a slice's spare places count too). A statement '..UptoSaid' is the law's where the arguments, and the package variables that the reading takes, are together of bulk at most 1048576: NARROWER than '..Said'. Prove '..Said' where nothing that the law and all that it calls make is longer than what came in: it says more and counts as full. Else prove '..UptoSaid'. A law counts once. -/
mutual
def uptoBulk {H : Type} : DataW H → Nat
  | .lit (.string bytes) => bytes.length + 1
  | .lit _ => 1
  | .nil => 1
  | .ptr d => uptoBulk d + 1
  | .slice elems spare => uptoBulkAll elems + uptoBulkAll spare + 1
  | .agg parts => uptoBulkAll parts + 1
  | .iface _ d => uptoBulk d + 1
  | .map entries => uptoBulkEntries entries + 1
  | .held _ => 1
def uptoBulkAll {H : Type} : List (DataW H) → Nat
  | [] => 0
  | d :: r => uptoBulk d + uptoBulkAll r
def uptoBulkEntries {H : Type} : List (Lit × DataW H) → Nat
  | [] => 0
  | x :: r => uptoBulkEntry x + uptoBulkEntries r
def uptoBulkEntry {H : Type} : Lit × DataW H → Nat
  | (.string bytes, d) => bytes.length + uptoBulk d + 1
  | (_, d) => uptoBulk d + 1
 end
def uptoSmall : (H : Type) → List (DataW H) → Bool := fun _ ds => decide (uptoBulkAll ds ≤ 1048576)
def OpenSpec.upto (s : _root_.Go.ChangeSpec) : _root_.Go.OpenSpec := { _root_.Go.OpenSpec.ofChange s with cond := some uptoSmall }

/-- 'lapwinglaw17.EmbedMatch', WHERE WHAT IT READS IS OF BULK AT MOST 1048576: true; the input reads as it did. -/
def embedMatchUptoRow : OpenClaim := { program := "ytofgfpibcoafgaa", sum := "33f9270c6381478d6765a6ce37a28bd76c51996614ae43e9927df5fd1c01acb9", func := "lapwing/lapwinglaw17.EmbedMatch", spec := "embedMatch", apart := false, narrowed := true }
def EmbedMatchUptoSaid : Prop := embedMatchUptoRow.holds Try.pinned (OpenSpec.upto embedMatchSpec)

/-- 'lapwinglaw17.EmbedFlat', WHERE WHAT IT READS IS OF BULK AT MOST 1048576: true; the input reads as it did. -/
def embedFlatUptoRow : OpenClaim := { program := "ytofgfpibcoafgaa", sum := "33f9270c6381478d6765a6ce37a28bd76c51996614ae43e9927df5fd1c01acb9", func := "lapwing/lapwinglaw17.EmbedFlat", spec := "embedFlat", apart := false, narrowed := true }
def EmbedFlatUptoSaid : Prop := embedFlatUptoRow.holds Try.pinned (OpenSpec.upto embedFlatSpec)

/-- 'lapwinglaw17.EmbedOnce', WHERE WHAT IT READS IS OF BULK AT MOST 1048576: true; the input reads as it did. -/
def embedOnceUptoRow : OpenClaim := { program := "ytofgfpibcoafgaa", sum := "33f9270c6381478d6765a6ce37a28bd76c51996614ae43e9927df5fd1c01acb9", func := "lapwing/lapwinglaw17.EmbedOnce", spec := "embedOnce", apart := false, narrowed := true }
def EmbedOnceUptoSaid : Prop := embedOnceUptoRow.holds Try.pinned (OpenSpec.upto embedOnceSpec)

end Rows
end Go.Proofs.Ytofgfpibcoafgaa
