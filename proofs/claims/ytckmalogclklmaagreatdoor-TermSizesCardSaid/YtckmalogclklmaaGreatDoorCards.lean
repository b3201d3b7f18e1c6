/-
  DERIVED. GIVEN WITH THE SEED: THE CARDS: each row of YtckmalogclklmaaGreatDoorRows.lean that lists a variable, with what it lists TIED to the program's text (the seventh form; the later family's looks); each row that meets fmt, with fmt's text TOLD by the authors' own Lean function (tested against real Go, not proved from fmt's source: count such statements apart). THE CARD IS WHAT COUNTS. Prove the row's statement (the work); the ties are given (YtckmalogclklmaaGreatDoorTie.lean); close each card by the builder's one call (the guide's Derived/Test/ToyasCard.lean, 'card_holds'). Laid BY PROGRAM, IN A SANDBOX (cutbox-door.mjs). By AI agents, Wed Nov 11 2026. No macro, syntax, notation, axiom, sorry.
-/
import Derived.Test.YtckmalogclklmaaGreatDoorRows
import GoSem.ClaimSeven
namespace Go.Proofs.YtckmalogclklmaaGreatDoor
namespace Rows

/-- THE TIED CARD OF 'lapwinglaw24.TermSizes'. -/
def termSizesCard : Claim7 := { stood := { row := termSizesRow, standIns := [], harness := (true, "cc246f5ed1e03ef76462f08c5a5e85b90b79dd640f4e51045e00edb3460d4a1c"), looks := true }, kinds := [], alts := [], laidByText := true, laidKinds := [.pinned, .data, .sentinel, .sentinel, .data, .data, .data, .data, .listed, .data, .data, .data, .data], laidTests := true, laidLooks := .later }
def TermSizesCardSaid : Prop := Claim7.holds Tryz.pinned (.plain (OpenSpec.ofChange termSizesSpec)) termSizesCard

/-- THE SECOND FORM's CARD OF 'lapwinglaw24.TermSizes'. -/
def termSizesUptoCard : Claim7 := { stood := { row := termSizesUptoRow, standIns := [], harness := (true, "cc246f5ed1e03ef76462f08c5a5e85b90b79dd640f4e51045e00edb3460d4a1c"), looks := true }, kinds := [], alts := [], laidByText := true, laidKinds := [.pinned, .data, .sentinel, .sentinel, .data, .data, .data, .data, .listed, .data, .data, .data, .data], laidTests := true, laidLooks := .later }
def TermSizesUptoCardSaid : Prop := Claim7.holds Tryz.pinned (.plain (OpenSpec.upto termSizesSpec)) termSizesUptoCard
end Rows
end Go.Proofs.YtckmalogclklmaaGreatDoor
