/-
  DERIVED. GIVEN WITH THE SEED: THE CARDS: each row of YtmpgicplgjmjkaaGreatDoorRows.lean that lists a variable, with what it lists TIED to the program's text (the seventh form; the later family's looks); each row that meets fmt, with fmt's text TOLD by the authors' own Lean function (tested against real Go, not proved from fmt's source: count such statements apart). THE CARD IS WHAT COUNTS. Prove the row's statement (the work); the ties are given (YtmpgicplgjmjkaaGreatDoorTie.lean); close each card by the builder's one call (the guide's Derived/Test/ToyasCard.lean, 'card_holds'). Laid BY PROGRAM, IN A SANDBOX (cutbox-door.mjs). By AI agents, Wed Nov 11 2026. No macro, syntax, notation, axiom, sorry.
-/
import Derived.Test.YtmpgicplgjmjkaaGreatDoorRows
import GoSem.ClaimSeven
namespace Go.Proofs.YtmpgicplgjmjkaaGreatDoor
namespace Rows

/-- THE TIED CARD OF 'lapwinglaw24.TermCuts'. -/
def termCutsCard : Claim7 := { stood := { row := termCutsRow, standIns := [], harness := (true, "92dad70b092b47c82d865abc1508d74a3d8b5a648de42318754fcec18061e9ba"), looks := true }, kinds := [], alts := [], laidByText := true, laidKinds := [.pinned, .data, .sentinel, .sentinel, .data, .data, .data, .data, .listed, .data, .data, .data, .data], laidTests := true, laidLooks := .later }
def TermCutsCardSaid : Prop := Claim7.holds Tryz.pinned (.plain (OpenSpec.ofChange termCutsSpec)) termCutsCard

/-- THE TIED CARD OF 'lapwinglaw24.TermReset'. -/
def termResetCard : Claim7 := { stood := { row := termResetRow, standIns := [], harness := (true, "92dad70b092b47c82d865abc1508d74a3d8b5a648de42318754fcec18061e9ba"), looks := true }, kinds := [], alts := [], laidByText := true, laidKinds := [.pinned, .data, .sentinel, .sentinel, .data, .data, .data, .data, .listed, .data, .data, .data, .data], laidTests := true, laidLooks := .later }
def TermResetCardSaid : Prop := Claim7.holds Tryz.pinned (.plain (OpenSpec.ofChange termResetSpec)) termResetCard

/-- THE TIED CARD OF 'lapwinglaw24.TermLooks'. -/
def termLooksCard : Claim7 := { stood := { row := termLooksRow, standIns := [], harness := (true, "92dad70b092b47c82d865abc1508d74a3d8b5a648de42318754fcec18061e9ba"), looks := true }, kinds := [], alts := [], laidByText := true, laidKinds := [.pinned, .data, .sentinel, .sentinel, .data, .data, .data, .data, .listed, .data, .data, .data, .data], laidTests := true, laidLooks := .later }
def TermLooksCardSaid : Prop := Claim7.holds Tryz.pinned (.plain (OpenSpec.ofChange termLooksSpec)) termLooksCard

/-- THE SECOND FORM's CARD OF 'lapwinglaw24.TermCuts'. -/
def termCutsUptoCard : Claim7 := { stood := { row := termCutsUptoRow, standIns := [], harness := (true, "92dad70b092b47c82d865abc1508d74a3d8b5a648de42318754fcec18061e9ba"), looks := true }, kinds := [], alts := [], laidByText := true, laidKinds := [.pinned, .data, .sentinel, .sentinel, .data, .data, .data, .data, .listed, .data, .data, .data, .data], laidTests := true, laidLooks := .later }
def TermCutsUptoCardSaid : Prop := Claim7.holds Tryz.pinned (.plain (OpenSpec.upto termCutsSpec)) termCutsUptoCard

/-- THE SECOND FORM's CARD OF 'lapwinglaw24.TermReset'. -/
def termResetUptoCard : Claim7 := { stood := { row := termResetUptoRow, standIns := [], harness := (true, "92dad70b092b47c82d865abc1508d74a3d8b5a648de42318754fcec18061e9ba"), looks := true }, kinds := [], alts := [], laidByText := true, laidKinds := [.pinned, .data, .sentinel, .sentinel, .data, .data, .data, .data, .listed, .data, .data, .data, .data], laidTests := true, laidLooks := .later }
def TermResetUptoCardSaid : Prop := Claim7.holds Tryz.pinned (.plain (OpenSpec.upto termResetSpec)) termResetUptoCard

/-- THE SECOND FORM's CARD OF 'lapwinglaw24.TermLooks'. -/
def termLooksUptoCard : Claim7 := { stood := { row := termLooksUptoRow, standIns := [], harness := (true, "92dad70b092b47c82d865abc1508d74a3d8b5a648de42318754fcec18061e9ba"), looks := true }, kinds := [], alts := [], laidByText := true, laidKinds := [.pinned, .data, .sentinel, .sentinel, .data, .data, .data, .data, .listed, .data, .data, .data, .data], laidTests := true, laidLooks := .later }
def TermLooksUptoCardSaid : Prop := Claim7.holds Tryz.pinned (.plain (OpenSpec.upto termLooksSpec)) termLooksUptoCard
end Rows
end Go.Proofs.YtmpgicplgjmjkaaGreatDoor
