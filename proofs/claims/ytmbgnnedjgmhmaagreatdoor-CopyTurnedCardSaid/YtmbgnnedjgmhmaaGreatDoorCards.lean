/-
  DERIVED. GIVEN WITH THE SEED: THE CARDS: each row of YtmbgnnedjgmhmaaGreatDoorRows.lean that lists a variable, with what it lists TIED to the program's text (the seventh form; the later family's looks); each row that meets fmt, with fmt's text TOLD by the authors' own Lean function (tested against real Go, not proved from fmt's source: count such statements apart). THE CARD IS WHAT COUNTS. Prove the row's statement (the work); the ties are given (YtmbgnnedjgmhmaaGreatDoorTie.lean); close each card by the builder's one call (the guide's Derived/Test/ToyasCard.lean, 'card_holds'). Laid BY PROGRAM, IN A SANDBOX (cutbox-door.mjs). By AI agents, Wed Nov 11 2026. No macro, syntax, notation, axiom, sorry.
-/
import Derived.Test.YtmbgnnedjgmhmaaGreatDoorRows
import GoSem.ClaimSeven
namespace Go.Proofs.YtmbgnnedjgmhmaaGreatDoor
namespace Rows

/-- THE TIED CARD OF 'lapwinglaw23.CopyTurned'. -/
def copyTurnedCard : Claim7 := { stood := { row := copyTurnedRow, standIns := [], harness := (true, "392f2809ce29141a90221e78f6926bbcd5efb6b440df14e3b462a590c005364a"), looks := true }, kinds := [], alts := [], laidByText := true, laidKinds := [.data, .data, .data, .data, .sentinel, .sentinel, .listed, .data, .pinned], laidTests := true, laidLooks := .later }
def CopyTurnedCardSaid : Prop := Claim7.holds Tryz.pinned (.plain (OpenSpec.ofChange copyTurnedSpec)) copyTurnedCard

/-- THE TIED CARD OF 'lapwinglaw23.CopyAll'. -/
def copyAllCard : Claim7 := { stood := { row := copyAllRow, standIns := [], harness := (true, "392f2809ce29141a90221e78f6926bbcd5efb6b440df14e3b462a590c005364a"), looks := true }, kinds := [], alts := [], laidByText := true, laidKinds := [.data, .data, .data, .data, .sentinel, .sentinel, .listed, .data, .pinned], laidTests := true, laidLooks := .later }
def CopyAllCardSaid : Prop := Claim7.holds Tryz.pinned (.plain (OpenSpec.ofChange copyAllSpec)) copyAllCard

/-- THE TIED CARD OF 'lapwinglaw23.CopyWord'. -/
def copyWordCard : Claim7 := { stood := { row := copyWordRow, standIns := [], harness := (true, "392f2809ce29141a90221e78f6926bbcd5efb6b440df14e3b462a590c005364a"), looks := true }, kinds := [], alts := [], laidByText := true, laidKinds := [.data, .data, .data, .data, .sentinel, .sentinel, .listed, .data, .pinned], laidTests := true, laidLooks := .later }
def CopyWordCardSaid : Prop := Claim7.holds Tryz.pinned (.plain (OpenSpec.ofChange copyWordSpec)) copyWordCard

/-- THE TIED CARD OF 'lapwinglaw23.CopyOnce'. -/
def copyOnceCard : Claim7 := { stood := { row := copyOnceRow, standIns := [], harness := (true, "392f2809ce29141a90221e78f6926bbcd5efb6b440df14e3b462a590c005364a"), looks := true }, kinds := [], alts := [], laidByText := true, laidKinds := [.data, .data, .data, .data, .sentinel, .sentinel, .listed, .data, .pinned], laidTests := true, laidLooks := .later }
def CopyOnceCardSaid : Prop := Claim7.holds Tryz.pinned (.plain (OpenSpec.ofChange copyOnceSpec)) copyOnceCard

/-- THE SECOND FORM's CARD OF 'lapwinglaw23.CopyTurned'. -/
def copyTurnedUptoCard : Claim7 := { stood := { row := copyTurnedUptoRow, standIns := [], harness := (true, "392f2809ce29141a90221e78f6926bbcd5efb6b440df14e3b462a590c005364a"), looks := true }, kinds := [], alts := [], laidByText := true, laidKinds := [.data, .data, .data, .data, .sentinel, .sentinel, .listed, .data, .pinned], laidTests := true, laidLooks := .later }
def CopyTurnedUptoCardSaid : Prop := Claim7.holds Tryz.pinned (.plain (OpenSpec.upto copyTurnedSpec)) copyTurnedUptoCard

/-- THE SECOND FORM's CARD OF 'lapwinglaw23.CopyAll'. -/
def copyAllUptoCard : Claim7 := { stood := { row := copyAllUptoRow, standIns := [], harness := (true, "392f2809ce29141a90221e78f6926bbcd5efb6b440df14e3b462a590c005364a"), looks := true }, kinds := [], alts := [], laidByText := true, laidKinds := [.data, .data, .data, .data, .sentinel, .sentinel, .listed, .data, .pinned], laidTests := true, laidLooks := .later }
def CopyAllUptoCardSaid : Prop := Claim7.holds Tryz.pinned (.plain (OpenSpec.upto copyAllSpec)) copyAllUptoCard

/-- THE SECOND FORM's CARD OF 'lapwinglaw23.CopyWord'. -/
def copyWordUptoCard : Claim7 := { stood := { row := copyWordUptoRow, standIns := [], harness := (true, "392f2809ce29141a90221e78f6926bbcd5efb6b440df14e3b462a590c005364a"), looks := true }, kinds := [], alts := [], laidByText := true, laidKinds := [.data, .data, .data, .data, .sentinel, .sentinel, .listed, .data, .pinned], laidTests := true, laidLooks := .later }
def CopyWordUptoCardSaid : Prop := Claim7.holds Tryz.pinned (.plain (OpenSpec.upto copyWordSpec)) copyWordUptoCard

/-- THE SECOND FORM's CARD OF 'lapwinglaw23.CopyOnce'. -/
def copyOnceUptoCard : Claim7 := { stood := { row := copyOnceUptoRow, standIns := [], harness := (true, "392f2809ce29141a90221e78f6926bbcd5efb6b440df14e3b462a590c005364a"), looks := true }, kinds := [], alts := [], laidByText := true, laidKinds := [.data, .data, .data, .data, .sentinel, .sentinel, .listed, .data, .pinned], laidTests := true, laidLooks := .later }
def CopyOnceUptoCardSaid : Prop := Claim7.holds Tryz.pinned (.plain (OpenSpec.upto copyOnceSpec)) copyOnceUptoCard
end Rows
end Go.Proofs.YtmbgnnedjgmhmaaGreatDoor
