/-
  DERIVED. GIVEN WITH THE SEED: THE CARDS: each row of YtmkigppfdmghnaaGreatDoorRows.lean that lists a variable, with what it lists TIED to the program's text (the seventh form; the later family's looks); each row that meets fmt, with fmt's text TOLD by the authors' own Lean function (tested against real Go, not proved from fmt's source: count such statements apart). THE CARD IS WHAT COUNTS. Prove the row's statement (the work); the ties are given (YtmkigppfdmghnaaGreatDoorTie.lean); close each card by the builder's one call (the guide's Derived/Test/ToyasCard.lean, 'card_holds'). Laid BY PROGRAM, IN A SANDBOX (cutbox-door.mjs). By AI agents, Wed Nov 11 2026. No macro, syntax, notation, axiom, sorry.
-/
import Derived.Test.YtmkigppfdmghnaaGreatDoorRows
import GoSem.ClaimSeven
namespace Go.Proofs.YtmkigppfdmghnaaGreatDoor
namespace Rows

/-- THE TIED CARD OF 'lapwinglaw16.InterpUnknown'. -/
def interpUnknownCard : Claim7 := { stood := { row := interpUnknownRow, standIns := [], harness := (true, "72516a5a8f27df97f279d334320d7f24efa3cb163a94a36c539b54fe4b844bb5"), looks := true }, kinds := [], alts := [], laidByText := true, laidKinds := [.data, .data, .data, .data, .data, .data, .sentinel, .sentinel, .data, .data, .listed, .data, .pinned], laidTests := true, laidLooks := .later }
def InterpUnknownCardSaid : Prop := Claim7.holds Tryz.pinned (.plain (OpenSpec.ofChange interpUnknownSpec)) interpUnknownCard

/-- THE TIED CARD OF 'lapwinglaw16.InterpReset'. -/
def interpResetCard : Claim7 := { stood := { row := interpResetRow, standIns := [], harness := (true, "72516a5a8f27df97f279d334320d7f24efa3cb163a94a36c539b54fe4b844bb5"), looks := true }, kinds := [], alts := [], laidByText := true, laidKinds := [.data, .data, .data, .data, .data, .data, .sentinel, .sentinel, .data, .data, .listed, .data, .pinned], laidTests := true, laidLooks := .later }
def InterpResetCardSaid : Prop := Claim7.holds Tryz.pinned (.plain (OpenSpec.ofChange interpResetSpec)) interpResetCard

/-- THE TIED CARD OF 'lapwinglaw16.InterpSaves'. -/
def interpSavesCard : Claim7 := { stood := { row := interpSavesRow, standIns := [], harness := (true, "72516a5a8f27df97f279d334320d7f24efa3cb163a94a36c539b54fe4b844bb5"), looks := true }, kinds := [], alts := [], laidByText := true, laidKinds := [.data, .data, .data, .data, .data, .data, .sentinel, .sentinel, .data, .data, .listed, .data, .pinned], laidTests := true, laidLooks := .later }
def InterpSavesCardSaid : Prop := Claim7.holds Tryz.pinned (.plain (OpenSpec.ofChange interpSavesSpec)) interpSavesCard

/-- THE TIED CARD OF 'lapwinglaw16.InterpOther'. -/
def interpOtherCard : Claim7 := { stood := { row := interpOtherRow, standIns := [], harness := (true, "72516a5a8f27df97f279d334320d7f24efa3cb163a94a36c539b54fe4b844bb5"), looks := true }, kinds := [], alts := [], laidByText := true, laidKinds := [.data, .data, .data, .data, .data, .data, .sentinel, .sentinel, .data, .data, .listed, .data, .pinned], laidTests := true, laidLooks := .later }
def InterpOtherCardSaid : Prop := Claim7.holds Tryz.pinned (.plain (OpenSpec.ofChange interpOtherSpec)) interpOtherCard

/-- THE SECOND FORM's CARD OF 'lapwinglaw16.InterpUnknown'. -/
def interpUnknownUptoCard : Claim7 := { stood := { row := interpUnknownUptoRow, standIns := [], harness := (true, "72516a5a8f27df97f279d334320d7f24efa3cb163a94a36c539b54fe4b844bb5"), looks := true }, kinds := [], alts := [], laidByText := true, laidKinds := [.data, .data, .data, .data, .data, .data, .sentinel, .sentinel, .data, .data, .listed, .data, .pinned], laidTests := true, laidLooks := .later }
def InterpUnknownUptoCardSaid : Prop := Claim7.holds Tryz.pinned (.plain (OpenSpec.upto interpUnknownSpec)) interpUnknownUptoCard

/-- THE SECOND FORM's CARD OF 'lapwinglaw16.InterpReset'. -/
def interpResetUptoCard : Claim7 := { stood := { row := interpResetUptoRow, standIns := [], harness := (true, "72516a5a8f27df97f279d334320d7f24efa3cb163a94a36c539b54fe4b844bb5"), looks := true }, kinds := [], alts := [], laidByText := true, laidKinds := [.data, .data, .data, .data, .data, .data, .sentinel, .sentinel, .data, .data, .listed, .data, .pinned], laidTests := true, laidLooks := .later }
def InterpResetUptoCardSaid : Prop := Claim7.holds Tryz.pinned (.plain (OpenSpec.upto interpResetSpec)) interpResetUptoCard

/-- THE SECOND FORM's CARD OF 'lapwinglaw16.InterpSaves'. -/
def interpSavesUptoCard : Claim7 := { stood := { row := interpSavesUptoRow, standIns := [], harness := (true, "72516a5a8f27df97f279d334320d7f24efa3cb163a94a36c539b54fe4b844bb5"), looks := true }, kinds := [], alts := [], laidByText := true, laidKinds := [.data, .data, .data, .data, .data, .data, .sentinel, .sentinel, .data, .data, .listed, .data, .pinned], laidTests := true, laidLooks := .later }
def InterpSavesUptoCardSaid : Prop := Claim7.holds Tryz.pinned (.plain (OpenSpec.upto interpSavesSpec)) interpSavesUptoCard

/-- THE SECOND FORM's CARD OF 'lapwinglaw16.InterpOther'. -/
def interpOtherUptoCard : Claim7 := { stood := { row := interpOtherUptoRow, standIns := [], harness := (true, "72516a5a8f27df97f279d334320d7f24efa3cb163a94a36c539b54fe4b844bb5"), looks := true }, kinds := [], alts := [], laidByText := true, laidKinds := [.data, .data, .data, .data, .data, .data, .sentinel, .sentinel, .data, .data, .listed, .data, .pinned], laidTests := true, laidLooks := .later }
def InterpOtherUptoCardSaid : Prop := Claim7.holds Tryz.pinned (.plain (OpenSpec.upto interpOtherSpec)) interpOtherUptoCard
end Rows
end Go.Proofs.YtmkigppfdmghnaaGreatDoor
