/-
  DERIVED. GIVEN WITH THE SEED: THE CARDS: each row of YtkjmcemgncalgaaGreatDoorRows.lean that lists a variable, with what it lists TIED to the program's text (the seventh form; the later family's looks); each row that meets fmt, with fmt's text TOLD by the authors' own Lean function (tested against real Go, not proved from fmt's source: count such statements apart). THE CARD IS WHAT COUNTS. Prove the row's statement (the work); the ties are given (YtkjmcemgncalgaaGreatDoorTie.lean); close each card by the builder's one call (the guide's Derived/Test/ToyasCard.lean, 'card_holds'). Laid BY PROGRAM, IN A SANDBOX (cutbox-door.mjs). By AI agents, Wed Nov 11 2026. No macro, syntax, notation, axiom, sorry.
-/
import Derived.Test.YtkjmcemgncalgaaGreatDoorRows
import GoSem.ClaimSeven
namespace Go.Proofs.YtkjmcemgncalgaaGreatDoor
namespace Rows

/-- THE TIED CARD OF 'lapwinglaw18.WeakBounds'. -/
def weakBoundsCard : Claim7 := { stood := { row := weakBoundsRow, standIns := [], harness := (true, "c19e8e69089d45ac171e0f147a523b616ba69e7a2a093edc1015391fc69d5e9a"), looks := true }, kinds := [], alts := [], laidByText := true, laidKinds := [.data, .data, .data, .data, .sentinel, .sentinel, .listed, .data, .pinned], laidTests := true, laidLooks := .later }
def WeakBoundsCardSaid : Prop := Claim7.holds Tryz.pinned (.plain (OpenSpec.ofChange weakBoundsSpec)) weakBoundsCard

/-- THE TIED CARD OF 'lapwinglaw18.WeakPlain'. -/
def weakPlainCard : Claim7 := { stood := { row := weakPlainRow, standIns := [], harness := (true, "c19e8e69089d45ac171e0f147a523b616ba69e7a2a093edc1015391fc69d5e9a"), looks := true }, kinds := [], alts := [], laidByText := true, laidKinds := [.data, .data, .data, .data, .sentinel, .sentinel, .listed, .data, .pinned], laidTests := true, laidLooks := .later }
def WeakPlainCardSaid : Prop := Claim7.holds Tryz.pinned (.plain (OpenSpec.ofChange weakPlainSpec)) weakPlainCard

/-- THE TIED CARD OF 'lapwinglaw18.WeakPairs'. -/
def weakPairsCard : Claim7 := { stood := { row := weakPairsRow, standIns := [], harness := (true, "c19e8e69089d45ac171e0f147a523b616ba69e7a2a093edc1015391fc69d5e9a"), looks := true }, kinds := [], alts := [], laidByText := true, laidKinds := [.data, .data, .data, .data, .sentinel, .sentinel, .listed, .data, .pinned], laidTests := true, laidLooks := .later }
def WeakPairsCardSaid : Prop := Claim7.holds Tryz.pinned (.plain (OpenSpec.ofChange weakPairsSpec)) weakPairsCard

/-- THE TIED CARD OF 'lapwinglaw18.WeakTwice'. -/
def weakTwiceCard : Claim7 := { stood := { row := weakTwiceRow, standIns := [], harness := (true, "c19e8e69089d45ac171e0f147a523b616ba69e7a2a093edc1015391fc69d5e9a"), looks := true }, kinds := [], alts := [], laidByText := true, laidKinds := [.data, .data, .data, .data, .sentinel, .sentinel, .listed, .data, .pinned], laidTests := true, laidLooks := .later }
def WeakTwiceCardSaid : Prop := Claim7.holds Tryz.pinned (.plain (OpenSpec.ofChange weakTwiceSpec)) weakTwiceCard

/-- THE SECOND FORM's CARD OF 'lapwinglaw18.WeakBounds'. -/
def weakBoundsUptoCard : Claim7 := { stood := { row := weakBoundsUptoRow, standIns := [], harness := (true, "c19e8e69089d45ac171e0f147a523b616ba69e7a2a093edc1015391fc69d5e9a"), looks := true }, kinds := [], alts := [], laidByText := true, laidKinds := [.data, .data, .data, .data, .sentinel, .sentinel, .listed, .data, .pinned], laidTests := true, laidLooks := .later }
def WeakBoundsUptoCardSaid : Prop := Claim7.holds Tryz.pinned (.plain (OpenSpec.upto weakBoundsSpec)) weakBoundsUptoCard

/-- THE SECOND FORM's CARD OF 'lapwinglaw18.WeakPlain'. -/
def weakPlainUptoCard : Claim7 := { stood := { row := weakPlainUptoRow, standIns := [], harness := (true, "c19e8e69089d45ac171e0f147a523b616ba69e7a2a093edc1015391fc69d5e9a"), looks := true }, kinds := [], alts := [], laidByText := true, laidKinds := [.data, .data, .data, .data, .sentinel, .sentinel, .listed, .data, .pinned], laidTests := true, laidLooks := .later }
def WeakPlainUptoCardSaid : Prop := Claim7.holds Tryz.pinned (.plain (OpenSpec.upto weakPlainSpec)) weakPlainUptoCard

/-- THE SECOND FORM's CARD OF 'lapwinglaw18.WeakPairs'. -/
def weakPairsUptoCard : Claim7 := { stood := { row := weakPairsUptoRow, standIns := [], harness := (true, "c19e8e69089d45ac171e0f147a523b616ba69e7a2a093edc1015391fc69d5e9a"), looks := true }, kinds := [], alts := [], laidByText := true, laidKinds := [.data, .data, .data, .data, .sentinel, .sentinel, .listed, .data, .pinned], laidTests := true, laidLooks := .later }
def WeakPairsUptoCardSaid : Prop := Claim7.holds Tryz.pinned (.plain (OpenSpec.upto weakPairsSpec)) weakPairsUptoCard

/-- THE SECOND FORM's CARD OF 'lapwinglaw18.WeakTwice'. -/
def weakTwiceUptoCard : Claim7 := { stood := { row := weakTwiceUptoRow, standIns := [], harness := (true, "c19e8e69089d45ac171e0f147a523b616ba69e7a2a093edc1015391fc69d5e9a"), looks := true }, kinds := [], alts := [], laidByText := true, laidKinds := [.data, .data, .data, .data, .sentinel, .sentinel, .listed, .data, .pinned], laidTests := true, laidLooks := .later }
def WeakTwiceUptoCardSaid : Prop := Claim7.holds Tryz.pinned (.plain (OpenSpec.upto weakTwiceSpec)) weakTwiceUptoCard
end Rows
end Go.Proofs.YtkjmcemgncalgaaGreatDoor
