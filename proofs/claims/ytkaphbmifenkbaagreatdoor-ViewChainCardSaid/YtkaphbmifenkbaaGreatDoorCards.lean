/-
  DERIVED. GIVEN WITH THE SEED: THE CARDS: each row of YtkaphbmifenkbaaGreatDoorRows.lean that lists a variable, with what it lists TIED to the program's text (the seventh form; the later family's looks); each row that meets fmt, with fmt's text TOLD by the authors' own Lean function (tested against real Go, not proved from fmt's source: count such statements apart). THE CARD IS WHAT COUNTS. Prove the row's statement (the work); the ties are given (YtkaphbmifenkbaaGreatDoorTie.lean); close each card by the builder's one call (the guide's Derived/Test/ToyasCard.lean, 'card_holds'). Laid BY PROGRAM, IN A SANDBOX (cutbox-door.mjs). By AI agents, Wed Nov 11 2026. No macro, syntax, notation, axiom, sorry.
-/
import Derived.Test.YtkaphbmifenkbaaGreatDoorRows
import GoSem.ClaimSeven
namespace Go.Proofs.YtkaphbmifenkbaaGreatDoor
namespace Rows

/-- THE TIED CARD OF 'lapwinglaw21.ViewApart'. -/
def viewApartCard : Claim7 := { stood := { row := viewApartRow, standIns := [], harness := (true, "4bfbb077ea3069ecebe83bd8f5f5abe07173a1514fe79e78637423e600ce87ab"), looks := true }, kinds := [], alts := [], laidByText := true, laidKinds := [.data, .data, .data, .data, .sentinel, .sentinel, .listed, .data, .pinned], laidTests := true, laidLooks := .later }
def ViewApartCardSaid : Prop := Claim7.holds Tryz.pinned (.plain (OpenSpec.ofChange viewApartSpec)) viewApartCard

/-- THE TIED CARD OF 'lapwinglaw21.ViewInverse'. -/
def viewInverseCard : Claim7 := { stood := { row := viewInverseRow, standIns := [], harness := (true, "4bfbb077ea3069ecebe83bd8f5f5abe07173a1514fe79e78637423e600ce87ab"), looks := true }, kinds := [], alts := [], laidByText := true, laidKinds := [.data, .data, .data, .data, .sentinel, .sentinel, .listed, .data, .pinned], laidTests := true, laidLooks := .later }
def ViewInverseCardSaid : Prop := Claim7.holds Tryz.pinned (.plain (OpenSpec.ofChange viewInverseSpec)) viewInverseCard

/-- THE TIED CARD OF 'lapwinglaw21.ViewChain'. -/
def viewChainCard : Claim7 := { stood := { row := viewChainRow, standIns := [], harness := (true, "4bfbb077ea3069ecebe83bd8f5f5abe07173a1514fe79e78637423e600ce87ab"), looks := true }, kinds := [], alts := [], laidByText := true, laidKinds := [.data, .data, .data, .data, .sentinel, .sentinel, .listed, .data, .pinned], laidTests := true, laidLooks := .later }
def ViewChainCardSaid : Prop := Claim7.holds Tryz.pinned (.plain (OpenSpec.ofChange viewChainSpec)) viewChainCard

/-- THE TIED CARD OF 'lapwinglaw21.ViewPlain'. -/
def viewPlainCard : Claim7 := { stood := { row := viewPlainRow, standIns := [], harness := (true, "4bfbb077ea3069ecebe83bd8f5f5abe07173a1514fe79e78637423e600ce87ab"), looks := true }, kinds := [], alts := [], laidByText := true, laidKinds := [.data, .data, .data, .data, .sentinel, .sentinel, .listed, .data, .pinned], laidTests := true, laidLooks := .later }
def ViewPlainCardSaid : Prop := Claim7.holds Tryz.pinned (.plain (OpenSpec.ofChange viewPlainSpec)) viewPlainCard

/-- THE TIED CARD OF 'lapwinglaw21.ViewAll'. -/
def viewAllCard : Claim7 := { stood := { row := viewAllRow, standIns := [], harness := (true, "4bfbb077ea3069ecebe83bd8f5f5abe07173a1514fe79e78637423e600ce87ab"), looks := true }, kinds := [], alts := [], laidByText := true, laidKinds := [.data, .data, .data, .data, .sentinel, .sentinel, .listed, .data, .pinned], laidTests := true, laidLooks := .later }
def ViewAllCardSaid : Prop := Claim7.holds Tryz.pinned (.plain (OpenSpec.ofChange viewAllSpec)) viewAllCard

/-- THE SECOND FORM's CARD OF 'lapwinglaw21.ViewApart'. -/
def viewApartUptoCard : Claim7 := { stood := { row := viewApartUptoRow, standIns := [], harness := (true, "4bfbb077ea3069ecebe83bd8f5f5abe07173a1514fe79e78637423e600ce87ab"), looks := true }, kinds := [], alts := [], laidByText := true, laidKinds := [.data, .data, .data, .data, .sentinel, .sentinel, .listed, .data, .pinned], laidTests := true, laidLooks := .later }
def ViewApartUptoCardSaid : Prop := Claim7.holds Tryz.pinned (.plain (OpenSpec.upto viewApartSpec)) viewApartUptoCard

/-- THE SECOND FORM's CARD OF 'lapwinglaw21.ViewInverse'. -/
def viewInverseUptoCard : Claim7 := { stood := { row := viewInverseUptoRow, standIns := [], harness := (true, "4bfbb077ea3069ecebe83bd8f5f5abe07173a1514fe79e78637423e600ce87ab"), looks := true }, kinds := [], alts := [], laidByText := true, laidKinds := [.data, .data, .data, .data, .sentinel, .sentinel, .listed, .data, .pinned], laidTests := true, laidLooks := .later }
def ViewInverseUptoCardSaid : Prop := Claim7.holds Tryz.pinned (.plain (OpenSpec.upto viewInverseSpec)) viewInverseUptoCard

/-- THE SECOND FORM's CARD OF 'lapwinglaw21.ViewChain'. -/
def viewChainUptoCard : Claim7 := { stood := { row := viewChainUptoRow, standIns := [], harness := (true, "4bfbb077ea3069ecebe83bd8f5f5abe07173a1514fe79e78637423e600ce87ab"), looks := true }, kinds := [], alts := [], laidByText := true, laidKinds := [.data, .data, .data, .data, .sentinel, .sentinel, .listed, .data, .pinned], laidTests := true, laidLooks := .later }
def ViewChainUptoCardSaid : Prop := Claim7.holds Tryz.pinned (.plain (OpenSpec.upto viewChainSpec)) viewChainUptoCard

/-- THE SECOND FORM's CARD OF 'lapwinglaw21.ViewPlain'. -/
def viewPlainUptoCard : Claim7 := { stood := { row := viewPlainUptoRow, standIns := [], harness := (true, "4bfbb077ea3069ecebe83bd8f5f5abe07173a1514fe79e78637423e600ce87ab"), looks := true }, kinds := [], alts := [], laidByText := true, laidKinds := [.data, .data, .data, .data, .sentinel, .sentinel, .listed, .data, .pinned], laidTests := true, laidLooks := .later }
def ViewPlainUptoCardSaid : Prop := Claim7.holds Tryz.pinned (.plain (OpenSpec.upto viewPlainSpec)) viewPlainUptoCard

/-- THE SECOND FORM's CARD OF 'lapwinglaw21.ViewAll'. -/
def viewAllUptoCard : Claim7 := { stood := { row := viewAllUptoRow, standIns := [], harness := (true, "4bfbb077ea3069ecebe83bd8f5f5abe07173a1514fe79e78637423e600ce87ab"), looks := true }, kinds := [], alts := [], laidByText := true, laidKinds := [.data, .data, .data, .data, .sentinel, .sentinel, .listed, .data, .pinned], laidTests := true, laidLooks := .later }
def ViewAllUptoCardSaid : Prop := Claim7.holds Tryz.pinned (.plain (OpenSpec.upto viewAllSpec)) viewAllUptoCard
end Rows
end Go.Proofs.YtkaphbmifenkbaaGreatDoor
