/-
  DERIVED. GIVEN WITH THE SEED: THE CARDS: each row of YtigfggfbpdhmfaaDoorRows.lean that lists a variable, with what it lists TIED to the program's text (the seventh form; the later family's looks); each row that meets fmt, with fmt's text TOLD by the authors' own Lean function (tested against real Go, not proved from fmt's source: count such statements apart). THE CARD IS WHAT COUNTS. Prove the row's statement (the work); the ties are given (YtigfggfbpdhmfaaDoorTie.lean); close each card by the builder's one call (the guide's Derived/Test/ToyasCard.lean, 'card_holds'). Laid BY PROGRAM, IN A SANDBOX (cutbox-door.mjs). By AI agents, Wed Nov 11 2026. No macro, syntax, notation, axiom, sorry.
-/
import Derived.Test.YtigfggfbpdhmfaaDoorRows
import GoSem.ClaimSeven
namespace Go.Proofs.YtigfggfbpdhmfaaDoor
namespace Rows

/-- THE TIED CARD OF 'lapwinglaw02.UcdForms'. -/
def ucdFormsCard : Claim7 := { stood := { row := ucdFormsRow, standIns := [], harness := (true, "04281d9fca1b4afafab9c826984c70c86bf496820d8678eb5547b43ca991c4c5"), looks := true }, kinds := [], alts := [], laidByText := true, laidKinds := [.data, .data, .data, .data, .sentinel, .sentinel, .listed, .data, .pinned], laidTests := true, laidLooks := .later }
def UcdFormsCardSaid : Prop := Claim7.holds Tryd.pinned (.plain (OpenSpec.ofChange ucdFormsSpec)) ucdFormsCard

/-- THE TIED CARD OF 'lapwinglaw02.UcdPairs'. -/
def ucdPairsCard : Claim7 := { stood := { row := ucdPairsRow, standIns := [], harness := (true, "04281d9fca1b4afafab9c826984c70c86bf496820d8678eb5547b43ca991c4c5"), looks := true }, kinds := [], alts := [], laidByText := true, laidKinds := [.data, .data, .data, .data, .sentinel, .sentinel, .listed, .data, .pinned], laidTests := true, laidLooks := .later }
def UcdPairsCardSaid : Prop := Claim7.holds Tryd.pinned (.plain (OpenSpec.ofChange ucdPairsSpec)) ucdPairsCard

/-- THE TIED CARD OF 'lapwinglaw02.UcdSane'. -/
def ucdSaneCard : Claim7 := { stood := { row := ucdSaneRow, standIns := [], harness := (true, "04281d9fca1b4afafab9c826984c70c86bf496820d8678eb5547b43ca991c4c5"), looks := true }, kinds := [], alts := [], laidByText := true, laidKinds := [.data, .data, .data, .data, .sentinel, .sentinel, .listed, .data, .pinned], laidTests := true, laidLooks := .later }
def UcdSaneCardSaid : Prop := Claim7.holds Tryd.pinned (.plain (OpenSpec.ofChange ucdSaneSpec)) ucdSaneCard

/-- THE TIED CARD OF 'lapwinglaw02.UcdLigature'. -/
def ucdLigatureCard : Claim7 := { stood := { row := ucdLigatureRow, standIns := [], harness := (true, "04281d9fca1b4afafab9c826984c70c86bf496820d8678eb5547b43ca991c4c5"), looks := true }, kinds := [], alts := [], laidByText := true, laidKinds := [.data, .data, .data, .data, .sentinel, .sentinel, .listed, .data, .pinned], laidTests := true, laidLooks := .later }
def UcdLigatureCardSaid : Prop := Claim7.holds Tryd.pinned (.plain (OpenSpec.ofChange ucdLigatureSpec)) ucdLigatureCard

/-- THE TIED CARD OF 'lapwinglaw02.UcdWide'. -/
def ucdWideCard : Claim7 := { stood := { row := ucdWideRow, standIns := [], harness := (true, "04281d9fca1b4afafab9c826984c70c86bf496820d8678eb5547b43ca991c4c5"), looks := true }, kinds := [], alts := [], laidByText := true, laidKinds := [.data, .data, .data, .data, .sentinel, .sentinel, .listed, .data, .pinned], laidTests := true, laidLooks := .later }
def UcdWideCardSaid : Prop := Claim7.holds Tryd.pinned (.plain (OpenSpec.ofChange ucdWideSpec)) ucdWideCard

/-- THE TIED CARD OF 'lapwinglaw19.OrderReset'. -/
def orderResetCard : Claim7 := { stood := { row := orderResetRow, standIns := [], harness := (true, "04281d9fca1b4afafab9c826984c70c86bf496820d8678eb5547b43ca991c4c5"), looks := true }, kinds := [], alts := [], laidByText := true, laidKinds := [.data, .data, .data, .data, .sentinel, .sentinel, .listed, .data, .pinned], laidTests := true, laidLooks := .later }
def OrderResetCardSaid : Prop := Claim7.holds Tryd.pinned (.plain (OpenSpec.ofChange orderResetSpec)) orderResetCard

/-- THE TIED CARD OF 'lapwinglaw20.ShapeJoins'. -/
def shapeJoinsCard : Claim7 := { stood := { row := shapeJoinsRow, standIns := [], harness := (true, "04281d9fca1b4afafab9c826984c70c86bf496820d8678eb5547b43ca991c4c5"), looks := true }, kinds := [], alts := [], laidByText := true, laidKinds := [.data, .data, .data, .data, .sentinel, .sentinel, .listed, .data, .pinned], laidTests := true, laidLooks := .later }
def ShapeJoinsCardSaid : Prop := Claim7.holds Tryd.pinned (.plain (OpenSpec.ofChange shapeJoinsSpec)) shapeJoinsCard

/-- THE TIED CARD OF 'lapwinglaw20.ShapeKeeps'. -/
def shapeKeepsCard : Claim7 := { stood := { row := shapeKeepsRow, standIns := [], harness := (true, "04281d9fca1b4afafab9c826984c70c86bf496820d8678eb5547b43ca991c4c5"), looks := true }, kinds := [], alts := [], laidByText := true, laidKinds := [.data, .data, .data, .data, .sentinel, .sentinel, .listed, .data, .pinned], laidTests := true, laidLooks := .later }
def ShapeKeepsCardSaid : Prop := Claim7.holds Tryd.pinned (.plain (OpenSpec.ofChange shapeKeepsSpec)) shapeKeepsCard

/-- THE TIED CARD OF 'lapwinglaw20.ShapeMirrors'. -/
def shapeMirrorsCard : Claim7 := { stood := { row := shapeMirrorsRow, standIns := [], harness := (true, "04281d9fca1b4afafab9c826984c70c86bf496820d8678eb5547b43ca991c4c5"), looks := true }, kinds := [], alts := [], laidByText := true, laidKinds := [.data, .data, .data, .data, .sentinel, .sentinel, .listed, .data, .pinned], laidTests := true, laidLooks := .later }
def ShapeMirrorsCardSaid : Prop := Claim7.holds Tryd.pinned (.plain (OpenSpec.ofChange shapeMirrorsSpec)) shapeMirrorsCard

/-- THE TIED CARD OF 'lapwinglaw20.ShapeApart'. -/
def shapeApartCard : Claim7 := { stood := { row := shapeApartRow, standIns := [], harness := (true, "04281d9fca1b4afafab9c826984c70c86bf496820d8678eb5547b43ca991c4c5"), looks := true }, kinds := [], alts := [], laidByText := true, laidKinds := [.data, .data, .data, .data, .sentinel, .sentinel, .listed, .data, .pinned], laidTests := true, laidLooks := .later }
def ShapeApartCardSaid : Prop := Claim7.holds Tryd.pinned (.plain (OpenSpec.ofChange shapeApartSpec)) shapeApartCard

/-- THE TIED CARD OF 'lapwinglaw20.ShapePass'. -/
def shapePassCard : Claim7 := { stood := { row := shapePassRow, standIns := [], harness := (true, "04281d9fca1b4afafab9c826984c70c86bf496820d8678eb5547b43ca991c4c5"), looks := true }, kinds := [], alts := [], laidByText := true, laidKinds := [.data, .data, .data, .data, .sentinel, .sentinel, .listed, .data, .pinned], laidTests := true, laidLooks := .later }
def ShapePassCardSaid : Prop := Claim7.holds Tryd.pinned (.plain (OpenSpec.ofChange shapePassSpec)) shapePassCard

/-- THE SECOND FORM's CARD OF 'lapwinglaw02.UcdForms'. -/
def ucdFormsUptoCard : Claim7 := { stood := { row := ucdFormsUptoRow, standIns := [], harness := (true, "04281d9fca1b4afafab9c826984c70c86bf496820d8678eb5547b43ca991c4c5"), looks := true }, kinds := [], alts := [], laidByText := true, laidKinds := [.data, .data, .data, .data, .sentinel, .sentinel, .listed, .data, .pinned], laidTests := true, laidLooks := .later }
def UcdFormsUptoCardSaid : Prop := Claim7.holds Tryd.pinned (.plain (OpenSpec.upto ucdFormsSpec)) ucdFormsUptoCard

/-- THE SECOND FORM's CARD OF 'lapwinglaw02.UcdPairs'. -/
def ucdPairsUptoCard : Claim7 := { stood := { row := ucdPairsUptoRow, standIns := [], harness := (true, "04281d9fca1b4afafab9c826984c70c86bf496820d8678eb5547b43ca991c4c5"), looks := true }, kinds := [], alts := [], laidByText := true, laidKinds := [.data, .data, .data, .data, .sentinel, .sentinel, .listed, .data, .pinned], laidTests := true, laidLooks := .later }
def UcdPairsUptoCardSaid : Prop := Claim7.holds Tryd.pinned (.plain (OpenSpec.upto ucdPairsSpec)) ucdPairsUptoCard

/-- THE SECOND FORM's CARD OF 'lapwinglaw02.UcdSane'. -/
def ucdSaneUptoCard : Claim7 := { stood := { row := ucdSaneUptoRow, standIns := [], harness := (true, "04281d9fca1b4afafab9c826984c70c86bf496820d8678eb5547b43ca991c4c5"), looks := true }, kinds := [], alts := [], laidByText := true, laidKinds := [.data, .data, .data, .data, .sentinel, .sentinel, .listed, .data, .pinned], laidTests := true, laidLooks := .later }
def UcdSaneUptoCardSaid : Prop := Claim7.holds Tryd.pinned (.plain (OpenSpec.upto ucdSaneSpec)) ucdSaneUptoCard

/-- THE SECOND FORM's CARD OF 'lapwinglaw02.UcdLigature'. -/
def ucdLigatureUptoCard : Claim7 := { stood := { row := ucdLigatureUptoRow, standIns := [], harness := (true, "04281d9fca1b4afafab9c826984c70c86bf496820d8678eb5547b43ca991c4c5"), looks := true }, kinds := [], alts := [], laidByText := true, laidKinds := [.data, .data, .data, .data, .sentinel, .sentinel, .listed, .data, .pinned], laidTests := true, laidLooks := .later }
def UcdLigatureUptoCardSaid : Prop := Claim7.holds Tryd.pinned (.plain (OpenSpec.upto ucdLigatureSpec)) ucdLigatureUptoCard

/-- THE SECOND FORM's CARD OF 'lapwinglaw02.UcdWide'. -/
def ucdWideUptoCard : Claim7 := { stood := { row := ucdWideUptoRow, standIns := [], harness := (true, "04281d9fca1b4afafab9c826984c70c86bf496820d8678eb5547b43ca991c4c5"), looks := true }, kinds := [], alts := [], laidByText := true, laidKinds := [.data, .data, .data, .data, .sentinel, .sentinel, .listed, .data, .pinned], laidTests := true, laidLooks := .later }
def UcdWideUptoCardSaid : Prop := Claim7.holds Tryd.pinned (.plain (OpenSpec.upto ucdWideSpec)) ucdWideUptoCard

/-- THE SECOND FORM's CARD OF 'lapwinglaw19.OrderReset'. -/
def orderResetUptoCard : Claim7 := { stood := { row := orderResetUptoRow, standIns := [], harness := (true, "04281d9fca1b4afafab9c826984c70c86bf496820d8678eb5547b43ca991c4c5"), looks := true }, kinds := [], alts := [], laidByText := true, laidKinds := [.data, .data, .data, .data, .sentinel, .sentinel, .listed, .data, .pinned], laidTests := true, laidLooks := .later }
def OrderResetUptoCardSaid : Prop := Claim7.holds Tryd.pinned (.plain (OpenSpec.upto orderResetSpec)) orderResetUptoCard

/-- THE SECOND FORM's CARD OF 'lapwinglaw20.ShapeJoins'. -/
def shapeJoinsUptoCard : Claim7 := { stood := { row := shapeJoinsUptoRow, standIns := [], harness := (true, "04281d9fca1b4afafab9c826984c70c86bf496820d8678eb5547b43ca991c4c5"), looks := true }, kinds := [], alts := [], laidByText := true, laidKinds := [.data, .data, .data, .data, .sentinel, .sentinel, .listed, .data, .pinned], laidTests := true, laidLooks := .later }
def ShapeJoinsUptoCardSaid : Prop := Claim7.holds Tryd.pinned (.plain (OpenSpec.upto shapeJoinsSpec)) shapeJoinsUptoCard

/-- THE SECOND FORM's CARD OF 'lapwinglaw20.ShapeKeeps'. -/
def shapeKeepsUptoCard : Claim7 := { stood := { row := shapeKeepsUptoRow, standIns := [], harness := (true, "04281d9fca1b4afafab9c826984c70c86bf496820d8678eb5547b43ca991c4c5"), looks := true }, kinds := [], alts := [], laidByText := true, laidKinds := [.data, .data, .data, .data, .sentinel, .sentinel, .listed, .data, .pinned], laidTests := true, laidLooks := .later }
def ShapeKeepsUptoCardSaid : Prop := Claim7.holds Tryd.pinned (.plain (OpenSpec.upto shapeKeepsSpec)) shapeKeepsUptoCard

/-- THE SECOND FORM's CARD OF 'lapwinglaw20.ShapeMirrors'. -/
def shapeMirrorsUptoCard : Claim7 := { stood := { row := shapeMirrorsUptoRow, standIns := [], harness := (true, "04281d9fca1b4afafab9c826984c70c86bf496820d8678eb5547b43ca991c4c5"), looks := true }, kinds := [], alts := [], laidByText := true, laidKinds := [.data, .data, .data, .data, .sentinel, .sentinel, .listed, .data, .pinned], laidTests := true, laidLooks := .later }
def ShapeMirrorsUptoCardSaid : Prop := Claim7.holds Tryd.pinned (.plain (OpenSpec.upto shapeMirrorsSpec)) shapeMirrorsUptoCard

/-- THE SECOND FORM's CARD OF 'lapwinglaw20.ShapeApart'. -/
def shapeApartUptoCard : Claim7 := { stood := { row := shapeApartUptoRow, standIns := [], harness := (true, "04281d9fca1b4afafab9c826984c70c86bf496820d8678eb5547b43ca991c4c5"), looks := true }, kinds := [], alts := [], laidByText := true, laidKinds := [.data, .data, .data, .data, .sentinel, .sentinel, .listed, .data, .pinned], laidTests := true, laidLooks := .later }
def ShapeApartUptoCardSaid : Prop := Claim7.holds Tryd.pinned (.plain (OpenSpec.upto shapeApartSpec)) shapeApartUptoCard

/-- THE SECOND FORM's CARD OF 'lapwinglaw20.ShapePass'. -/
def shapePassUptoCard : Claim7 := { stood := { row := shapePassUptoRow, standIns := [], harness := (true, "04281d9fca1b4afafab9c826984c70c86bf496820d8678eb5547b43ca991c4c5"), looks := true }, kinds := [], alts := [], laidByText := true, laidKinds := [.data, .data, .data, .data, .sentinel, .sentinel, .listed, .data, .pinned], laidTests := true, laidLooks := .later }
def ShapePassUptoCardSaid : Prop := Claim7.holds Tryd.pinned (.plain (OpenSpec.upto shapePassSpec)) shapePassUptoCard
end Rows
end Go.Proofs.YtigfggfbpdhmfaaDoor
