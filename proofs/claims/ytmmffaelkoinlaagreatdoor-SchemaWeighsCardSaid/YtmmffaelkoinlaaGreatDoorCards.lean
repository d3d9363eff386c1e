/-
  DERIVED. GIVEN WITH THE SEED: THE CARDS: each row of YtmmffaelkoinlaaGreatDoorRows.lean that lists a variable, with what it lists TIED to the program's text (the seventh form; the later family's looks); each row that meets fmt, with fmt's text TOLD by the authors' own Lean function (tested against real Go, not proved from fmt's source: count such statements apart). THE CARD IS WHAT COUNTS. Prove the row's statement (the work); the ties are given (YtmmffaelkoinlaaGreatDoorTie.lean); close each card by the builder's one call (the guide's Derived/Test/ToyasCard.lean, 'card_holds'). Laid BY PROGRAM, IN A SANDBOX (cutbox-door.mjs). By AI agents, Wed Nov 11 2026. No macro, syntax, notation, axiom, sorry.
-/
import Derived.Test.YtmmffaelkoinlaaGreatDoorRows
import GoSem.ClaimSeven
namespace Go.Proofs.YtmmffaelkoinlaaGreatDoor
namespace Rows

/-- THE TIED CARD OF 'avocetlaw10.SchemaWeighs'. -/
def schemaWeighsCard : Claim7 := { stood := { row := schemaWeighsRow, standIns := [], harness := (true, "ae3a702f2f6b46f35e702762cf64c0b31451a748d9bb437461d021c1c071aae0"), looks := false }, kinds := [], alts := [], laidByText := true, laidKinds := [.data], laidTests := true, laidLooks := .later }
def SchemaWeighsCardSaid : Prop := Claim7.holds Tryz.pinned (.plain (OpenSpec.ofChange schemaWeighsSpec)) schemaWeighsCard

/-- THE TIED CARD OF 'avocetlaw11.ValueConforms'. -/
def valueConformsCard : Claim7 := { stood := { row := valueConformsRow, standIns := [], harness := (true, "ae3a702f2f6b46f35e702762cf64c0b31451a748d9bb437461d021c1c071aae0"), looks := false }, kinds := [], alts := [], laidByText := true, laidKinds := [.data], laidTests := true, laidLooks := .later }
def ValueConformsCardSaid : Prop := Claim7.holds Tryz.pinned (.plain (OpenSpec.ofChange valueConformsSpec)) valueConformsCard

/-- THE TIED CARD OF 'avocetlaw11.ValueParts'. -/
def valuePartsCard : Claim7 := { stood := { row := valuePartsRow, standIns := [], harness := (true, "ae3a702f2f6b46f35e702762cf64c0b31451a748d9bb437461d021c1c071aae0"), looks := false }, kinds := [], alts := [], laidByText := true, laidKinds := [.data], laidTests := true, laidLooks := .later }
def ValuePartsCardSaid : Prop := Claim7.holds Tryz.pinned (.plain (OpenSpec.ofChange valuePartsSpec)) valuePartsCard

/-- THE TIED CARD OF 'avocetlaw16.FingerSchemas'. -/
def fingerSchemasCard : Claim7 := { stood := { row := fingerSchemasRow, standIns := [], harness := (true, "ae3a702f2f6b46f35e702762cf64c0b31451a748d9bb437461d021c1c071aae0"), looks := false }, kinds := [], alts := [], laidByText := true, laidKinds := [.data], laidTests := true, laidLooks := .later }
def FingerSchemasCardSaid : Prop := Claim7.holds Tryz.pinned (.plain (OpenSpec.ofChange fingerSchemasSpec)) fingerSchemasCard

/-- THE SECOND FORM's CARD OF 'avocetlaw10.SchemaWeighs'. -/
def schemaWeighsUptoCard : Claim7 := { stood := { row := schemaWeighsUptoRow, standIns := [], harness := (true, "ae3a702f2f6b46f35e702762cf64c0b31451a748d9bb437461d021c1c071aae0"), looks := false }, kinds := [], alts := [], laidByText := true, laidKinds := [.data], laidTests := true, laidLooks := .later }
def SchemaWeighsUptoCardSaid : Prop := Claim7.holds Tryz.pinned (.plain (OpenSpec.upto schemaWeighsSpec)) schemaWeighsUptoCard

/-- THE SECOND FORM's CARD OF 'avocetlaw11.ValueConforms'. -/
def valueConformsUptoCard : Claim7 := { stood := { row := valueConformsUptoRow, standIns := [], harness := (true, "ae3a702f2f6b46f35e702762cf64c0b31451a748d9bb437461d021c1c071aae0"), looks := false }, kinds := [], alts := [], laidByText := true, laidKinds := [.data], laidTests := true, laidLooks := .later }
def ValueConformsUptoCardSaid : Prop := Claim7.holds Tryz.pinned (.plain (OpenSpec.upto valueConformsSpec)) valueConformsUptoCard

/-- THE SECOND FORM's CARD OF 'avocetlaw11.ValueParts'. -/
def valuePartsUptoCard : Claim7 := { stood := { row := valuePartsUptoRow, standIns := [], harness := (true, "ae3a702f2f6b46f35e702762cf64c0b31451a748d9bb437461d021c1c071aae0"), looks := false }, kinds := [], alts := [], laidByText := true, laidKinds := [.data], laidTests := true, laidLooks := .later }
def ValuePartsUptoCardSaid : Prop := Claim7.holds Tryz.pinned (.plain (OpenSpec.upto valuePartsSpec)) valuePartsUptoCard

/-- THE SECOND FORM's CARD OF 'avocetlaw16.FingerSchemas'. -/
def fingerSchemasUptoCard : Claim7 := { stood := { row := fingerSchemasUptoRow, standIns := [], harness := (true, "ae3a702f2f6b46f35e702762cf64c0b31451a748d9bb437461d021c1c071aae0"), looks := false }, kinds := [], alts := [], laidByText := true, laidKinds := [.data], laidTests := true, laidLooks := .later }
def FingerSchemasUptoCardSaid : Prop := Claim7.holds Tryz.pinned (.plain (OpenSpec.upto fingerSchemasSpec)) fingerSchemasUptoCard
end Rows
end Go.Proofs.YtmmffaelkoinlaaGreatDoor
