/-
  DERIVED. GIVEN WITH THE SEED: THE CARDS: each row of YtmooihlndkgdaaaGreatDoorRows.lean that lists a variable, with what it lists TIED to the program's text (the seventh form; the later family's looks); each row that meets fmt, with fmt's text TOLD by the authors' own Lean function (tested against real Go, not proved from fmt's source: count such statements apart). THE CARD IS WHAT COUNTS. Prove the row's statement (the work); the ties are given (YtmooihlndkgdaaaGreatDoorTie.lean); close each card by the builder's one call (the guide's Derived/Test/ToyasCard.lean, 'card_holds'). Laid BY PROGRAM, IN A SANDBOX (cutbox-door.mjs). By AI agents, Wed Nov 11 2026. No macro, syntax, notation, axiom, sorry.
-/
import Derived.Test.YtmooihlndkgdaaaGreatDoorRows
import GoSem.ClaimSeven
namespace Go.Proofs.YtmooihlndkgdaaaGreatDoor
namespace Rows

/-- THE TIED CARD OF 'avocetlaw10.SchemaCopies'. -/
def schemaCopiesCard : Claim7 := { stood := { row := schemaCopiesRow, standIns := [], harness := (true, "70f41708a427ca8c052c85b764194aa6b5b313ac294053cbe9082684b27345c4"), looks := false }, kinds := [], alts := [], laidByText := true, laidKinds := [.data], laidTests := true, laidLooks := .later }
def SchemaCopiesCardSaid : Prop := Claim7.holds Tryz.pinned (.plain (OpenSpec.ofChange schemaCopiesSpec)) schemaCopiesCard

/-- THE TIED CARD OF 'avocetlaw11.ValueConforms'. -/
def valueConformsCard : Claim7 := { stood := { row := valueConformsRow, standIns := [], harness := (true, "70f41708a427ca8c052c85b764194aa6b5b313ac294053cbe9082684b27345c4"), looks := false }, kinds := [], alts := [], laidByText := true, laidKinds := [.data], laidTests := true, laidLooks := .later }
def ValueConformsCardSaid : Prop := Claim7.holds Tryz.pinned (.plain (OpenSpec.ofChange valueConformsSpec)) valueConformsCard

/-- THE TIED CARD OF 'avocetlaw11.ValueAsks'. -/
def valueAsksCard : Claim7 := { stood := { row := valueAsksRow, standIns := [], harness := (true, "70f41708a427ca8c052c85b764194aa6b5b313ac294053cbe9082684b27345c4"), looks := false }, kinds := [], alts := [], laidByText := true, laidKinds := [.data], laidTests := true, laidLooks := .later }
def ValueAsksCardSaid : Prop := Claim7.holds Tryz.pinned (.plain (OpenSpec.ofChange valueAsksSpec)) valueAsksCard

/-- THE TIED CARD OF 'avocetlaw11.ValueParts'. -/
def valuePartsCard : Claim7 := { stood := { row := valuePartsRow, standIns := [], harness := (true, "70f41708a427ca8c052c85b764194aa6b5b313ac294053cbe9082684b27345c4"), looks := false }, kinds := [], alts := [], laidByText := true, laidKinds := [.data], laidTests := true, laidLooks := .later }
def ValuePartsCardSaid : Prop := Claim7.holds Tryz.pinned (.plain (OpenSpec.ofChange valuePartsSpec)) valuePartsCard

/-- THE TIED CARD OF 'avocetlaw16.FingerSchemas'. -/
def fingerSchemasCard : Claim7 := { stood := { row := fingerSchemasRow, standIns := [], harness := (true, "70f41708a427ca8c052c85b764194aa6b5b313ac294053cbe9082684b27345c4"), looks := false }, kinds := [], alts := [], laidByText := true, laidKinds := [.data], laidTests := true, laidLooks := .later }
def FingerSchemasCardSaid : Prop := Claim7.holds Tryz.pinned (.plain (OpenSpec.ofChange fingerSchemasSpec)) fingerSchemasCard

/-- THE TIED CARD OF 'avocetlaw18.EncodeParts'. -/
def encodePartsCard : Claim7 := { stood := { row := encodePartsRow, standIns := [], harness := (true, "70f41708a427ca8c052c85b764194aa6b5b313ac294053cbe9082684b27345c4"), looks := false }, kinds := [], alts := [], laidByText := true, laidKinds := [.data], laidTests := true, laidLooks := .later }
def EncodePartsCardSaid : Prop := Claim7.holds Tryz.pinned (.plain (OpenSpec.ofChange encodePartsSpec)) encodePartsCard

/-- THE TIED CARD OF 'avocetlaw18.EncodeOne'. -/
def encodeOneCard : Claim7 := { stood := { row := encodeOneRow, standIns := [], harness := (true, "70f41708a427ca8c052c85b764194aa6b5b313ac294053cbe9082684b27345c4"), looks := false }, kinds := [], alts := [], laidByText := true, laidKinds := [.data], laidTests := true, laidLooks := .later }
def EncodeOneCardSaid : Prop := Claim7.holds Tryz.pinned (.plain (OpenSpec.ofChange encodeOneSpec)) encodeOneCard

/-- THE TIED CARD OF 'avocetlaw13.DfltSays'. -/
def dfltSaysCard : Claim7 := { stood := { row := dfltSaysRow, standIns := [], harness := (true, "70f41708a427ca8c052c85b764194aa6b5b313ac294053cbe9082684b27345c4"), looks := false }, kinds := [], alts := [], laidByText := true, laidKinds := [.data], laidTests := true, laidLooks := .later }
def DfltSaysCardSaid : Prop := Claim7.holds Tryz.pinned (.plain (OpenSpec.ofChange dfltSaysSpec)) dfltSaysCard

/-- THE TIED CARD OF 'avocetlaw13.DfltFields'. -/
def dfltFieldsCard : Claim7 := { stood := { row := dfltFieldsRow, standIns := [], harness := (true, "70f41708a427ca8c052c85b764194aa6b5b313ac294053cbe9082684b27345c4"), looks := false }, kinds := [], alts := [], laidByText := true, laidKinds := [.data], laidTests := true, laidLooks := .later }
def DfltFieldsCardSaid : Prop := Claim7.holds Tryz.pinned (.plain (OpenSpec.ofChange dfltFieldsSpec)) dfltFieldsCard

/-- THE TIED CARD OF 'avocetlaw13.DfltValues'. -/
def dfltValuesCard : Claim7 := { stood := { row := dfltValuesRow, standIns := [], harness := (true, "70f41708a427ca8c052c85b764194aa6b5b313ac294053cbe9082684b27345c4"), looks := false }, kinds := [], alts := [], laidByText := true, laidKinds := [.data], laidTests := true, laidLooks := .later }
def DfltValuesCardSaid : Prop := Claim7.holds Tryz.pinned (.plain (OpenSpec.ofChange dfltValuesSpec)) dfltValuesCard

/-- THE SECOND FORM's CARD OF 'avocetlaw10.SchemaCopies'. -/
def schemaCopiesUptoCard : Claim7 := { stood := { row := schemaCopiesUptoRow, standIns := [], harness := (true, "70f41708a427ca8c052c85b764194aa6b5b313ac294053cbe9082684b27345c4"), looks := false }, kinds := [], alts := [], laidByText := true, laidKinds := [.data], laidTests := true, laidLooks := .later }
def SchemaCopiesUptoCardSaid : Prop := Claim7.holds Tryz.pinned (.plain (OpenSpec.upto schemaCopiesSpec)) schemaCopiesUptoCard

/-- THE SECOND FORM's CARD OF 'avocetlaw11.ValueConforms'. -/
def valueConformsUptoCard : Claim7 := { stood := { row := valueConformsUptoRow, standIns := [], harness := (true, "70f41708a427ca8c052c85b764194aa6b5b313ac294053cbe9082684b27345c4"), looks := false }, kinds := [], alts := [], laidByText := true, laidKinds := [.data], laidTests := true, laidLooks := .later }
def ValueConformsUptoCardSaid : Prop := Claim7.holds Tryz.pinned (.plain (OpenSpec.upto valueConformsSpec)) valueConformsUptoCard

/-- THE SECOND FORM's CARD OF 'avocetlaw11.ValueAsks'. -/
def valueAsksUptoCard : Claim7 := { stood := { row := valueAsksUptoRow, standIns := [], harness := (true, "70f41708a427ca8c052c85b764194aa6b5b313ac294053cbe9082684b27345c4"), looks := false }, kinds := [], alts := [], laidByText := true, laidKinds := [.data], laidTests := true, laidLooks := .later }
def ValueAsksUptoCardSaid : Prop := Claim7.holds Tryz.pinned (.plain (OpenSpec.upto valueAsksSpec)) valueAsksUptoCard

/-- THE SECOND FORM's CARD OF 'avocetlaw11.ValueParts'. -/
def valuePartsUptoCard : Claim7 := { stood := { row := valuePartsUptoRow, standIns := [], harness := (true, "70f41708a427ca8c052c85b764194aa6b5b313ac294053cbe9082684b27345c4"), looks := false }, kinds := [], alts := [], laidByText := true, laidKinds := [.data], laidTests := true, laidLooks := .later }
def ValuePartsUptoCardSaid : Prop := Claim7.holds Tryz.pinned (.plain (OpenSpec.upto valuePartsSpec)) valuePartsUptoCard

/-- THE SECOND FORM's CARD OF 'avocetlaw16.FingerSchemas'. -/
def fingerSchemasUptoCard : Claim7 := { stood := { row := fingerSchemasUptoRow, standIns := [], harness := (true, "70f41708a427ca8c052c85b764194aa6b5b313ac294053cbe9082684b27345c4"), looks := false }, kinds := [], alts := [], laidByText := true, laidKinds := [.data], laidTests := true, laidLooks := .later }
def FingerSchemasUptoCardSaid : Prop := Claim7.holds Tryz.pinned (.plain (OpenSpec.upto fingerSchemasSpec)) fingerSchemasUptoCard

/-- THE SECOND FORM's CARD OF 'avocetlaw18.EncodeParts'. -/
def encodePartsUptoCard : Claim7 := { stood := { row := encodePartsUptoRow, standIns := [], harness := (true, "70f41708a427ca8c052c85b764194aa6b5b313ac294053cbe9082684b27345c4"), looks := false }, kinds := [], alts := [], laidByText := true, laidKinds := [.data], laidTests := true, laidLooks := .later }
def EncodePartsUptoCardSaid : Prop := Claim7.holds Tryz.pinned (.plain (OpenSpec.upto encodePartsSpec)) encodePartsUptoCard

/-- THE SECOND FORM's CARD OF 'avocetlaw18.EncodeOne'. -/
def encodeOneUptoCard : Claim7 := { stood := { row := encodeOneUptoRow, standIns := [], harness := (true, "70f41708a427ca8c052c85b764194aa6b5b313ac294053cbe9082684b27345c4"), looks := false }, kinds := [], alts := [], laidByText := true, laidKinds := [.data], laidTests := true, laidLooks := .later }
def EncodeOneUptoCardSaid : Prop := Claim7.holds Tryz.pinned (.plain (OpenSpec.upto encodeOneSpec)) encodeOneUptoCard

/-- THE SECOND FORM's CARD OF 'avocetlaw13.DfltSays'. -/
def dfltSaysUptoCard : Claim7 := { stood := { row := dfltSaysUptoRow, standIns := [], harness := (true, "70f41708a427ca8c052c85b764194aa6b5b313ac294053cbe9082684b27345c4"), looks := false }, kinds := [], alts := [], laidByText := true, laidKinds := [.data], laidTests := true, laidLooks := .later }
def DfltSaysUptoCardSaid : Prop := Claim7.holds Tryz.pinned (.plain (OpenSpec.upto dfltSaysSpec)) dfltSaysUptoCard

/-- THE SECOND FORM's CARD OF 'avocetlaw13.DfltFields'. -/
def dfltFieldsUptoCard : Claim7 := { stood := { row := dfltFieldsUptoRow, standIns := [], harness := (true, "70f41708a427ca8c052c85b764194aa6b5b313ac294053cbe9082684b27345c4"), looks := false }, kinds := [], alts := [], laidByText := true, laidKinds := [.data], laidTests := true, laidLooks := .later }
def DfltFieldsUptoCardSaid : Prop := Claim7.holds Tryz.pinned (.plain (OpenSpec.upto dfltFieldsSpec)) dfltFieldsUptoCard

/-- THE SECOND FORM's CARD OF 'avocetlaw13.DfltValues'. -/
def dfltValuesUptoCard : Claim7 := { stood := { row := dfltValuesUptoRow, standIns := [], harness := (true, "70f41708a427ca8c052c85b764194aa6b5b313ac294053cbe9082684b27345c4"), looks := false }, kinds := [], alts := [], laidByText := true, laidKinds := [.data], laidTests := true, laidLooks := .later }
def DfltValuesUptoCardSaid : Prop := Claim7.holds Tryz.pinned (.plain (OpenSpec.upto dfltValuesSpec)) dfltValuesUptoCard
end Rows
end Go.Proofs.YtmooihlndkgdaaaGreatDoor
