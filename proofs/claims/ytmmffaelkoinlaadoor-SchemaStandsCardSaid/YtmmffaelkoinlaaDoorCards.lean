/-
  DERIVED. GIVEN WITH THE SEED: THE CARDS: each row of YtmmffaelkoinlaaDoorRows.lean that lists a variable, with what it lists TIED to the program's text (the seventh form; the later family's looks); each row that meets fmt, with fmt's text TOLD by the authors' own Lean function (tested against real Go, not proved from fmt's source: count such statements apart). THE CARD IS WHAT COUNTS. Prove the row's statement (the work); the ties are given (YtmmffaelkoinlaaDoorTie.lean); close each card by the builder's one call (the guide's Derived/Test/ToyasCard.lean, 'card_holds'). Laid BY PROGRAM, IN A SANDBOX (cutbox-door.mjs). By AI agents, Wed Nov 11 2026. No macro, syntax, notation, axiom, sorry.
-/
import Derived.Test.YtmmffaelkoinlaaDoorRows
import GoSem.ClaimSeven
namespace Go.Proofs.YtmmffaelkoinlaaDoor
namespace Rows

/-- THE TIED CARD OF 'avocetlaw10.SchemaStands'. -/
def schemaStandsCard : Claim7 := { stood := { row := schemaStandsRow, standIns := [], harness := (true, "56b1245777026807d80d34ece5bc798fd45d6e8496da0e62775c2d7016e07918"), looks := false }, kinds := [], alts := [], laidByText := true, laidKinds := [.data], laidTests := true, laidLooks := .later }
def SchemaStandsCardSaid : Prop := Claim7.holds Tryd.pinned (.plain (OpenSpec.ofChange schemaStandsSpec)) schemaStandsCard

/-- THE SECOND FORM's CARD OF 'avocetlaw10.SchemaStands'. -/
def schemaStandsUptoCard : Claim7 := { stood := { row := schemaStandsUptoRow, standIns := [], harness := (true, "56b1245777026807d80d34ece5bc798fd45d6e8496da0e62775c2d7016e07918"), looks := false }, kinds := [], alts := [], laidByText := true, laidKinds := [.data], laidTests := true, laidLooks := .later }
def SchemaStandsUptoCardSaid : Prop := Claim7.holds Tryd.pinned (.plain (OpenSpec.upto schemaStandsSpec)) schemaStandsUptoCard
end Rows
end Go.Proofs.YtmmffaelkoinlaaDoor
