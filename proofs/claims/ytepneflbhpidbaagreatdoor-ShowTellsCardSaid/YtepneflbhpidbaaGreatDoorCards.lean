/-
  DERIVED. GIVEN WITH THE SEED: THE CARDS: each row of YtepneflbhpidbaaGreatDoorRows.lean that lists a variable, with what it lists TIED to the program's text (the seventh form; the later family's looks); each row that meets fmt, with fmt's text TOLD by the authors' own Lean function (tested against real Go, not proved from fmt's source: count such statements apart). THE CARD IS WHAT COUNTS. Prove the row's statement (the work); the ties are given (YtepneflbhpidbaaGreatDoorTie.lean); close each card by the builder's one call (the guide's Derived/Test/ToyasCard.lean, 'card_holds'). Laid BY PROGRAM, IN A SANDBOX (cutbox-door.mjs). By AI agents, Wed Nov 11 2026. No macro, syntax, notation, axiom, sorry.
-/
import Derived.Test.YtepneflbhpidbaaGreatDoorRows
import GoSem.ClaimSeven
namespace Go.Proofs.YtepneflbhpidbaaGreatDoor
namespace Rows

/-- THE TIED CARD OF 'avocetlaw10.SchemaCopies'. -/
def schemaCopiesCard : Claim7 := { stood := { row := schemaCopiesRow, standIns := [], harness := (true, "e513235263a6f13a156f6d56858605886908136b5887be318ed4eef34300f248"), looks := false }, kinds := [], alts := [], laidByText := true, laidKinds := [.data], laidTests := true, laidLooks := .later }
def SchemaCopiesCardSaid : Prop := Claim7.holds Tryz.pinned (.plain (OpenSpec.ofChange schemaCopiesSpec)) schemaCopiesCard

/-- THE TIED CARD OF 'avocetlaw11.ValueAsks'. -/
def valueAsksCard : Claim7 := { stood := { row := valueAsksRow, standIns := [], harness := (true, "e513235263a6f13a156f6d56858605886908136b5887be318ed4eef34300f248"), looks := false }, kinds := [], alts := [], laidByText := true, laidKinds := [.data], laidTests := true, laidLooks := .later }
def ValueAsksCardSaid : Prop := Claim7.holds Tryz.pinned (.plain (OpenSpec.ofChange valueAsksSpec)) valueAsksCard

/-- THE TIED CARD OF 'avocetlaw17.ShowTells'. -/
def showTellsCard : Claim7 := { stood := { row := showTellsRow, standIns := [], harness := (true, "e513235263a6f13a156f6d56858605886908136b5887be318ed4eef34300f248"), looks := false }, kinds := [], alts := [], laidByText := true, laidKinds := [.data], laidTests := true, laidLooks := .later }
def ShowTellsCardSaid : Prop := Claim7.holds Tryz.pinned (.plain (OpenSpec.ofChange showTellsSpec)) showTellsCard

/-- THE TIED CARD OF 'avocetlaw20.SkipReads'. -/
def skipReadsCard : Claim7 := { stood := { row := skipReadsRow, standIns := [], harness := (true, "e513235263a6f13a156f6d56858605886908136b5887be318ed4eef34300f248"), looks := false }, kinds := [], alts := [], laidByText := true, laidKinds := [.data], laidTests := true, laidLooks := .later }
def SkipReadsCardSaid : Prop := Claim7.holds Tryz.pinned (.plain (OpenSpec.ofChange skipReadsSpec)) skipReadsCard

/-- THE TIED CARD OF 'avocetlaw19.DecodeOne'. -/
def decodeOneCard : Claim7 := { stood := { row := decodeOneRow, standIns := [], harness := (true, "e513235263a6f13a156f6d56858605886908136b5887be318ed4eef34300f248"), looks := false }, kinds := [], alts := [], laidByText := true, laidKinds := [.data], laidTests := true, laidLooks := .later }
def DecodeOneCardSaid : Prop := Claim7.holds Tryz.pinned (.plain (OpenSpec.ofChange decodeOneSpec)) decodeOneCard

/-- THE SECOND FORM's CARD OF 'avocetlaw10.SchemaCopies'. -/
def schemaCopiesUptoCard : Claim7 := { stood := { row := schemaCopiesUptoRow, standIns := [], harness := (true, "e513235263a6f13a156f6d56858605886908136b5887be318ed4eef34300f248"), looks := false }, kinds := [], alts := [], laidByText := true, laidKinds := [.data], laidTests := true, laidLooks := .later }
def SchemaCopiesUptoCardSaid : Prop := Claim7.holds Tryz.pinned (.plain (OpenSpec.upto schemaCopiesSpec)) schemaCopiesUptoCard

/-- THE SECOND FORM's CARD OF 'avocetlaw11.ValueAsks'. -/
def valueAsksUptoCard : Claim7 := { stood := { row := valueAsksUptoRow, standIns := [], harness := (true, "e513235263a6f13a156f6d56858605886908136b5887be318ed4eef34300f248"), looks := false }, kinds := [], alts := [], laidByText := true, laidKinds := [.data], laidTests := true, laidLooks := .later }
def ValueAsksUptoCardSaid : Prop := Claim7.holds Tryz.pinned (.plain (OpenSpec.upto valueAsksSpec)) valueAsksUptoCard

/-- THE SECOND FORM's CARD OF 'avocetlaw17.ShowTells'. -/
def showTellsUptoCard : Claim7 := { stood := { row := showTellsUptoRow, standIns := [], harness := (true, "e513235263a6f13a156f6d56858605886908136b5887be318ed4eef34300f248"), looks := false }, kinds := [], alts := [], laidByText := true, laidKinds := [.data], laidTests := true, laidLooks := .later }
def ShowTellsUptoCardSaid : Prop := Claim7.holds Tryz.pinned (.plain (OpenSpec.upto showTellsSpec)) showTellsUptoCard

/-- THE SECOND FORM's CARD OF 'avocetlaw20.SkipReads'. -/
def skipReadsUptoCard : Claim7 := { stood := { row := skipReadsUptoRow, standIns := [], harness := (true, "e513235263a6f13a156f6d56858605886908136b5887be318ed4eef34300f248"), looks := false }, kinds := [], alts := [], laidByText := true, laidKinds := [.data], laidTests := true, laidLooks := .later }
def SkipReadsUptoCardSaid : Prop := Claim7.holds Tryz.pinned (.plain (OpenSpec.upto skipReadsSpec)) skipReadsUptoCard

/-- THE SECOND FORM's CARD OF 'avocetlaw19.DecodeOne'. -/
def decodeOneUptoCard : Claim7 := { stood := { row := decodeOneUptoRow, standIns := [], harness := (true, "e513235263a6f13a156f6d56858605886908136b5887be318ed4eef34300f248"), looks := false }, kinds := [], alts := [], laidByText := true, laidKinds := [.data], laidTests := true, laidLooks := .later }
def DecodeOneUptoCardSaid : Prop := Claim7.holds Tryz.pinned (.plain (OpenSpec.upto decodeOneSpec)) decodeOneUptoCard
end Rows
end Go.Proofs.YtepneflbhpidbaaGreatDoor
