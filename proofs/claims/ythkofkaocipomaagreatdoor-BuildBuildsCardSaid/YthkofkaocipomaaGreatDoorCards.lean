/-
  DERIVED. GIVEN WITH THE SEED: THE CARDS: each row of YthkofkaocipomaaGreatDoorRows.lean that lists a variable, with what it lists TIED to the program's text (the seventh form; the later family's looks); each row that meets fmt, with fmt's text TOLD by the authors' own Lean function (tested against real Go, not proved from fmt's source: count such statements apart). THE CARD IS WHAT COUNTS. Prove the row's statement (the work); the ties are given (YthkofkaocipomaaGreatDoorTie.lean); close each card by the builder's one call (the guide's Derived/Test/ToyasCard.lean, 'card_holds'). Laid BY PROGRAM, IN A SANDBOX (cutbox-door.mjs). By AI agents, Wed Nov 11 2026. No macro, syntax, notation, axiom, sorry.
-/
import Derived.Test.YthkofkaocipomaaGreatDoorRows
import GoSem.ClaimSeven
namespace Go.Proofs.YthkofkaocipomaaGreatDoor
namespace Rows

/-- THE TIED CARD OF 'avocetlaw12.BuildBuilds'. -/
def buildBuildsCard : Claim7 := { stood := { row := buildBuildsRow, standIns := [], harness := (true, "b3c8cfa69d17a9a0c1d70a72594ed962687f8d6aadd1ff0ce7e3497370000252"), looks := false }, kinds := [], alts := [], laidByText := true, laidKinds := [.data], laidTests := true, laidLooks := .later }
def BuildBuildsCardSaid : Prop := Claim7.holds Tryz.pinned (.plain (OpenSpec.ofChange buildBuildsSpec)) buildBuildsCard

/-- THE TIED CARD OF 'avocetlaw12.BuildWords'. -/
def buildWordsCard : Claim7 := { stood := { row := buildWordsRow, standIns := [], harness := (true, "b3c8cfa69d17a9a0c1d70a72594ed962687f8d6aadd1ff0ce7e3497370000252"), looks := false }, kinds := [], alts := [], laidByText := true, laidKinds := [.data], laidTests := true, laidLooks := .later }
def BuildWordsCardSaid : Prop := Claim7.holds Tryz.pinned (.plain (OpenSpec.ofChange buildWordsSpec)) buildWordsCard

/-- THE TIED CARD OF 'avocetlaw12.BuildNames'. -/
def buildNamesCard : Claim7 := { stood := { row := buildNamesRow, standIns := [], harness := (true, "b3c8cfa69d17a9a0c1d70a72594ed962687f8d6aadd1ff0ce7e3497370000252"), looks := false }, kinds := [], alts := [], laidByText := true, laidKinds := [.data], laidTests := true, laidLooks := .later }
def BuildNamesCardSaid : Prop := Claim7.holds Tryz.pinned (.plain (OpenSpec.ofChange buildNamesSpec)) buildNamesCard

/-- THE TIED CARD OF 'avocetlaw12.BuildRight'. -/
def buildRightCard : Claim7 := { stood := { row := buildRightRow, standIns := [], harness := (true, "b3c8cfa69d17a9a0c1d70a72594ed962687f8d6aadd1ff0ce7e3497370000252"), looks := false }, kinds := [], alts := [], laidByText := true, laidKinds := [.data], laidTests := true, laidLooks := .later }
def BuildRightCardSaid : Prop := Claim7.holds Tryz.pinned (.plain (OpenSpec.ofChange buildRightSpec)) buildRightCard

/-- THE TIED CARD OF 'avocetlaw22.ProjectPicks'. -/
def projectPicksCard : Claim7 := { stood := { row := projectPicksRow, standIns := [], harness := (true, "b3c8cfa69d17a9a0c1d70a72594ed962687f8d6aadd1ff0ce7e3497370000252"), looks := false }, kinds := [], alts := [], laidByText := true, laidKinds := [.data], laidTests := true, laidLooks := .later }
def ProjectPicksCardSaid : Prop := Claim7.holds Tryz.pinned (.plain (OpenSpec.ofChange projectPicksSpec)) projectPicksCard

/-- THE TIED CARD OF 'avocetlaw14.LoadLoads'. -/
def loadLoadsCard : Claim7 := { stood := { row := loadLoadsRow, standIns := [], harness := (true, "b3c8cfa69d17a9a0c1d70a72594ed962687f8d6aadd1ff0ce7e3497370000252"), looks := false }, kinds := [], alts := [], laidByText := true, laidKinds := [.data], laidTests := true, laidLooks := .later }
def LoadLoadsCardSaid : Prop := Claim7.holds Tryz.pinned (.plain (OpenSpec.ofChange loadLoadsSpec)) loadLoadsCard

/-- THE TIED CARD OF 'avocetlaw14.LoadSound'. -/
def loadSoundCard : Claim7 := { stood := { row := loadSoundRow, standIns := [], harness := (true, "b3c8cfa69d17a9a0c1d70a72594ed962687f8d6aadd1ff0ce7e3497370000252"), looks := false }, kinds := [], alts := [], laidByText := true, laidKinds := [.data], laidTests := true, laidLooks := .later }
def LoadSoundCardSaid : Prop := Claim7.holds Tryz.pinned (.plain (OpenSpec.ofChange loadSoundSpec)) loadSoundCard

/-- THE TIED CARD OF 'avocetlaw14.LoadWhite'. -/
def loadWhiteCard : Claim7 := { stood := { row := loadWhiteRow, standIns := [], harness := (true, "b3c8cfa69d17a9a0c1d70a72594ed962687f8d6aadd1ff0ce7e3497370000252"), looks := false }, kinds := [], alts := [], laidByText := true, laidKinds := [.data], laidTests := true, laidLooks := .later }
def LoadWhiteCardSaid : Prop := Claim7.holds Tryz.pinned (.plain (OpenSpec.ofChange loadWhiteSpec)) loadWhiteCard

/-- THE SECOND FORM's CARD OF 'avocetlaw12.BuildBuilds'. -/
def buildBuildsUptoCard : Claim7 := { stood := { row := buildBuildsUptoRow, standIns := [], harness := (true, "b3c8cfa69d17a9a0c1d70a72594ed962687f8d6aadd1ff0ce7e3497370000252"), looks := false }, kinds := [], alts := [], laidByText := true, laidKinds := [.data], laidTests := true, laidLooks := .later }
def BuildBuildsUptoCardSaid : Prop := Claim7.holds Tryz.pinned (.plain (OpenSpec.upto buildBuildsSpec)) buildBuildsUptoCard

/-- THE SECOND FORM's CARD OF 'avocetlaw12.BuildWords'. -/
def buildWordsUptoCard : Claim7 := { stood := { row := buildWordsUptoRow, standIns := [], harness := (true, "b3c8cfa69d17a9a0c1d70a72594ed962687f8d6aadd1ff0ce7e3497370000252"), looks := false }, kinds := [], alts := [], laidByText := true, laidKinds := [.data], laidTests := true, laidLooks := .later }
def BuildWordsUptoCardSaid : Prop := Claim7.holds Tryz.pinned (.plain (OpenSpec.upto buildWordsSpec)) buildWordsUptoCard

/-- THE SECOND FORM's CARD OF 'avocetlaw12.BuildNames'. -/
def buildNamesUptoCard : Claim7 := { stood := { row := buildNamesUptoRow, standIns := [], harness := (true, "b3c8cfa69d17a9a0c1d70a72594ed962687f8d6aadd1ff0ce7e3497370000252"), looks := false }, kinds := [], alts := [], laidByText := true, laidKinds := [.data], laidTests := true, laidLooks := .later }
def BuildNamesUptoCardSaid : Prop := Claim7.holds Tryz.pinned (.plain (OpenSpec.upto buildNamesSpec)) buildNamesUptoCard

/-- THE SECOND FORM's CARD OF 'avocetlaw12.BuildRight'. -/
def buildRightUptoCard : Claim7 := { stood := { row := buildRightUptoRow, standIns := [], harness := (true, "b3c8cfa69d17a9a0c1d70a72594ed962687f8d6aadd1ff0ce7e3497370000252"), looks := false }, kinds := [], alts := [], laidByText := true, laidKinds := [.data], laidTests := true, laidLooks := .later }
def BuildRightUptoCardSaid : Prop := Claim7.holds Tryz.pinned (.plain (OpenSpec.upto buildRightSpec)) buildRightUptoCard

/-- THE SECOND FORM's CARD OF 'avocetlaw22.ProjectPicks'. -/
def projectPicksUptoCard : Claim7 := { stood := { row := projectPicksUptoRow, standIns := [], harness := (true, "b3c8cfa69d17a9a0c1d70a72594ed962687f8d6aadd1ff0ce7e3497370000252"), looks := false }, kinds := [], alts := [], laidByText := true, laidKinds := [.data], laidTests := true, laidLooks := .later }
def ProjectPicksUptoCardSaid : Prop := Claim7.holds Tryz.pinned (.plain (OpenSpec.upto projectPicksSpec)) projectPicksUptoCard

/-- THE SECOND FORM's CARD OF 'avocetlaw14.LoadLoads'. -/
def loadLoadsUptoCard : Claim7 := { stood := { row := loadLoadsUptoRow, standIns := [], harness := (true, "b3c8cfa69d17a9a0c1d70a72594ed962687f8d6aadd1ff0ce7e3497370000252"), looks := false }, kinds := [], alts := [], laidByText := true, laidKinds := [.data], laidTests := true, laidLooks := .later }
def LoadLoadsUptoCardSaid : Prop := Claim7.holds Tryz.pinned (.plain (OpenSpec.upto loadLoadsSpec)) loadLoadsUptoCard

/-- THE SECOND FORM's CARD OF 'avocetlaw14.LoadSound'. -/
def loadSoundUptoCard : Claim7 := { stood := { row := loadSoundUptoRow, standIns := [], harness := (true, "b3c8cfa69d17a9a0c1d70a72594ed962687f8d6aadd1ff0ce7e3497370000252"), looks := false }, kinds := [], alts := [], laidByText := true, laidKinds := [.data], laidTests := true, laidLooks := .later }
def LoadSoundUptoCardSaid : Prop := Claim7.holds Tryz.pinned (.plain (OpenSpec.upto loadSoundSpec)) loadSoundUptoCard

/-- THE SECOND FORM's CARD OF 'avocetlaw14.LoadWhite'. -/
def loadWhiteUptoCard : Claim7 := { stood := { row := loadWhiteUptoRow, standIns := [], harness := (true, "b3c8cfa69d17a9a0c1d70a72594ed962687f8d6aadd1ff0ce7e3497370000252"), looks := false }, kinds := [], alts := [], laidByText := true, laidKinds := [.data], laidTests := true, laidLooks := .later }
def LoadWhiteUptoCardSaid : Prop := Claim7.holds Tryz.pinned (.plain (OpenSpec.upto loadWhiteSpec)) loadWhiteUptoCard
end Rows
end Go.Proofs.YthkofkaocipomaaGreatDoor
