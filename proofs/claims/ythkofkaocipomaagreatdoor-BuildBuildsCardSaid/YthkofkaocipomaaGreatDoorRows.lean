/-
  NARROWER THAN 'FOR EVERY INPUT', by the rows' own cells (each row's printed sentence says how): BuildBuilds: loops, laid · BuildWords: laid · BuildNames: laid · BuildRight: loops, laid · ProjectPicks: laid · LoadLoads: laid · LoadSound: loops, laid · LoadWhite: laid.
  DERIVED. THE GIVEN ROWS OF THIS SEAT. 8 by the template 'for every input the law returns true; each argument reads behind the call as it read before'; 0 by the template 'total and deterministic' (their statements: YthkofkaocipomaaGreatDoorTotals.lean).
  GIVEN WITH THE SEED: the statements are not yours to turn. If you find one false, say at which input.
  Laid BY PROGRAM, IN A SANDBOX (cutbox-rows.mjs): the forced cells as the released guide's own fill.sh prints them over the translation 1702b453bf8a0453… (all of the seat's roots in one cut). By AI agents, Wed Nov 11 2026. No macro, syntax, notation, axiom, sorry.
-/
import Derived.Test.YthkofkaocipomaaGreatDoorChecked
import GoSem.Claim
import GoSem.ClaimJoined
import GoSem.ClaimMapViews
import Derived.JoinedTies
import Derived.KernelRfl
namespace Go.Proofs.YthkofkaocipomaaGreatDoor
/- THE CELL 'sum', in the pinned program and in every row, IS THE sha256 OF THE DUMP (.gsa) THAT YthkofkaocipomaaGreatDoorProg.lean LOADS. Nothing in Lean hashes anything: it is a label: what it is worth is what the hold of that sum in a sandbox is worth. -/
noncomputable def Tryz.pinned : Pinned := { name := "ythkofkaocipomaagreatdoor", sum := "1702b453bf8a0453eb95d6b6debd1d9fcfa29826b7bd9d631c6968be9aafc2da", checked := Tryz.checked }
namespace Rows
def none {H : Type} : Left H := { results := [], args := [] }

/- WHAT THE LISTED PACKAGE-LEVEL VARIABLES READ AS WHEN THE CALL BEGINS. Each datum BY PROGRAM (the guide's laid-datum.mjs) off the statement by which the dump's own 'gosem.cut.vars' lays the variable. In a bare row this is a premise. The card (YthkofkaocipomaaGreatDoorCards.lean) ties it to the program's text. -/
def laid_avocet_naming_words {H : Type} : DataW H := .agg [.lit (.string []), .lit (.string [110, 117, 108, 108]), .lit (.string [98, 111, 111, 108, 101, 97, 110]), .lit (.string [105, 110, 116]), .lit (.string [108, 111, 110, 103]), .lit (.string [102, 108, 111, 97, 116]), .lit (.string [100, 111, 117, 98, 108, 101]), .lit (.string [98, 121, 116, 101, 115]), .lit (.string [115, 116, 114, 105, 110, 103]), .lit (.string [114, 101, 99, 111, 114, 100]), .lit (.string [101, 110, 117, 109]), .lit (.string [97, 114, 114, 97, 121]), .lit (.string [109, 97, 112]), .lit (.string []), .lit (.string [102, 105, 120, 101, 100])]

/-- 'avocetlaw12.BuildBuilds': WHATEVER THE INPUT: true; the input reads as it did. -/
def buildBuildsSpec : ChangeSpec := { name := "buildBuilds", fn := fun _ => fun
  | [d] => { results := [.lit (.bool true)], args := [d] }
  | _ => none }
def buildBuildsRow : OpenClaim := { program := "ythkofkaocipomaagreatdoor", sum := "1702b453bf8a0453eb95d6b6debd1d9fcfa29826b7bd9d631c6968be9aafc2da", func := "avocet/avocetlaw12.BuildBuilds", spec := "buildBuilds", inPlace := ["internal/bytealg.IndexByteString", "internal/bytealg.IndexString"], unfollowed := true, recurses := true, named := ["avocet/naming.words", "internal/bytealg.MaxLen"], loops := true, plainKeys := false, apart := false, laid := [("avocet/naming.words", laid_avocet_naming_words)] }
def BuildBuildsSaid : Prop := buildBuildsRow.holds Tryz.pinned (OpenSpec.ofChange buildBuildsSpec)

/-- ITS FALSE NEIGHBOUR: 'it returns false'. Refute it at one input. -/
def buildBuildsWrong : ChangeSpec := { name := "buildBuilds", fn := fun _ => fun
  | [d] => { results := [.lit (.bool false)], args := [d] }
  | _ => none }
def BuildBuildsWrongFalsely : Prop := buildBuildsRow.holds Tryz.pinned (OpenSpec.ofChange buildBuildsWrong)

/-- 'avocetlaw12.BuildWords': WHATEVER THE INPUT: true; the input reads as it did. -/
def buildWordsSpec : ChangeSpec := { name := "buildWords", fn := fun _ => fun
  | [d] => { results := [.lit (.bool true)], args := [d] }
  | _ => none }
def buildWordsRow : OpenClaim := { program := "ythkofkaocipomaagreatdoor", sum := "1702b453bf8a0453eb95d6b6debd1d9fcfa29826b7bd9d631c6968be9aafc2da", func := "avocet/avocetlaw12.BuildWords", spec := "buildWords", inPlace := ["internal/bytealg.IndexByteString", "internal/bytealg.IndexString"], unfollowed := true, recurses := true, named := ["avocet/naming.words", "internal/bytealg.MaxLen"], plainKeys := false, apart := false, laid := [("avocet/naming.words", laid_avocet_naming_words)] }
def BuildWordsSaid : Prop := buildWordsRow.holds Tryz.pinned (OpenSpec.ofChange buildWordsSpec)

/-- ITS FALSE NEIGHBOUR: 'it returns false'. Refute it at one input. -/
def buildWordsWrong : ChangeSpec := { name := "buildWords", fn := fun _ => fun
  | [d] => { results := [.lit (.bool false)], args := [d] }
  | _ => none }
def BuildWordsWrongFalsely : Prop := buildWordsRow.holds Tryz.pinned (OpenSpec.ofChange buildWordsWrong)

/-- 'avocetlaw12.BuildNames': WHATEVER THE INPUT: true; the input reads as it did. -/
def buildNamesSpec : ChangeSpec := { name := "buildNames", fn := fun _ => fun
  | [d1, d2] => { results := [.lit (.bool true)], args := [d1, d2] }
  | _ => none }
def buildNamesRow : OpenClaim := { program := "ythkofkaocipomaagreatdoor", sum := "1702b453bf8a0453eb95d6b6debd1d9fcfa29826b7bd9d631c6968be9aafc2da", func := "avocet/avocetlaw12.BuildNames", spec := "buildNames", inPlace := ["internal/bytealg.IndexByteString", "internal/bytealg.IndexString"], unfollowed := true, recurses := true, named := ["avocet/naming.words", "internal/bytealg.MaxLen"], plainKeys := false, apart := false, laid := [("avocet/naming.words", laid_avocet_naming_words)] }
def BuildNamesSaid : Prop := buildNamesRow.holds Tryz.pinned (OpenSpec.ofChange buildNamesSpec)

/-- ITS FALSE NEIGHBOUR: 'it returns false'. Refute it at one input. -/
def buildNamesWrong : ChangeSpec := { name := "buildNames", fn := fun _ => fun
  | [d1, d2] => { results := [.lit (.bool false)], args := [d1, d2] }
  | _ => none }
def BuildNamesWrongFalsely : Prop := buildNamesRow.holds Tryz.pinned (OpenSpec.ofChange buildNamesWrong)

/-- 'avocetlaw12.BuildRight': WHATEVER THE INPUT: true; the input reads as it did. -/
def buildRightSpec : ChangeSpec := { name := "buildRight", fn := fun _ => fun
  | [d] => { results := [.lit (.bool true)], args := [d] }
  | _ => none }
def buildRightRow : OpenClaim := { program := "ythkofkaocipomaagreatdoor", sum := "1702b453bf8a0453eb95d6b6debd1d9fcfa29826b7bd9d631c6968be9aafc2da", func := "avocet/avocetlaw12.BuildRight", spec := "buildRight", inPlace := ["internal/bytealg.IndexByteString", "internal/bytealg.IndexString"], unfollowed := true, recurses := true, named := ["avocet/naming.words", "internal/bytealg.MaxLen"], loops := true, plainKeys := false, apart := false, laid := [("avocet/naming.words", laid_avocet_naming_words)] }
def BuildRightSaid : Prop := buildRightRow.holds Tryz.pinned (OpenSpec.ofChange buildRightSpec)

/-- ITS FALSE NEIGHBOUR: 'it returns false'. Refute it at one input. -/
def buildRightWrong : ChangeSpec := { name := "buildRight", fn := fun _ => fun
  | [d] => { results := [.lit (.bool false)], args := [d] }
  | _ => none }
def BuildRightWrongFalsely : Prop := buildRightRow.holds Tryz.pinned (OpenSpec.ofChange buildRightWrong)

/-- 'avocetlaw22.ProjectPicks': WHATEVER THE INPUT: true; the input reads as it did. -/
def projectPicksSpec : ChangeSpec := { name := "projectPicks", fn := fun _ => fun
  | [d1, d2, d3, d4] => { results := [.lit (.bool true)], args := [d1, d2, d3, d4] }
  | _ => none }
def projectPicksRow : OpenClaim := { program := "ythkofkaocipomaagreatdoor", sum := "1702b453bf8a0453eb95d6b6debd1d9fcfa29826b7bd9d631c6968be9aafc2da", func := "avocet/avocetlaw22.ProjectPicks", spec := "projectPicks", inPlace := ["internal/bytealg.IndexByteString", "internal/bytealg.IndexString"], unfollowed := true, recurses := true, named := ["internal/bytealg.MaxLen", "avocet/naming.words"], plainKeys := false, apart := false, laid := [("avocet/naming.words", laid_avocet_naming_words)] }
def ProjectPicksSaid : Prop := projectPicksRow.holds Tryz.pinned (OpenSpec.ofChange projectPicksSpec)

/-- ITS FALSE NEIGHBOUR: 'it returns false'. Refute it at one input. -/
def projectPicksWrong : ChangeSpec := { name := "projectPicks", fn := fun _ => fun
  | [d1, d2, d3, d4] => { results := [.lit (.bool false)], args := [d1, d2, d3, d4] }
  | _ => none }
def ProjectPicksWrongFalsely : Prop := projectPicksRow.holds Tryz.pinned (OpenSpec.ofChange projectPicksWrong)

/-- 'avocetlaw14.LoadLoads': WHATEVER THE INPUT: true; the input reads as it did. -/
def loadLoadsSpec : ChangeSpec := { name := "loadLoads", fn := fun _ => fun
  | [d] => { results := [.lit (.bool true)], args := [d] }
  | _ => none }
def loadLoadsRow : OpenClaim := { program := "ythkofkaocipomaagreatdoor", sum := "1702b453bf8a0453eb95d6b6debd1d9fcfa29826b7bd9d631c6968be9aafc2da", func := "avocet/avocetlaw14.LoadLoads", spec := "loadLoads", inPlace := ["internal/bytealg.IndexByteString", "internal/bytealg.IndexString", "math.Float32bits", "math.Float64bits"], unfollowed := true, recurses := true, named := ["avocet/naming.words", "internal/bytealg.MaxLen"], plainKeys := false, apart := false, laid := [("avocet/naming.words", laid_avocet_naming_words)] }
def LoadLoadsSaid : Prop := loadLoadsRow.holds Tryz.pinned (OpenSpec.ofChange loadLoadsSpec)

/-- ITS FALSE NEIGHBOUR: 'it returns false'. Refute it at one input. -/
def loadLoadsWrong : ChangeSpec := { name := "loadLoads", fn := fun _ => fun
  | [d] => { results := [.lit (.bool false)], args := [d] }
  | _ => none }
def LoadLoadsWrongFalsely : Prop := loadLoadsRow.holds Tryz.pinned (OpenSpec.ofChange loadLoadsWrong)

/-- 'avocetlaw14.LoadSound': WHATEVER THE INPUT: true; the input reads as it did. -/
def loadSoundSpec : ChangeSpec := { name := "loadSound", fn := fun _ => fun
  | [d] => { results := [.lit (.bool true)], args := [d] }
  | _ => none }
def loadSoundRow : OpenClaim := { program := "ythkofkaocipomaagreatdoor", sum := "1702b453bf8a0453eb95d6b6debd1d9fcfa29826b7bd9d631c6968be9aafc2da", func := "avocet/avocetlaw14.LoadSound", spec := "loadSound", inPlace := ["internal/bytealg.IndexByteString", "internal/bytealg.IndexString", "math.Float32bits", "math.Float64bits"], unfollowed := true, recurses := true, named := ["internal/bytealg.MaxLen", "avocet/naming.words"], loops := true, plainKeys := false, apart := false, laid := [("avocet/naming.words", laid_avocet_naming_words)] }
def LoadSoundSaid : Prop := loadSoundRow.holds Tryz.pinned (OpenSpec.ofChange loadSoundSpec)

/-- ITS FALSE NEIGHBOUR: 'it returns false'. Refute it at one input. -/
def loadSoundWrong : ChangeSpec := { name := "loadSound", fn := fun _ => fun
  | [d] => { results := [.lit (.bool false)], args := [d] }
  | _ => none }
def LoadSoundWrongFalsely : Prop := loadSoundRow.holds Tryz.pinned (OpenSpec.ofChange loadSoundWrong)

/-- 'avocetlaw14.LoadWhite': WHATEVER THE INPUT: true; the input reads as it did. -/
def loadWhiteSpec : ChangeSpec := { name := "loadWhite", fn := fun _ => fun
  | [d1, d2, d3] => { results := [.lit (.bool true)], args := [d1, d2, d3] }
  | _ => none }
def loadWhiteRow : OpenClaim := { program := "ythkofkaocipomaagreatdoor", sum := "1702b453bf8a0453eb95d6b6debd1d9fcfa29826b7bd9d631c6968be9aafc2da", func := "avocet/avocetlaw14.LoadWhite", spec := "loadWhite", inPlace := ["internal/bytealg.IndexByteString", "internal/bytealg.IndexString"], unfollowed := true, recurses := true, named := ["avocet/naming.words", "internal/bytealg.MaxLen"], plainKeys := false, apart := false, laid := [("avocet/naming.words", laid_avocet_naming_words)] }
def LoadWhiteSaid : Prop := loadWhiteRow.holds Tryz.pinned (OpenSpec.ofChange loadWhiteSpec)

/-- ITS FALSE NEIGHBOUR: 'it returns false'. Refute it at one input. -/
def loadWhiteWrong : ChangeSpec := { name := "loadWhite", fn := fun _ => fun
  | [d1, d2, d3] => { results := [.lit (.bool false)], args := [d1, d2, d3] }
  | _ => none }
def LoadWhiteWrongFalsely : Prop := loadWhiteRow.holds Tryz.pinned (OpenSpec.ofChange loadWhiteWrong)

/- THE SECOND FORM. 'bulk': how many values and letters a reading holds, each counted each time it is reached (what is shared counts as often as it is met; a slice's spare places count too). A statement '..UptoSaid' is the law's where the arguments, and the package variables that the reading takes, are together of bulk at most 1048576: NARROWER than '..Said'. Prove '..Said' where nothing that the law and all that it calls make is longer than what came in: it says more and counts as full. Else prove '..UptoSaid'. A law counts once. -/
mutual
def uptoBulk {H : Type} : DataW H → Nat
  | .lit (.string bytes) => bytes.length + 1
  | .lit _ => 1
  | .nil => 1
  | .ptr d => uptoBulk d + 1
  | .slice elems spare => uptoBulkAll elems + uptoBulkAll spare + 1
  | .agg parts => uptoBulkAll parts + 1
  | .iface _ d => uptoBulk d + 1
  | .map entries => uptoBulkEntries entries + 1
  | .held _ => 1
def uptoBulkAll {H : Type} : List (DataW H) → Nat
  | [] => 0
  | d :: r => uptoBulk d + uptoBulkAll r
def uptoBulkEntries {H : Type} : List (Lit × DataW H) → Nat
  | [] => 0
  | x :: r => uptoBulkEntry x + uptoBulkEntries r
def uptoBulkEntry {H : Type} : Lit × DataW H → Nat
  | (.string bytes, d) => bytes.length + uptoBulk d + 1
  | (_, d) => uptoBulk d + 1
 end
def uptoSmall : (H : Type) → List (DataW H) → Bool := fun _ ds => decide (uptoBulkAll ds ≤ 1048576)
def OpenSpec.upto (s : _root_.Go.ChangeSpec) : _root_.Go.OpenSpec := { _root_.Go.OpenSpec.ofChange s with cond := some uptoSmall }

/-- 'avocetlaw12.BuildBuilds', WHERE WHAT IT READS IS OF BULK AT MOST 1048576: true; the input reads as it did. -/
def buildBuildsUptoRow : OpenClaim := { program := "ythkofkaocipomaagreatdoor", sum := "1702b453bf8a0453eb95d6b6debd1d9fcfa29826b7bd9d631c6968be9aafc2da", func := "avocet/avocetlaw12.BuildBuilds", spec := "buildBuilds", inPlace := ["internal/bytealg.IndexByteString", "internal/bytealg.IndexString"], unfollowed := true, recurses := true, named := ["avocet/naming.words", "internal/bytealg.MaxLen"], loops := true, plainKeys := false, apart := false, laid := [("avocet/naming.words", laid_avocet_naming_words)], narrowed := true }
def BuildBuildsUptoSaid : Prop := buildBuildsUptoRow.holds Tryz.pinned (OpenSpec.upto buildBuildsSpec)

/-- 'avocetlaw12.BuildWords', WHERE WHAT IT READS IS OF BULK AT MOST 1048576: true; the input reads as it did. -/
def buildWordsUptoRow : OpenClaim := { program := "ythkofkaocipomaagreatdoor", sum := "1702b453bf8a0453eb95d6b6debd1d9fcfa29826b7bd9d631c6968be9aafc2da", func := "avocet/avocetlaw12.BuildWords", spec := "buildWords", inPlace := ["internal/bytealg.IndexByteString", "internal/bytealg.IndexString"], unfollowed := true, recurses := true, named := ["avocet/naming.words", "internal/bytealg.MaxLen"], plainKeys := false, apart := false, laid := [("avocet/naming.words", laid_avocet_naming_words)], narrowed := true }
def BuildWordsUptoSaid : Prop := buildWordsUptoRow.holds Tryz.pinned (OpenSpec.upto buildWordsSpec)

/-- 'avocetlaw12.BuildNames', WHERE WHAT IT READS IS OF BULK AT MOST 1048576: true; the input reads as it did. -/
def buildNamesUptoRow : OpenClaim := { program := "ythkofkaocipomaagreatdoor", sum := "1702b453bf8a0453eb95d6b6debd1d9fcfa29826b7bd9d631c6968be9aafc2da", func := "avocet/avocetlaw12.BuildNames", spec := "buildNames", inPlace := ["internal/bytealg.IndexByteString", "internal/bytealg.IndexString"], unfollowed := true, recurses := true, named := ["avocet/naming.words", "internal/bytealg.MaxLen"], plainKeys := false, apart := false, laid := [("avocet/naming.words", laid_avocet_naming_words)], narrowed := true }
def BuildNamesUptoSaid : Prop := buildNamesUptoRow.holds Tryz.pinned (OpenSpec.upto buildNamesSpec)

/-- 'avocetlaw12.BuildRight', WHERE WHAT IT READS IS OF BULK AT MOST 1048576: true; the input reads as it did. -/
def buildRightUptoRow : OpenClaim := { program := "ythkofkaocipomaagreatdoor", sum := "1702b453bf8a0453eb95d6b6debd1d9fcfa29826b7bd9d631c6968be9aafc2da", func := "avocet/avocetlaw12.BuildRight", spec := "buildRight", inPlace := ["internal/bytealg.IndexByteString", "internal/bytealg.IndexString"], unfollowed := true, recurses := true, named := ["avocet/naming.words", "internal/bytealg.MaxLen"], loops := true, plainKeys := false, apart := false, laid := [("avocet/naming.words", laid_avocet_naming_words)], narrowed := true }
def BuildRightUptoSaid : Prop := buildRightUptoRow.holds Tryz.pinned (OpenSpec.upto buildRightSpec)

/-- 'avocetlaw22.ProjectPicks', WHERE WHAT IT READS IS OF BULK AT MOST 1048576: true; the input reads as it did. -/
def projectPicksUptoRow : OpenClaim := { program := "ythkofkaocipomaagreatdoor", sum := "1702b453bf8a0453eb95d6b6debd1d9fcfa29826b7bd9d631c6968be9aafc2da", func := "avocet/avocetlaw22.ProjectPicks", spec := "projectPicks", inPlace := ["internal/bytealg.IndexByteString", "internal/bytealg.IndexString"], unfollowed := true, recurses := true, named := ["internal/bytealg.MaxLen", "avocet/naming.words"], plainKeys := false, apart := false, laid := [("avocet/naming.words", laid_avocet_naming_words)], narrowed := true }
def ProjectPicksUptoSaid : Prop := projectPicksUptoRow.holds Tryz.pinned (OpenSpec.upto projectPicksSpec)

/-- 'avocetlaw14.LoadLoads', WHERE WHAT IT READS IS OF BULK AT MOST 1048576: true; the input reads as it did. -/
def loadLoadsUptoRow : OpenClaim := { program := "ythkofkaocipomaagreatdoor", sum := "1702b453bf8a0453eb95d6b6debd1d9fcfa29826b7bd9d631c6968be9aafc2da", func := "avocet/avocetlaw14.LoadLoads", spec := "loadLoads", inPlace := ["internal/bytealg.IndexByteString", "internal/bytealg.IndexString", "math.Float32bits", "math.Float64bits"], unfollowed := true, recurses := true, named := ["avocet/naming.words", "internal/bytealg.MaxLen"], plainKeys := false, apart := false, laid := [("avocet/naming.words", laid_avocet_naming_words)], narrowed := true }
def LoadLoadsUptoSaid : Prop := loadLoadsUptoRow.holds Tryz.pinned (OpenSpec.upto loadLoadsSpec)

/-- 'avocetlaw14.LoadSound', WHERE WHAT IT READS IS OF BULK AT MOST 1048576: true; the input reads as it did. -/
def loadSoundUptoRow : OpenClaim := { program := "ythkofkaocipomaagreatdoor", sum := "1702b453bf8a0453eb95d6b6debd1d9fcfa29826b7bd9d631c6968be9aafc2da", func := "avocet/avocetlaw14.LoadSound", spec := "loadSound", inPlace := ["internal/bytealg.IndexByteString", "internal/bytealg.IndexString", "math.Float32bits", "math.Float64bits"], unfollowed := true, recurses := true, named := ["internal/bytealg.MaxLen", "avocet/naming.words"], loops := true, plainKeys := false, apart := false, laid := [("avocet/naming.words", laid_avocet_naming_words)], narrowed := true }
def LoadSoundUptoSaid : Prop := loadSoundUptoRow.holds Tryz.pinned (OpenSpec.upto loadSoundSpec)

/-- 'avocetlaw14.LoadWhite', WHERE WHAT IT READS IS OF BULK AT MOST 1048576: true; the input reads as it did. -/
def loadWhiteUptoRow : OpenClaim := { program := "ythkofkaocipomaagreatdoor", sum := "1702b453bf8a0453eb95d6b6debd1d9fcfa29826b7bd9d631c6968be9aafc2da", func := "avocet/avocetlaw14.LoadWhite", spec := "loadWhite", inPlace := ["internal/bytealg.IndexByteString", "internal/bytealg.IndexString"], unfollowed := true, recurses := true, named := ["avocet/naming.words", "internal/bytealg.MaxLen"], plainKeys := false, apart := false, laid := [("avocet/naming.words", laid_avocet_naming_words)], narrowed := true }
def LoadWhiteUptoSaid : Prop := loadWhiteUptoRow.holds Tryz.pinned (OpenSpec.upto loadWhiteSpec)

end Rows
end Go.Proofs.YthkofkaocipomaaGreatDoor
