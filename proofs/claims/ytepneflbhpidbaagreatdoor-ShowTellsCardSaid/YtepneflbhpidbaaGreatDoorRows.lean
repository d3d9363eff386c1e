/-
  NARROWER THAN 'FOR EVERY INPUT', by the rows' own cells (each row's printed sentence says how): SchemaCopies: loops, laid · ValueAsks: loops, laid · ShowTells: loops, laid · SkipReads: loops, laid · DecodeOne: loops, laid.
  DERIVED. THE GIVEN ROWS OF THIS SEAT. 5 by the template 'for every input the law returns true; each argument reads behind the call as it read before'; 0 by the template 'total and deterministic' (their statements: YtepneflbhpidbaaGreatDoorTotals.lean).
  GIVEN WITH THE SEED: the statements are not yours to turn. If you find one false, say at which input.
  Laid BY PROGRAM, IN A SANDBOX (cutbox-rows.mjs): the forced cells as the released guide's own fill.sh prints them over the translation 4b6e90c8ed3ac112… (all of the seat's roots in one cut). By AI agents, Wed Nov 11 2026. No macro, syntax, notation, axiom, sorry.
-/
import Derived.Test.YtepneflbhpidbaaGreatDoorChecked
import GoSem.Claim
import GoSem.ClaimJoined
import GoSem.ClaimMapViews
import Derived.JoinedTies
import Derived.KernelRfl
namespace Go.Proofs.YtepneflbhpidbaaGreatDoor
/- THE CELL 'sum', in the pinned program and in every row, IS THE sha256 OF THE DUMP (.gsa) THAT YtepneflbhpidbaaGreatDoorProg.lean LOADS. Nothing in Lean hashes anything: it is a label: what it is worth is what the hold of that sum in a sandbox is worth. -/
noncomputable def Tryz.pinned : Pinned := { name := "ytepneflbhpidbaagreatdoor", sum := "4b6e90c8ed3ac112822f208674c7f316d87c38f127a2414aaea55214bc00f066", checked := Tryz.checked }
namespace Rows
def none {H : Type} : Left H := { results := [], args := [] }

/- WHAT THE LISTED PACKAGE-LEVEL VARIABLES READ AS WHEN THE CALL BEGINS. Each datum BY PROGRAM (the guide's laid-datum.mjs) off the statement by which the dump's own 'gosem.cut.vars' lays the variable. In a bare row this is a premise. The card (YtepneflbhpidbaaGreatDoorCards.lean) ties it to the program's text. -/
def laid_avocet_naming_words {H : Type} : DataW H := .agg [.lit (.string []), .lit (.string [110, 117, 108, 108]), .lit (.string [98, 111, 111, 108, 101, 97, 110]), .lit (.string [105, 110, 116]), .lit (.string [108, 111, 110, 103]), .lit (.string [102, 108, 111, 97, 116]), .lit (.string [100, 111, 117, 98, 108, 101]), .lit (.string [98, 121, 116, 101, 115]), .lit (.string [115, 116, 114, 105, 110, 103]), .lit (.string [114, 101, 99, 111, 114, 100]), .lit (.string [101, 110, 117, 109]), .lit (.string [97, 114, 114, 97, 121]), .lit (.string [109, 97, 112]), .lit (.string []), .lit (.string [102, 105, 120, 101, 100])]

/-- 'avocetlaw10.SchemaCopies': WHATEVER THE INPUT: true; the input reads as it did. -/
def schemaCopiesSpec : ChangeSpec := { name := "schemaCopies", fn := fun _ => fun
  | [d] => { results := [.lit (.bool true)], args := [d] }
  | _ => none }
def schemaCopiesRow : OpenClaim := { program := "ytepneflbhpidbaagreatdoor", sum := "4b6e90c8ed3ac112822f208674c7f316d87c38f127a2414aaea55214bc00f066", func := "avocet/avocetlaw10.SchemaCopies", spec := "schemaCopies", inPlace := ["internal/bytealg.IndexByteString", "internal/bytealg.IndexString"], unfollowed := true, recurses := true, named := ["internal/bytealg.MaxLen", "avocet/naming.words"], loops := true, apart := false, laid := [("avocet/naming.words", laid_avocet_naming_words)] }
def SchemaCopiesSaid : Prop := schemaCopiesRow.holds Tryz.pinned (OpenSpec.ofChange schemaCopiesSpec)

/-- ITS FALSE NEIGHBOUR: 'it returns false'. Refute it at one input. -/
def schemaCopiesWrong : ChangeSpec := { name := "schemaCopies", fn := fun _ => fun
  | [d] => { results := [.lit (.bool false)], args := [d] }
  | _ => none }
def SchemaCopiesWrongFalsely : Prop := schemaCopiesRow.holds Tryz.pinned (OpenSpec.ofChange schemaCopiesWrong)

/-- 'avocetlaw11.ValueAsks': WHATEVER THE INPUT: true; the input reads as it did. -/
def valueAsksSpec : ChangeSpec := { name := "valueAsks", fn := fun _ => fun
  | [d1, d2] => { results := [.lit (.bool true)], args := [d1, d2] }
  | _ => none }
def valueAsksRow : OpenClaim := { program := "ytepneflbhpidbaagreatdoor", sum := "4b6e90c8ed3ac112822f208674c7f316d87c38f127a2414aaea55214bc00f066", func := "avocet/avocetlaw11.ValueAsks", spec := "valueAsks", inPlace := ["internal/bytealg.IndexByteString", "internal/bytealg.IndexString"], unfollowed := true, recurses := true, named := ["internal/bytealg.MaxLen", "avocet/naming.words"], loops := true, apart := false, laid := [("avocet/naming.words", laid_avocet_naming_words)] }
def ValueAsksSaid : Prop := valueAsksRow.holds Tryz.pinned (OpenSpec.ofChange valueAsksSpec)

/-- ITS FALSE NEIGHBOUR: 'it returns false'. Refute it at one input. -/
def valueAsksWrong : ChangeSpec := { name := "valueAsks", fn := fun _ => fun
  | [d1, d2] => { results := [.lit (.bool false)], args := [d1, d2] }
  | _ => none }
def ValueAsksWrongFalsely : Prop := valueAsksRow.holds Tryz.pinned (OpenSpec.ofChange valueAsksWrong)

/-- 'avocetlaw17.ShowTells': WHATEVER THE INPUT: true; the input reads as it did. -/
def showTellsSpec : ChangeSpec := { name := "showTells", fn := fun _ => fun
  | [d] => { results := [.lit (.bool true)], args := [d] }
  | _ => none }
def showTellsRow : OpenClaim := { program := "ytepneflbhpidbaagreatdoor", sum := "4b6e90c8ed3ac112822f208674c7f316d87c38f127a2414aaea55214bc00f066", func := "avocet/avocetlaw17.ShowTells", spec := "showTells", inPlace := ["internal/bytealg.IndexByteString", "internal/bytealg.IndexString", "internal/abi.NoEscape"], unfollowed := true, recurses := true, named := ["internal/bytealg.MaxLen", "avocet/naming.words"], loops := true, apart := false, laid := [("avocet/naming.words", laid_avocet_naming_words)] }
def ShowTellsSaid : Prop := showTellsRow.holds Tryz.pinned (OpenSpec.ofChange showTellsSpec)

/-- ITS FALSE NEIGHBOUR: 'it returns false'. Refute it at one input. -/
def showTellsWrong : ChangeSpec := { name := "showTells", fn := fun _ => fun
  | [d] => { results := [.lit (.bool false)], args := [d] }
  | _ => none }
def ShowTellsWrongFalsely : Prop := showTellsRow.holds Tryz.pinned (OpenSpec.ofChange showTellsWrong)

/-- 'avocetlaw20.SkipReads': WHATEVER THE INPUT: true; the input reads as it did. -/
def skipReadsSpec : ChangeSpec := { name := "skipReads", fn := fun _ => fun
  | [d1, d2, d3, d4] => { results := [.lit (.bool true)], args := [d1, d2, d3, d4] }
  | _ => none }
def skipReadsRow : OpenClaim := { program := "ytepneflbhpidbaagreatdoor", sum := "4b6e90c8ed3ac112822f208674c7f316d87c38f127a2414aaea55214bc00f066", func := "avocet/avocetlaw20.SkipReads", spec := "skipReads", inPlace := ["internal/bytealg.IndexByteString", "internal/bytealg.IndexString"], unfollowed := true, recurses := true, named := ["internal/bytealg.MaxLen", "avocet/naming.words"], loops := true, apart := false, laid := [("avocet/naming.words", laid_avocet_naming_words)] }
def SkipReadsSaid : Prop := skipReadsRow.holds Tryz.pinned (OpenSpec.ofChange skipReadsSpec)

/-- ITS FALSE NEIGHBOUR: 'it returns false'. Refute it at one input. -/
def skipReadsWrong : ChangeSpec := { name := "skipReads", fn := fun _ => fun
  | [d1, d2, d3, d4] => { results := [.lit (.bool false)], args := [d1, d2, d3, d4] }
  | _ => none }
def SkipReadsWrongFalsely : Prop := skipReadsRow.holds Tryz.pinned (OpenSpec.ofChange skipReadsWrong)

/-- 'avocetlaw19.DecodeOne': WHATEVER THE INPUT: true; the input reads as it did. -/
def decodeOneSpec : ChangeSpec := { name := "decodeOne", fn := fun _ => fun
  | [d1, d2, d3, d4] => { results := [.lit (.bool true)], args := [d1, d2, d3, d4] }
  | _ => none }
def decodeOneRow : OpenClaim := { program := "ytepneflbhpidbaagreatdoor", sum := "4b6e90c8ed3ac112822f208674c7f316d87c38f127a2414aaea55214bc00f066", func := "avocet/avocetlaw19.DecodeOne", spec := "decodeOne", inPlace := ["internal/bytealg.IndexByteString", "internal/bytealg.IndexString"], unfollowed := true, recurses := true, named := ["internal/bytealg.MaxLen", "avocet/naming.words"], loops := true, apart := false, laid := [("avocet/naming.words", laid_avocet_naming_words)] }
def DecodeOneSaid : Prop := decodeOneRow.holds Tryz.pinned (OpenSpec.ofChange decodeOneSpec)

/-- ITS FALSE NEIGHBOUR: 'it returns false'. Refute it at one input. -/
def decodeOneWrong : ChangeSpec := { name := "decodeOne", fn := fun _ => fun
  | [d1, d2, d3, d4] => { results := [.lit (.bool false)], args := [d1, d2, d3, d4] }
  | _ => none }
def DecodeOneWrongFalsely : Prop := decodeOneRow.holds Tryz.pinned (OpenSpec.ofChange decodeOneWrong)

/- THE SECOND FORM. 'bulk': how many values and letters a reading holds, each counted each time it is reached (what is shared counts as often as it is met; a slice's spare places count too). A statement '..UptoSaid' is the law's where the arguments, and the package variables that the reading takes, are together of bulk at most 1048576: NARROWER than '..Said'. Prove '..Said' where nothing that the law and all that it calls make is longer than what came in: it says more and counts as full. Else prove '..UptoSaid'. A law counts once. -/
mutual
def uptoBulk {H : Type} : DataW H → Nat
  | .lit (.string bytes) => bytes.length + 1
  | .lit _ => 1
  | .nil => 1
  | .ptr d => uptoBulk d + 1
  | .slice elems spare => uptoBulkAll elems + uptoBulkAll spare + 1
  | .agg parts => uptoBulkAll parts + 1
  | .iface _ d => uptoBulk d + 1
  | .map entries => uptoBulkEntries entries + 1
  | .held _ => 1
def uptoBulkAll {H : Type} : List (DataW H) → Nat
  | [] => 0
  | d :: r => uptoBulk d + uptoBulkAll r
def uptoBulkEntries {H : Type} : List (Lit × DataW H) → Nat
  | [] => 0
  | x :: r => uptoBulkEntry x + uptoBulkEntries r
def uptoBulkEntry {H : Type} : Lit × DataW H → Nat
  | (.string bytes, d) => bytes.length + uptoBulk d + 1
  | (_, d) => uptoBulk d + 1
 end
def uptoSmall : (H : Type) → List (DataW H) → Bool := fun _ ds => decide (uptoBulkAll ds ≤ 1048576)
def OpenSpec.upto (s : _root_.Go.ChangeSpec) : _root_.Go.OpenSpec := { _root_.Go.OpenSpec.ofChange s with cond := some uptoSmall }

/-- 'avocetlaw10.SchemaCopies', WHERE WHAT IT READS IS OF BULK AT MOST 1048576: true; the input reads as it did. -/
def schemaCopiesUptoRow : OpenClaim := { program := "ytepneflbhpidbaagreatdoor", sum := "4b6e90c8ed3ac112822f208674c7f316d87c38f127a2414aaea55214bc00f066", func := "avocet/avocetlaw10.SchemaCopies", spec := "schemaCopies", inPlace := ["internal/bytealg.IndexByteString", "internal/bytealg.IndexString"], unfollowed := true, recurses := true, named := ["internal/bytealg.MaxLen", "avocet/naming.words"], loops := true, apart := false, laid := [("avocet/naming.words", laid_avocet_naming_words)], narrowed := true }
def SchemaCopiesUptoSaid : Prop := schemaCopiesUptoRow.holds Tryz.pinned (OpenSpec.upto schemaCopiesSpec)

/-- 'avocetlaw11.ValueAsks', WHERE WHAT IT READS IS OF BULK AT MOST 1048576: true; the input reads as it did. -/
def valueAsksUptoRow : OpenClaim := { program := "ytepneflbhpidbaagreatdoor", sum := "4b6e90c8ed3ac112822f208674c7f316d87c38f127a2414aaea55214bc00f066", func := "avocet/avocetlaw11.ValueAsks", spec := "valueAsks", inPlace := ["internal/bytealg.IndexByteString", "internal/bytealg.IndexString"], unfollowed := true, recurses := true, named := ["internal/bytealg.MaxLen", "avocet/naming.words"], loops := true, apart := false, laid := [("avocet/naming.words", laid_avocet_naming_words)], narrowed := true }
def ValueAsksUptoSaid : Prop := valueAsksUptoRow.holds Tryz.pinned (OpenSpec.upto valueAsksSpec)

/-- 'avocetlaw17.ShowTells', WHERE WHAT IT READS IS OF BULK AT MOST 1048576: true; the input reads as it did. -/
def showTellsUptoRow : OpenClaim := { program := "ytepneflbhpidbaagreatdoor", sum := "4b6e90c8ed3ac112822f208674c7f316d87c38f127a2414aaea55214bc00f066", func := "avocet/avocetlaw17.ShowTells", spec := "showTells", inPlace := ["internal/bytealg.IndexByteString", "internal/bytealg.IndexString", "internal/abi.NoEscape"], unfollowed := true, recurses := true, named := ["internal/bytealg.MaxLen", "avocet/naming.words"], loops := true, apart := false, laid := [("avocet/naming.words", laid_avocet_naming_words)], narrowed := true }
def ShowTellsUptoSaid : Prop := showTellsUptoRow.holds Tryz.pinned (OpenSpec.upto showTellsSpec)

/-- 'avocetlaw20.SkipReads', WHERE WHAT IT READS IS OF BULK AT MOST 1048576: true; the input reads as it did. -/
def skipReadsUptoRow : OpenClaim := { program := "ytepneflbhpidbaagreatdoor", sum := "4b6e90c8ed3ac112822f208674c7f316d87c38f127a2414aaea55214bc00f066", func := "avocet/avocetlaw20.SkipReads", spec := "skipReads", inPlace := ["internal/bytealg.IndexByteString", "internal/bytealg.IndexString"], unfollowed := true, recurses := true, named := ["internal/bytealg.MaxLen", "avocet/naming.words"], loops := true, apart := false, laid := [("avocet/naming.words", laid_avocet_naming_words)], narrowed := true }
def SkipReadsUptoSaid : Prop := skipReadsUptoRow.holds Tryz.pinned (OpenSpec.upto skipReadsSpec)

/-- 'avocetlaw19.DecodeOne', WHERE WHAT IT READS IS OF BULK AT MOST 1048576: true; the input reads as it did. -/
def decodeOneUptoRow : OpenClaim := { program := "ytepneflbhpidbaagreatdoor", sum := "4b6e90c8ed3ac112822f208674c7f316d87c38f127a2414aaea55214bc00f066", func := "avocet/avocetlaw19.DecodeOne", spec := "decodeOne", inPlace := ["internal/bytealg.IndexByteString", "internal/bytealg.IndexString"], unfollowed := true, recurses := true, named := ["internal/bytealg.MaxLen", "avocet/naming.words"], loops := true, apart := false, laid := [("avocet/naming.words", laid_avocet_naming_words)], narrowed := true }
def DecodeOneUptoSaid : Prop := decodeOneUptoRow.holds Tryz.pinned (OpenSpec.upto decodeOneSpec)

end Rows
end Go.Proofs.YtepneflbhpidbaaGreatDoor
