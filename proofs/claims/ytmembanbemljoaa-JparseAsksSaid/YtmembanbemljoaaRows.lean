/-
  NARROWER THAN 'FOR EVERY INPUT', by the rows' own cells (each row's printed sentence says how): JparseAsks: loops.
  DERIVED. THE GIVEN ROWS OF THIS SEAT. 11 by the template 'for every input the law returns true; each argument reads behind the call as it read before'; 0 by the template 'total and deterministic' (their statements: YtmembanbemljoaaTotals.lean).
  GIVEN WITH THE SEED: the statements are not yours to turn. If you find one false, say at which input.
  Laid BY PROGRAM, IN A SANDBOX (cutbox-rows.mjs): the forced cells as the released guide's own fill.sh prints them over the translation f04c0197e78fb648… (all of the seat's roots in one cut). By AI agents, Wed Nov 11 2026. No macro, syntax, notation, axiom, sorry.
-/
import Derived.Test.YtmembanbemljoaaChecked
import GoSem.Claim
import GoSem.ClaimJoined
import GoSem.ClaimMapViews
import Derived.JoinedTies
import Derived.KernelRfl
namespace Go.Proofs.Ytmembanbemljoaa
/- THE CELL 'sum', in the pinned program and in every row, IS THE sha256 OF THE DUMP (.gsa) THAT YtmembanbemljoaaProg.lean LOADS. Nothing in Lean hashes anything: it is a label: what it is worth is what the hold of that sum in a sandbox is worth. -/
noncomputable def Try.pinned : Pinned := { name := "ytmembanbemljoaa", sum := "f04c0197e78fb648e80cb56130c5ef325af06ad83c104dfedbf65f6d0367086a", checked := Try.checked }
namespace Rows
def none {H : Type} : Left H := { results := [], args := [] }

/-- 'avocetlaw16.FingerSums': WHATEVER THE INPUT: true; the input reads as it did. -/
def fingerSumsSpec : ChangeSpec := { name := "fingerSums", fn := fun _ => fun
  | [d1, d2, d3] => { results := [.lit (.bool true)], args := [d1, d2, d3] }
  | _ => none }
def fingerSumsRow : OpenClaim := { program := "ytmembanbemljoaa", sum := "f04c0197e78fb648e80cb56130c5ef325af06ad83c104dfedbf65f6d0367086a", func := "avocet/avocetlaw16.FingerSums", spec := "fingerSums", inPlace := ["internal/bytealg.IndexByteString"], unfollowed := true, recurses := true, apart := false }
def FingerSumsSaid : Prop := fingerSumsRow.holds Try.pinned (OpenSpec.ofChange fingerSumsSpec)

/-- ITS FALSE NEIGHBOUR: 'it returns false'. Refute it at one input. -/
def fingerSumsWrong : ChangeSpec := { name := "fingerSums", fn := fun _ => fun
  | [d1, d2, d3] => { results := [.lit (.bool false)], args := [d1, d2, d3] }
  | _ => none }
def FingerSumsWrongFalsely : Prop := fingerSumsRow.holds Try.pinned (OpenSpec.ofChange fingerSumsWrong)

/-- 'avocetlaw16.FingerParts': WHATEVER THE INPUT: true; the input reads as it did. -/
def fingerPartsSpec : ChangeSpec := { name := "fingerParts", fn := fun _ => fun
  | [d1, d2, d3] => { results := [.lit (.bool true)], args := [d1, d2, d3] }
  | _ => none }
def fingerPartsRow : OpenClaim := { program := "ytmembanbemljoaa", sum := "f04c0197e78fb648e80cb56130c5ef325af06ad83c104dfedbf65f6d0367086a", func := "avocet/avocetlaw16.FingerParts", spec := "fingerParts", inPlace := ["internal/bytealg.IndexByteString"], unfollowed := true, recurses := true, apart := false }
def FingerPartsSaid : Prop := fingerPartsRow.holds Try.pinned (OpenSpec.ofChange fingerPartsSpec)

/-- ITS FALSE NEIGHBOUR: 'it returns false'. Refute it at one input. -/
def fingerPartsWrong : ChangeSpec := { name := "fingerParts", fn := fun _ => fun
  | [d1, d2, d3] => { results := [.lit (.bool false)], args := [d1, d2, d3] }
  | _ => none }
def FingerPartsWrongFalsely : Prop := fingerPartsRow.holds Try.pinned (OpenSpec.ofChange fingerPartsWrong)

/-- 'avocetlaw16.FingerMixes': WHATEVER THE INPUT: true; the input reads as it did. -/
def fingerMixesSpec : ChangeSpec := { name := "fingerMixes", fn := fun _ => fun
  | [d1, d2, d3] => { results := [.lit (.bool true)], args := [d1, d2, d3] }
  | _ => none }
def fingerMixesRow : OpenClaim := { program := "ytmembanbemljoaa", sum := "f04c0197e78fb648e80cb56130c5ef325af06ad83c104dfedbf65f6d0367086a", func := "avocet/avocetlaw16.FingerMixes", spec := "fingerMixes", inPlace := ["internal/bytealg.IndexByteString"], unfollowed := true, recurses := true, apart := false }
def FingerMixesSaid : Prop := fingerMixesRow.holds Try.pinned (OpenSpec.ofChange fingerMixesSpec)

/-- ITS FALSE NEIGHBOUR: 'it returns false'. Refute it at one input. -/
def fingerMixesWrong : ChangeSpec := { name := "fingerMixes", fn := fun _ => fun
  | [d1, d2, d3] => { results := [.lit (.bool false)], args := [d1, d2, d3] }
  | _ => none }
def FingerMixesWrongFalsely : Prop := fingerMixesRow.holds Try.pinned (OpenSpec.ofChange fingerMixesWrong)

/-- 'avocetlaw16.FingerNear': WHATEVER THE INPUT: true; the input reads as it did. -/
def fingerNearSpec : ChangeSpec := { name := "fingerNear", fn := fun _ => fun
  | [d1, d2, d3] => { results := [.lit (.bool true)], args := [d1, d2, d3] }
  | _ => none }
def fingerNearRow : OpenClaim := { program := "ytmembanbemljoaa", sum := "f04c0197e78fb648e80cb56130c5ef325af06ad83c104dfedbf65f6d0367086a", func := "avocet/avocetlaw16.FingerNear", spec := "fingerNear", inPlace := ["internal/bytealg.IndexByteString"], unfollowed := true, recurses := true, apart := false }
def FingerNearSaid : Prop := fingerNearRow.holds Try.pinned (OpenSpec.ofChange fingerNearSpec)

/-- ITS FALSE NEIGHBOUR: 'it returns false'. Refute it at one input. -/
def fingerNearWrong : ChangeSpec := { name := "fingerNear", fn := fun _ => fun
  | [d1, d2, d3] => { results := [.lit (.bool false)], args := [d1, d2, d3] }
  | _ => none }
def FingerNearWrongFalsely : Prop := fingerNearRow.holds Try.pinned (OpenSpec.ofChange fingerNearWrong)

/-- 'avocetlaw06.JlexTakes': WHATEVER THE INPUT: true; the input reads as it did. -/
def jlexTakesSpec : ChangeSpec := { name := "jlexTakes", fn := fun _ => fun
  | [d1, d2] => { results := [.lit (.bool true)], args := [d1, d2] }
  | _ => none }
def jlexTakesRow : OpenClaim := { program := "ytmembanbemljoaa", sum := "f04c0197e78fb648e80cb56130c5ef325af06ad83c104dfedbf65f6d0367086a", func := "avocet/avocetlaw06.JlexTakes", spec := "jlexTakes", inPlace := ["internal/bytealg.IndexByteString"], unfollowed := true, recurses := true, apart := false }
def JlexTakesSaid : Prop := jlexTakesRow.holds Try.pinned (OpenSpec.ofChange jlexTakesSpec)

/-- ITS FALSE NEIGHBOUR: 'it returns false'. Refute it at one input. -/
def jlexTakesWrong : ChangeSpec := { name := "jlexTakes", fn := fun _ => fun
  | [d1, d2] => { results := [.lit (.bool false)], args := [d1, d2] }
  | _ => none }
def JlexTakesWrongFalsely : Prop := jlexTakesRow.holds Try.pinned (OpenSpec.ofChange jlexTakesWrong)

/-- 'avocetlaw06.JlexWhite': WHATEVER THE INPUT: true; the input reads as it did. -/
def jlexWhiteSpec : ChangeSpec := { name := "jlexWhite", fn := fun _ => fun
  | [d1, d2] => { results := [.lit (.bool true)], args := [d1, d2] }
  | _ => none }
def jlexWhiteRow : OpenClaim := { program := "ytmembanbemljoaa", sum := "f04c0197e78fb648e80cb56130c5ef325af06ad83c104dfedbf65f6d0367086a", func := "avocet/avocetlaw06.JlexWhite", spec := "jlexWhite", inPlace := ["internal/bytealg.IndexByteString"], unfollowed := true, recurses := true, apart := false }
def JlexWhiteSaid : Prop := jlexWhiteRow.holds Try.pinned (OpenSpec.ofChange jlexWhiteSpec)

/-- ITS FALSE NEIGHBOUR: 'it returns false'. Refute it at one input. -/
def jlexWhiteWrong : ChangeSpec := { name := "jlexWhite", fn := fun _ => fun
  | [d1, d2] => { results := [.lit (.bool false)], args := [d1, d2] }
  | _ => none }
def JlexWhiteWrongFalsely : Prop := jlexWhiteRow.holds Try.pinned (OpenSpec.ofChange jlexWhiteWrong)

/-- 'avocetlaw06.JlexQuotes': WHATEVER THE INPUT: true; the input reads as it did. -/
def jlexQuotesSpec : ChangeSpec := { name := "jlexQuotes", fn := fun _ => fun
  | [d1, d2] => { results := [.lit (.bool true)], args := [d1, d2] }
  | _ => none }
def jlexQuotesRow : OpenClaim := { program := "ytmembanbemljoaa", sum := "f04c0197e78fb648e80cb56130c5ef325af06ad83c104dfedbf65f6d0367086a", func := "avocet/avocetlaw06.JlexQuotes", spec := "jlexQuotes", inPlace := ["internal/bytealg.IndexByteString"], unfollowed := true, recurses := true, apart := false }
def JlexQuotesSaid : Prop := jlexQuotesRow.holds Try.pinned (OpenSpec.ofChange jlexQuotesSpec)

/-- ITS FALSE NEIGHBOUR: 'it returns false'. Refute it at one input. -/
def jlexQuotesWrong : ChangeSpec := { name := "jlexQuotes", fn := fun _ => fun
  | [d1, d2] => { results := [.lit (.bool false)], args := [d1, d2] }
  | _ => none }
def JlexQuotesWrongFalsely : Prop := jlexQuotesRow.holds Try.pinned (OpenSpec.ofChange jlexQuotesWrong)

/-- 'avocetlaw06.JlexBack': WHATEVER THE INPUT: true; the input reads as it did. -/
def jlexBackSpec : ChangeSpec := { name := "jlexBack", fn := fun _ => fun
  | [d1, d2] => { results := [.lit (.bool true)], args := [d1, d2] }
  | _ => none }
def jlexBackRow : OpenClaim := { program := "ytmembanbemljoaa", sum := "f04c0197e78fb648e80cb56130c5ef325af06ad83c104dfedbf65f6d0367086a", func := "avocet/avocetlaw06.JlexBack", spec := "jlexBack", inPlace := ["internal/bytealg.IndexByteString"], unfollowed := true, recurses := true, apart := false }
def JlexBackSaid : Prop := jlexBackRow.holds Try.pinned (OpenSpec.ofChange jlexBackSpec)

/-- ITS FALSE NEIGHBOUR: 'it returns false'. Refute it at one input. -/
def jlexBackWrong : ChangeSpec := { name := "jlexBack", fn := fun _ => fun
  | [d1, d2] => { results := [.lit (.bool false)], args := [d1, d2] }
  | _ => none }
def JlexBackWrongFalsely : Prop := jlexBackRow.holds Try.pinned (OpenSpec.ofChange jlexBackWrong)

/-- 'avocetlaw07.JparseParses': WHATEVER THE INPUT: true; the input reads as it did. -/
def jparseParsesSpec : ChangeSpec := { name := "jparseParses", fn := fun _ => fun
  | [d] => { results := [.lit (.bool true)], args := [d] }
  | _ => none }
def jparseParsesRow : OpenClaim := { program := "ytmembanbemljoaa", sum := "f04c0197e78fb648e80cb56130c5ef325af06ad83c104dfedbf65f6d0367086a", func := "avocet/avocetlaw07.JparseParses", spec := "jparseParses", inPlace := ["internal/bytealg.IndexByteString"], unfollowed := true, recurses := true, apart := false }
def JparseParsesSaid : Prop := jparseParsesRow.holds Try.pinned (OpenSpec.ofChange jparseParsesSpec)

/-- ITS FALSE NEIGHBOUR: 'it returns false'. Refute it at one input. -/
def jparseParsesWrong : ChangeSpec := { name := "jparseParses", fn := fun _ => fun
  | [d] => { results := [.lit (.bool false)], args := [d] }
  | _ => none }
def JparseParsesWrongFalsely : Prop := jparseParsesRow.holds Try.pinned (OpenSpec.ofChange jparseParsesWrong)

/-- 'avocetlaw07.JparseAsks': WHATEVER THE INPUT: true; the input reads as it did. -/
def jparseAsksSpec : ChangeSpec := { name := "jparseAsks", fn := fun _ => fun
  | [d1, d2, d3] => { results := [.lit (.bool true)], args := [d1, d2, d3] }
  | _ => none }
def jparseAsksRow : OpenClaim := { program := "ytmembanbemljoaa", sum := "f04c0197e78fb648e80cb56130c5ef325af06ad83c104dfedbf65f6d0367086a", func := "avocet/avocetlaw07.JparseAsks", spec := "jparseAsks", inPlace := ["internal/bytealg.IndexByteString"], unfollowed := true, recurses := true, loops := true, apart := false }
def JparseAsksSaid : Prop := jparseAsksRow.holds Try.pinned (OpenSpec.ofChange jparseAsksSpec)

/-- ITS FALSE NEIGHBOUR: 'it returns false'. Refute it at one input. -/
def jparseAsksWrong : ChangeSpec := { name := "jparseAsks", fn := fun _ => fun
  | [d1, d2, d3] => { results := [.lit (.bool false)], args := [d1, d2, d3] }
  | _ => none }
def JparseAsksWrongFalsely : Prop := jparseAsksRow.holds Try.pinned (OpenSpec.ofChange jparseAsksWrong)

/-- 'avocetlaw07.JparseSound': WHATEVER THE INPUT: true; the input reads as it did. -/
def jparseSoundSpec : ChangeSpec := { name := "jparseSound", fn := fun _ => fun
  | [d] => { results := [.lit (.bool true)], args := [d] }
  | _ => none }
def jparseSoundRow : OpenClaim := { program := "ytmembanbemljoaa", sum := "f04c0197e78fb648e80cb56130c5ef325af06ad83c104dfedbf65f6d0367086a", func := "avocet/avocetlaw07.JparseSound", spec := "jparseSound", inPlace := ["internal/bytealg.IndexByteString"], unfollowed := true, recurses := true, apart := false }
def JparseSoundSaid : Prop := jparseSoundRow.holds Try.pinned (OpenSpec.ofChange jparseSoundSpec)

/-- ITS FALSE NEIGHBOUR: 'it returns false'. Refute it at one input. -/
def jparseSoundWrong : ChangeSpec := { name := "jparseSound", fn := fun _ => fun
  | [d] => { results := [.lit (.bool false)], args := [d] }
  | _ => none }
def JparseSoundWrongFalsely : Prop := jparseSoundRow.holds Try.pinned (OpenSpec.ofChange jparseSoundWrong)

/- THE SECOND FORM. 'bulk': how many values and letters a reading holds, each counted each time it is reached (what is shared counts as often as it is met; a slice's spare places count too). A statement '..UptoSaid' is the law's where the arguments, and the package variables that the reading takes, are together of bulk at most 1048576: NARROWER than '..Said'. Prove '..Said' where nothing that the law and all that it calls make is longer than what came in: it says more and counts as full. Else prove '..UptoSaid'. A law counts once. -/
mutual
def uptoBulk {H : Type} : DataW H → Nat
  | .lit (.string bytes) => bytes.length + 1
  | .lit _ => 1
  | .nil => 1
  | .ptr d => uptoBulk d + 1
  | .slice elems spare => uptoBulkAll elems + uptoBulkAll spare + 1
  | .agg parts => uptoBulkAll parts + 1
  | .iface _ d => uptoBulk d + 1
  | .map entries => uptoBulkEntries entries + 1
  | .held _ => 1
def uptoBulkAll {H : Type} : List (DataW H) → Nat
  | [] => 0
  | d :: r => uptoBulk d + uptoBulkAll r
def uptoBulkEntries {H : Type} : List (Lit × DataW H) → Nat
  | [] => 0
  | x :: r => uptoBulkEntry x + uptoBulkEntries r
def uptoBulkEntry {H : Type} : Lit × DataW H → Nat
  | (.string bytes, d) => bytes.length + uptoBulk d + 1
  | (_, d) => uptoBulk d + 1
 end
def uptoSmall : (H : Type) → List (DataW H) → Bool := fun _ ds => decide (uptoBulkAll ds ≤ 1048576)
def OpenSpec.upto (s : _root_.Go.ChangeSpec) : _root_.Go.OpenSpec := { _root_.Go.OpenSpec.ofChange s with cond := some uptoSmall }

/-- 'avocetlaw16.FingerSums', WHERE WHAT IT READS IS OF BULK AT MOST 1048576: true; the input reads as it did. -/
def fingerSumsUptoRow : OpenClaim := { program := "ytmembanbemljoaa", sum := "f04c0197e78fb648e80cb56130c5ef325af06ad83c104dfedbf65f6d0367086a", func := "avocet/avocetlaw16.FingerSums", spec := "fingerSums", inPlace := ["internal/bytealg.IndexByteString"], unfollowed := true, recurses := true, apart := false, narrowed := true }
def FingerSumsUptoSaid : Prop := fingerSumsUptoRow.holds Try.pinned (OpenSpec.upto fingerSumsSpec)

/-- 'avocetlaw16.FingerParts', WHERE WHAT IT READS IS OF BULK AT MOST 1048576: true; the input reads as it did. -/
def fingerPartsUptoRow : OpenClaim := { program := "ytmembanbemljoaa", sum := "f04c0197e78fb648e80cb56130c5ef325af06ad83c104dfedbf65f6d0367086a", func := "avocet/avocetlaw16.FingerParts", spec := "fingerParts", inPlace := ["internal/bytealg.IndexByteString"], unfollowed := true, recurses := true, apart := false, narrowed := true }
def FingerPartsUptoSaid : Prop := fingerPartsUptoRow.holds Try.pinned (OpenSpec.upto fingerPartsSpec)

/-- 'avocetlaw16.FingerMixes', WHERE WHAT IT READS IS OF BULK AT MOST 1048576: true; the input reads as it did. -/
def fingerMixesUptoRow : OpenClaim := { program := "ytmembanbemljoaa", sum := "f04c0197e78fb648e80cb56130c5ef325af06ad83c104dfedbf65f6d0367086a", func := "avocet/avocetlaw16.FingerMixes", spec := "fingerMixes", inPlace := ["internal/bytealg.IndexByteString"], unfollowed := true, recurses := true, apart := false, narrowed := true }
def FingerMixesUptoSaid : Prop := fingerMixesUptoRow.holds Try.pinned (OpenSpec.upto fingerMixesSpec)

/-- 'avocetlaw16.FingerNear', WHERE WHAT IT READS IS OF BULK AT MOST 1048576: true; the input reads as it did. -/
def fingerNearUptoRow : OpenClaim := { program := "ytmembanbemljoaa", sum := "f04c0197e78fb648e80cb56130c5ef325af06ad83c104dfedbf65f6d0367086a", func := "avocet/avocetlaw16.FingerNear", spec := "fingerNear", inPlace := ["internal/bytealg.IndexByteString"], unfollowed := true, recurses := true, apart := false, narrowed := true }
def FingerNearUptoSaid : Prop := fingerNearUptoRow.holds Try.pinned (OpenSpec.upto fingerNearSpec)

/-- 'avocetlaw06.JlexTakes', WHERE WHAT IT READS IS OF BULK AT MOST 1048576: true; the input reads as it did. -/
def jlexTakesUptoRow : OpenClaim := { program := "ytmembanbemljoaa", sum := "f04c0197e78fb648e80cb56130c5ef325af06ad83c104dfedbf65f6d0367086a", func := "avocet/avocetlaw06.JlexTakes", spec := "jlexTakes", inPlace := ["internal/bytealg.IndexByteString"], unfollowed := true, recurses := true, apart := false, narrowed := true }
def JlexTakesUptoSaid : Prop := jlexTakesUptoRow.holds Try.pinned (OpenSpec.upto jlexTakesSpec)

/-- 'avocetlaw06.JlexWhite', WHERE WHAT IT READS IS OF BULK AT MOST 1048576: true; the input reads as it did. -/
def jlexWhiteUptoRow : OpenClaim := { program := "ytmembanbemljoaa", sum := "f04c0197e78fb648e80cb56130c5ef325af06ad83c104dfedbf65f6d0367086a", func := "avocet/avocetlaw06.JlexWhite", spec := "jlexWhite", inPlace := ["internal/bytealg.IndexByteString"], unfollowed := true, recurses := true, apart := false, narrowed := true }
def JlexWhiteUptoSaid : Prop := jlexWhiteUptoRow.holds Try.pinned (OpenSpec.upto jlexWhiteSpec)

/-- 'avocetlaw06.JlexQuotes', WHERE WHAT IT READS IS OF BULK AT MOST 1048576: true; the input reads as it did. -/
def jlexQuotesUptoRow : OpenClaim := { program := "ytmembanbemljoaa", sum := "f04c0197e78fb648e80cb56130c5ef325af06ad83c104dfedbf65f6d0367086a", func := "avocet/avocetlaw06.JlexQuotes", spec := "jlexQuotes", inPlace := ["internal/bytealg.IndexByteString"], unfollowed := true, recurses := true, apart := false, narrowed := true }
def JlexQuotesUptoSaid : Prop := jlexQuotesUptoRow.holds Try.pinned (OpenSpec.upto jlexQuotesSpec)

/-- 'avocetlaw06.JlexBack', WHERE WHAT IT READS IS OF BULK AT MOST 1048576: true; the input reads as it did. -/
def jlexBackUptoRow : OpenClaim := { program := "ytmembanbemljoaa", sum := "f04c0197e78fb648e80cb56130c5ef325af06ad83c104dfedbf65f6d0367086a", func := "avocet/avocetlaw06.JlexBack", spec := "jlexBack", inPlace := ["internal/bytealg.IndexByteString"], unfollowed := true, recurses := true, apart := false, narrowed := true }
def JlexBackUptoSaid : Prop := jlexBackUptoRow.holds Try.pinned (OpenSpec.upto jlexBackSpec)

/-- 'avocetlaw07.JparseParses', WHERE WHAT IT READS IS OF BULK AT MOST 1048576: true; the input reads as it did. -/
def jparseParsesUptoRow : OpenClaim := { program := "ytmembanbemljoaa", sum := "f04c0197e78fb648e80cb56130c5ef325af06ad83c104dfedbf65f6d0367086a", func := "avocet/avocetlaw07.JparseParses", spec := "jparseParses", inPlace := ["internal/bytealg.IndexByteString"], unfollowed := true, recurses := true, apart := false, narrowed := true }
def JparseParsesUptoSaid : Prop := jparseParsesUptoRow.holds Try.pinned (OpenSpec.upto jparseParsesSpec)

/-- 'avocetlaw07.JparseAsks', WHERE WHAT IT READS IS OF BULK AT MOST 1048576: true; the input reads as it did. -/
def jparseAsksUptoRow : OpenClaim := { program := "ytmembanbemljoaa", sum := "f04c0197e78fb648e80cb56130c5ef325af06ad83c104dfedbf65f6d0367086a", func := "avocet/avocetlaw07.JparseAsks", spec := "jparseAsks", inPlace := ["internal/bytealg.IndexByteString"], unfollowed := true, recurses := true, loops := true, apart := false, narrowed := true }
def JparseAsksUptoSaid : Prop := jparseAsksUptoRow.holds Try.pinned (OpenSpec.upto jparseAsksSpec)

/-- 'avocetlaw07.JparseSound', WHERE WHAT IT READS IS OF BULK AT MOST 1048576: true; the input reads as it did. -/
def jparseSoundUptoRow : OpenClaim := { program := "ytmembanbemljoaa", sum := "f04c0197e78fb648e80cb56130c5ef325af06ad83c104dfedbf65f6d0367086a", func := "avocet/avocetlaw07.JparseSound", spec := "jparseSound", inPlace := ["internal/bytealg.IndexByteString"], unfollowed := true, recurses := true, apart := false, narrowed := true }
def JparseSoundUptoSaid : Prop := jparseSoundUptoRow.holds Try.pinned (OpenSpec.upto jparseSoundSpec)

end Rows
end Go.Proofs.Ytmembanbemljoaa
