/-
  NARROWER THAN 'FOR EVERY INPUT', by the rows' own cells (each row's printed sentence says how): JprintBack: loops.
  DERIVED. THE GIVEN ROWS OF THIS SEAT. 3 by the template 'for every input the law returns true; each argument reads behind the call as it read before'; 0 by the template 'total and deterministic' (their statements: YtjdeohgedlhbcaaTotals.lean).
  GIVEN WITH THE SEED: the statements are not yours to turn. If you find one false, say at which input.
  Laid BY PROGRAM, IN A SANDBOX (cutbox-rows.mjs): the forced cells as the released guide's own fill.sh prints them over the translation 5817b139c60a8fbc… (all of the seat's roots in one cut). By AI agents, Wed Nov 11 2026. No macro, syntax, notation, axiom, sorry.
-/
import Derived.Test.YtjdeohgedlhbcaaChecked
import GoSem.Claim
import GoSem.ClaimJoined
import GoSem.ClaimMapViews
import Derived.JoinedTies
import Derived.KernelRfl
namespace Go.Proofs.Ytjdeohgedlhbcaa
/- THE CELL 'sum', in the pinned program and in every row, IS THE sha256 OF THE DUMP (.gsa) THAT YtjdeohgedlhbcaaProg.lean LOADS. Nothing in Lean hashes anything: it is a label: what it is worth is what the hold of that sum in a sandbox is worth. -/
noncomputable def Try.pinned : Pinned := { name := "ytjdeohgedlhbcaa", sum := "5817b139c60a8fbc672b51a3fa3bf18b6c9a23654947cc19841f60e1291a1942", checked := Try.checked }
namespace Rows
def none {H : Type} : Left H := { results := [], args := [] }

/-- 'avocetlaw08.JprintNumbers': WHATEVER THE INPUT: true; the input reads as it did. -/
def jprintNumbersSpec : ChangeSpec := { name := "jprintNumbers", fn := fun _ => fun
  | [d1, d2] => { results := [.lit (.bool true)], args := [d1, d2] }
  | _ => none }
def jprintNumbersRow : OpenClaim := { program := "ytjdeohgedlhbcaa", sum := "5817b139c60a8fbc672b51a3fa3bf18b6c9a23654947cc19841f60e1291a1942", func := "avocet/avocetlaw08.JprintNumbers", spec := "jprintNumbers", inPlace := ["internal/bytealg.IndexByteString", "internal/abi.NoEscape"], unfollowed := true, recurses := true, apart := false }
def JprintNumbersSaid : Prop := jprintNumbersRow.holds Try.pinned (OpenSpec.ofChange jprintNumbersSpec)

/-- ITS FALSE NEIGHBOUR: 'it returns false'. Refute it at one input. -/
def jprintNumbersWrong : ChangeSpec := { name := "jprintNumbers", fn := fun _ => fun
  | [d1, d2] => { results := [.lit (.bool false)], args := [d1, d2] }
  | _ => none }
def JprintNumbersWrongFalsely : Prop := jprintNumbersRow.holds Try.pinned (OpenSpec.ofChange jprintNumbersWrong)

/-- 'avocetlaw08.JprintBack': WHATEVER THE INPUT: true; the input reads as it did. -/
def jprintBackSpec : ChangeSpec := { name := "jprintBack", fn := fun _ => fun
  | [d1, d2] => { results := [.lit (.bool true)], args := [d1, d2] }
  | _ => none }
def jprintBackRow : OpenClaim := { program := "ytjdeohgedlhbcaa", sum := "5817b139c60a8fbc672b51a3fa3bf18b6c9a23654947cc19841f60e1291a1942", func := "avocet/avocetlaw08.JprintBack", spec := "jprintBack", inPlace := ["internal/bytealg.IndexByteString", "internal/abi.NoEscape"], unfollowed := true, recurses := true, loops := true, apart := false }
def JprintBackSaid : Prop := jprintBackRow.holds Try.pinned (OpenSpec.ofChange jprintBackSpec)

/-- ITS FALSE NEIGHBOUR: 'it returns false'. Refute it at one input. -/
def jprintBackWrong : ChangeSpec := { name := "jprintBack", fn := fun _ => fun
  | [d1, d2] => { results := [.lit (.bool false)], args := [d1, d2] }
  | _ => none }
def JprintBackWrongFalsely : Prop := jprintBackRow.holds Try.pinned (OpenSpec.ofChange jprintBackWrong)

/-- 'avocetlaw08.JprintTexts': WHATEVER THE INPUT: true; the input reads as it did. -/
def jprintTextsSpec : ChangeSpec := { name := "jprintTexts", fn := fun _ => fun
  | [d] => { results := [.lit (.bool true)], args := [d] }
  | _ => none }
def jprintTextsRow : OpenClaim := { program := "ytjdeohgedlhbcaa", sum := "5817b139c60a8fbc672b51a3fa3bf18b6c9a23654947cc19841f60e1291a1942", func := "avocet/avocetlaw08.JprintTexts", spec := "jprintTexts", inPlace := ["internal/bytealg.IndexByteString", "internal/abi.NoEscape"], unfollowed := true, recurses := true, apart := false }
def JprintTextsSaid : Prop := jprintTextsRow.holds Try.pinned (OpenSpec.ofChange jprintTextsSpec)

/-- ITS FALSE NEIGHBOUR: 'it returns false'. Refute it at one input. -/
def jprintTextsWrong : ChangeSpec := { name := "jprintTexts", fn := fun _ => fun
  | [d] => { results := [.lit (.bool false)], args := [d] }
  | _ => none }
def JprintTextsWrongFalsely : Prop := jprintTextsRow.holds Try.pinned (OpenSpec.ofChange jprintTextsWrong)

/- THE SECOND FORM. 'bulk': how many values and letters a reading holds, each counted each time it is reached (what is shared counts as often as it is met; a slice's spare places count too). A statement '..UptoSaid' is the law's where the arguments, and the package variables that the reading takes, are together of bulk at most 1048576: NARROWER than '..Said'. Prove '..Said' where nothing that the law and all that it calls make is longer than what came in: it says more and counts as full. Else prove '..UptoSaid'. A law counts once. -/
mutual
def uptoBulk {H : Type} : DataW H → Nat
  | .lit (.string bytes) => bytes.length + 1
  | .lit _ => 1
  | .nil => 1
  | .ptr d => uptoBulk d + 1
  | .slice elems spare => uptoBulkAll elems + uptoBulkAll spare + 1
  | .agg parts => uptoBulkAll parts + 1
  | .iface _ d => uptoBulk d + 1
  | .map entries => uptoBulkEntries entries + 1
  | .held _ => 1
def uptoBulkAll {H : Type} : List (DataW H) → Nat
  | [] => 0
  | d :: r => uptoBulk d + uptoBulkAll r
def uptoBulkEntries {H : Type} : List (Lit × DataW H) → Nat
  | [] => 0
  | x :: r => uptoBulkEntry x + uptoBulkEntries r
def uptoBulkEntry {H : Type} : Lit × DataW H → Nat
  | (.string bytes, d) => bytes.length + uptoBulk d + 1
  | (_, d) => uptoBulk d + 1
 end
def uptoSmall : (H : Type) → List (DataW H) → Bool := fun _ ds => decide (uptoBulkAll ds ≤ 1048576)
def OpenSpec.upto (s : _root_.Go.ChangeSpec) : _root_.Go.OpenSpec := { _root_.Go.OpenSpec.ofChange s with cond := some uptoSmall }

/-- 'avocetlaw08.JprintNumbers', WHERE WHAT IT READS IS OF BULK AT MOST 1048576: true; the input reads as it did. -/
def jprintNumbersUptoRow : OpenClaim := { program := "ytjdeohgedlhbcaa", sum := "5817b139c60a8fbc672b51a3fa3bf18b6c9a23654947cc19841f60e1291a1942", func := "avocet/avocetlaw08.JprintNumbers", spec := "jprintNumbers", inPlace := ["internal/bytealg.IndexByteString", "internal/abi.NoEscape"], unfollowed := true, recurses := true, apart := false, narrowed := true }
def JprintNumbersUptoSaid : Prop := jprintNumbersUptoRow.holds Try.pinned (OpenSpec.upto jprintNumbersSpec)

/-- 'avocetlaw08.JprintBack', WHERE WHAT IT READS IS OF BULK AT MOST 1048576: true; the input reads as it did. -/
def jprintBackUptoRow : OpenClaim := { program := "ytjdeohgedlhbcaa", sum := "5817b139c60a8fbc672b51a3fa3bf18b6c9a23654947cc19841f60e1291a1942", func := "avocet/avocetlaw08.JprintBack", spec := "jprintBack", inPlace := ["internal/bytealg.IndexByteString", "internal/abi.NoEscape"], unfollowed := true, recurses := true, loops := true, apart := false, narrowed := true }
def JprintBackUptoSaid : Prop := jprintBackUptoRow.holds Try.pinned (OpenSpec.upto jprintBackSpec)

/-- 'avocetlaw08.JprintTexts', WHERE WHAT IT READS IS OF BULK AT MOST 1048576: true; the input reads as it did. -/
def jprintTextsUptoRow : OpenClaim := { program := "ytjdeohgedlhbcaa", sum := "5817b139c60a8fbc672b51a3fa3bf18b6c9a23654947cc19841f60e1291a1942", func := "avocet/avocetlaw08.JprintTexts", spec := "jprintTexts", inPlace := ["internal/bytealg.IndexByteString", "internal/abi.NoEscape"], unfollowed := true, recurses := true, apart := false, narrowed := true }
def JprintTextsUptoSaid : Prop := jprintTextsUptoRow.holds Try.pinned (OpenSpec.upto jprintTextsSpec)

end Rows
end Go.Proofs.Ytjdeohgedlhbcaa
