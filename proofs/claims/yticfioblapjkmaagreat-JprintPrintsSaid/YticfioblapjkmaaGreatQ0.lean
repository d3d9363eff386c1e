/- A text, as it is quoted: plain. -/
import Derived.Test.YticfioblapjkmaaGreatBase
import Derived.Lib.Bytealg
namespace Go.Proofs.YticfioblapjkmaaGreat
open Go.RowKit
set_option linter.unusedVariables false
set_option linter.unusedSimpArgs false

def hexD (n : Nat) : UInt8 := if n < 10 then (48 + n).toUInt8 else (87 + n).toUInt8
/-- What a byte of a text is written as. -/
def qByte (c : UInt8) : List UInt8 :=
  if c.toNat = 34 then [92, 34] else if c.toNat = 92 then [92, 92] else if c.toNat = 8 then [92, 98] else if c.toNat = 12 then [92, 102] else if c.toNat = 10 then [92, 110] else if c.toNat = 13 then [92, 114] else if c.toNat = 9 then [92, 116]
  else if c.toNat < 32 then [92, 117, 48, 48, hexD (c.toNat / 16), hexD (c.toNat % 16)] else [c]
def mQuote (s : List UInt8) : List UInt8 := 34 :: s.flatMap qByte ++ [34]
theorem qByte_len (c : UInt8) : (qByte c).length ≤ 6 := by
  unfold qByte
  repeat' split
  all_goals simp
theorem take_next {s : List UInt8} {k : Nat} {x : UInt8} (h : s[k]? = some x) : (s.take (k + 1)).flatMap qByte = (s.take k).flatMap qByte ++ qByte x := by
  have hk : k < s.length := by
    rcases Nat.lt_or_ge k s.length with h' | h'
    · exact h'
    · rw [List.getElem?_eq_none h'] at h; simp at h
  rw [List.take_succ_eq_append_getElem hk, List.flatMap_append]
  rw [List.getElem?_eq_getElem hk] at h
  simp at h
  rw [h]
  simp
theorem quote_len (s : List UInt8) : (mQuote s).length ≤ 6 * s.length + 2 := by
  have : ∀ l : List UInt8, (l.flatMap qByte).length ≤ 6 * l.length := by
    intro l
    induction l with
    | nil => simp
    | cons x l ih =>
      have := qByte_len x
      simp only [List.flatMap_cons, List.length_append, List.length_cons]
      omega
  have := this s
  simp only [mQuote, List.length_append, List.length_cons, List.length_nil]
  omega
/-- The byte's place among those that have a sign of their own. -/
def qIdx (y : Nat) : Int := Lib.indexByte [34, 92, 47, 8, 12, 10, 13, 9] y.toUInt8
def qEsc (k : Int) : UInt8 := ([34, 92, 47, 98, 102, 110, 114, 116][k.toNat]?).getD 0
def qHex (k : Nat) : UInt8 := ([48, 49, 50, 51, 52, 53, 54, 55, 56, 57, 97, 98, 99, 100, 101, 102][k]?).getD 0
theorem q_cases : ∀ y : Nat, y < 256 → (if 0 ≤ qIdx y ∧ y ≠ 47 then qIdx y < 8 ∧ qByte y.toUInt8 = [92, qEsc (qIdx y)] else if y < 32 then qByte y.toUInt8 = [92, 117, 48, 48, qHex (y / 16), qHex (y % 16)] else qByte y.toUInt8 = [y.toUInt8]) := by decide +kernel

end Go.Proofs.YticfioblapjkmaaGreat
