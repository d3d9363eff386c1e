/- Characters as bytes: the plain model. -/
import Derived.Test.YtmmffaelkoinlaaGreatDoorBase
namespace Go.Proofs.YtmmffaelkoinlaaGreatDoor
open Go.RowKit
set_option linter.unusedVariables false
set_option linter.unusedSimpArgs false

/-- The byte at a place; 0 behind the end. -/
def byteAt (l : List UInt8) (i : Nat) : UInt8 := l[i]?.getD 0
/-- How many bytes a first byte asks for. -/
def ufirst (c : UInt8) : Nat := if c.toNat < 128 then 1 else if c.toNat < 194 then 0 else if c.toNat < 224 then 2 else if c.toNat < 240 then 3 else if c.toNat < 245 then 4 else 0
def ulo (a : UInt8) : Nat := if a.toNat = 224 then 160 else if a.toNat = 240 then 144 else 128
def uhi (a : UInt8) : Nat := if a.toNat = 237 then 159 else if a.toNat = 244 then 143 else 191
def usec (a b : UInt8) : Bool := decide (ulo a ≤ b.toNat ∧ b.toNat ≤ uhi a)
def ucont (b : UInt8) : Bool := decide (128 ≤ b.toNat ∧ b.toNat < 192)
/-- What the i-th byte behind the first one does: 10: there is none; 11: it may not follow. -/
def ustep (l : List UInt8) (p i : Nat) : Nat := if p + i < l.length then (if ucont (byteAt l (p + i)) = true ∧ (i = 1 → usec (byteAt l p) (byteAt l (p + i)) = true) then 0 else 11) else 10
/-- What the bytes 1 .. k do: 0: they may follow. -/
def ustat (l : List UInt8) (p : Nat) : Nat → Nat
  | 0 => 0
  | k + 1 => if ustat l p k = 0 then ustep l p (k + 1) else ustat l p k
/-- Why there is no character at p; 0: there is one. -/
def uerr (l : List UInt8) (p : Nat) : Nat := if p < l.length then (if ufirst (byteAt l p) = 0 then 11 else ustat l p (ufirst (byteAt l p) - 1)) else 10
/-- How many bytes the character at p takes. -/
def ulen (l : List UInt8) (p : Nat) : Nat := ufirst (byteAt l p)
/-- What a first byte says itself. -/
def ufv (c : UInt8) : Nat := if c.toNat < 128 then c.toNat else if c.toNat < 194 then 0 else if c.toNat < 224 then c.toNat % 32 else if c.toNat < 240 then c.toNat % 16 else if c.toNat < 245 then c.toNat % 8 else 0
/-- What the first byte and k more say. -/
def uval (l : List UInt8) (p : Nat) : Nat → Nat
  | 0 => ufv (byteAt l p)
  | k + 1 => uval l p k * 64 + (byteAt l (p + (k + 1))).toNat % 64
theorem ustat_mono {l : List UInt8} {p k : Nat} (h : ustat l p k ≠ 0) : ∀ j, ustat l p (k + j) = ustat l p k := by
  intro j
  induction j with
  | zero => rfl
  | succ j ih => rw [show k + (j + 1) = (k + j) + 1 from by omega]; simp only [ustat]; rw [ih, if_neg h]
theorem ustat_bad {l : List UInt8} {p i n : Nat} (hi : 1 ≤ i) (hin : i < n) (h0 : ustat l p (i - 1) = 0) (h : ustep l p i ≠ 0) : ustat l p (n - 1) = ustep l p i := by
  have h1 : ustat l p i = ustep l p i := by
    cases i with
    | zero => omega
    | succ i => simp only [ustat]; rw [if_pos (by simpa using h0)]
  have := ustat_mono (l := l) (p := p) (k := i) (by rw [h1]; exact h) (n - 1 - i)
  rw [h1] at this
  rwa [show i + (n - 1 - i) = n - 1 from by omega] at this
theorem ustat_next {l : List UInt8} {p k : Nat} (h0 : ustat l p k = 0) (h : ustep l p (k + 1) = 0) : ustat l p (k + 1) = 0 := by
  simp only [ustat]; rw [if_pos h0, h]
variable {l : List UInt8} {p : Nat}
theorem ulen_bound (h : uerr l p = 0) : 0 < ulen l p ∧ p + ulen l p ≤ l.length := by
  unfold uerr at h
  split at h
  · rename_i hp
    split at h
    · simp at h
    · rename_i hf
      refine ⟨by unfold ulen; omega, ?_⟩
      unfold ulen
      have key : ∀ k, ustat l p k = 0 → p + k < l.length := by
        intro k
        induction k with
        | zero => intro _; omega
        | succ k ih =>
          intro hk
          simp only [ustat] at hk
          split at hk
          · unfold ustep at hk
            split at hk
            · omega
            · simp at hk
          · rename_i h1; exact absurd hk h1
      have := key _ h
      omega
  · simp at h
/-- How many characters there are from p on, k counted so far; or why not. -/
def uCnt (l : List UInt8) (p k : Nat) : Nat × Nat :=
  if h : p < l.length then (if h2 : uerr l p = 0 ∧ 0 < ulen l p then uCnt l (p + ulen l p) (k + 1) else (0, 11)) else (k, 0)
termination_by l.length - p
theorem uCnt_end {l : List UInt8} {p k : Nat} (h : ¬ p < l.length) : uCnt l p k = (k, 0) := by rw [uCnt, dif_neg h]
theorem uCnt_bad {l : List UInt8} {p k : Nat} (h : p < l.length) (h2 : uerr l p ≠ 0) : uCnt l p k = (0, 11) := by rw [uCnt, dif_pos h, dif_neg (fun x => h2 x.1)]
theorem uCnt_next {l : List UInt8} {p k : Nat} (h : p < l.length) (h2 : uerr l p = 0) : uCnt l p k = uCnt l (p + ulen l p) (k + 1) := by rw [uCnt, dif_pos h, dif_pos ⟨h2, (ulen_bound h2).1⟩]
def isRight (l : List UInt8) : Bool := decide ((uCnt l 0 0).2 = 0)

end Go.Proofs.YtmmffaelkoinlaaGreatDoor
