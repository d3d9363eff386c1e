/- UTF-8, by ranges of bytes and by what a character is written as: one law. -/
import Derived.Test.YtmembanbemljoaaRef5
namespace Go.Proofs.Ytmembanbemljoaa
open Go.RowKit
set_option linter.unusedVariables false
set_option linter.unusedSimpArgs false

variable {l : List UInt8} {p : Nat}
def bN (l : List UInt8) (i : Nat) : Nat := (byteAt l i).toNat
theorem bN_lt (l : List UInt8) (i : Nat) : bN l i < 256 := (byteAt l i).toNat_lt
/-- A character of n bytes stands at p. -/
def UForm (l : List UInt8) (p : Nat) (n : Nat) : Prop :=
  (n = 1 ∧ p < l.length ∧ bN l p < 128) ∨
  (n = 2 ∧ p + 1 < l.length ∧ 194 ≤ bN l p ∧ bN l p < 224 ∧ 128 ≤ bN l (p + 1) ∧ bN l (p + 1) < 192) ∨
  (n = 3 ∧ p + 2 < l.length ∧ 224 ≤ bN l p ∧ bN l p < 240 ∧ 128 ≤ bN l (p + 1) ∧ bN l (p + 1) < 192 ∧ 128 ≤ bN l (p + 2) ∧ bN l (p + 2) < 192 ∧ (bN l p = 224 → 160 ≤ bN l (p + 1)) ∧ (bN l p = 237 → bN l (p + 1) ≤ 159)) ∨
  (n = 4 ∧ p + 3 < l.length ∧ 240 ≤ bN l p ∧ bN l p < 245 ∧ 128 ≤ bN l (p + 1) ∧ bN l (p + 1) < 192 ∧ 128 ≤ bN l (p + 2) ∧ bN l (p + 2) < 192 ∧ 128 ≤ bN l (p + 3) ∧ bN l (p + 3) < 192 ∧ (bN l p = 240 → 144 ≤ bN l (p + 1)) ∧ (bN l p = 244 → bN l (p + 1) ≤ 143))
/-- The number that n bytes would be. -/
def cvN (l : List UInt8) (p n : Nat) : Int :=
  if n = 1 then (bN l p : Int) else if n = 2 then ((bN l p : Int) - 192) * 64 + ((bN l (p + 1) : Int) - 128)
  else if n = 3 then ((bN l p : Int) - 224) * 4096 + ((bN l (p + 1) : Int) - 128) * 64 + ((bN l (p + 2) : Int) - 128)
  else ((bN l p : Int) - 240) * 262144 + ((bN l (p + 1) : Int) - 128) * 4096 + ((bN l (p + 2) : Int) - 128) * 64 + ((bN l (p + 3) : Int) - 128)
def wtest (l : List UInt8) (p n : Nat) : Bool := isChr (cvN l p n) && (((uenc (cvN l p n).toNat).length == n) && (uenc (cvN l p n).toNat).isPrefixOf (l.drop p))

theorem ustep_zero {i : Nat} : ustep l p i = 0 ↔ p + i < l.length ∧ 128 ≤ bN l (p + i) ∧ bN l (p + i) < 192 ∧ (i = 1 → ulo (byteAt l p) ≤ bN l (p + i) ∧ bN l (p + i) ≤ uhi (byteAt l p)) := by
  unfold ustep ucont usec bN
  by_cases h : p + i < l.length
  · rw [if_pos h]
    simp only [decide_eq_true_eq]
    split
    · rename_i h2; simp only [h, true_and, true_iff]; exact ⟨h2.1.1, h2.1.2, h2.2⟩
    · rename_i h2
      constructor
      · intro h3; omega
      · intro h3; exact absurd ⟨⟨h3.2.1, h3.2.2.1⟩, h3.2.2.2⟩ h2
  · rw [if_neg h]
    constructor
    · intro h3; omega
    · intro h3; exact absurd h3.1 h
theorem ustat_zero {k : Nat} : ustat l p (k + 1) = 0 ↔ ustat l p k = 0 ∧ ustep l p (k + 1) = 0 := by
  simp only [ustat]
  split
  · rename_i h; simp [h]
  · rename_i h; simp [h]
theorem ulo_le (c : UInt8) : (c.toNat = 224 → ulo c = 160) ∧ (c.toNat = 240 → ulo c = 144) ∧ (c.toNat ≠ 224 → c.toNat ≠ 240 → ulo c = 128) := by
  unfold ulo
  refine ⟨fun h => by rw [if_pos h], fun h => by rw [if_neg (by omega), if_pos h], fun h h' => by rw [if_neg h, if_neg h']⟩
theorem uhi_le (c : UInt8) : (c.toNat = 237 → uhi c = 159) ∧ (c.toNat = 244 → uhi c = 143) ∧ (c.toNat ≠ 237 → c.toNat ≠ 244 → uhi c = 191) := by
  unfold uhi
  refine ⟨fun h => by rw [if_pos h], fun h => by rw [if_neg (by omega), if_pos h], fun h h' => by rw [if_neg h, if_neg h']⟩

theorem ufirst_one {c : UInt8} (h : c.toNat < 128) : ufirst c = 1 := by unfold ufirst; rw [if_pos h]
theorem ufirst_two {c : UInt8} (h : 194 ≤ c.toNat) (h' : c.toNat < 224) : ufirst c = 2 := by unfold ufirst; rw [if_neg (by omega), if_neg (by omega), if_pos h']
theorem ufirst_three {c : UInt8} (h : 224 ≤ c.toNat) (h' : c.toNat < 240) : ufirst c = 3 := by unfold ufirst; rw [if_neg (by omega), if_neg (by omega), if_neg (by omega), if_pos h']
theorem ufirst_four {c : UInt8} (h : 240 ≤ c.toNat) (h' : c.toNat < 245) : ufirst c = 4 := by unfold ufirst; rw [if_neg (by omega), if_neg (by omega), if_neg (by omega), if_neg (by omega), if_pos h']
theorem ufirst_none {c : UInt8} (h : (128 ≤ c.toNat ∧ c.toNat < 194) ∨ 245 ≤ c.toNat) : ufirst c = 0 := by
  unfold ufirst
  rcases h with h | h
  · rw [if_neg (by omega), if_pos (by omega)]
  · rw [if_neg (by omega), if_neg (by omega), if_neg (by omega), if_neg (by omega), if_neg (by omega)]

theorem form_uerr {n : Nat} (h : UForm l p n) : uerr l p = 0 ∧ ulen l p = n := by
  have hlo := ulo_le (byteAt l p)
  have hhi := uhi_le (byteAt l p)
  unfold UForm at h
  unfold uerr ulen
  rcases h with ⟨rfl, h0, h1⟩ | ⟨rfl, h0, h1, h2, h3, h4⟩ | ⟨rfl, h0, h1, h2, h3, h4, h5, h6, h7, h8⟩ | ⟨rfl, h0, h1, h2, h3, h4, h5, h6, h7, h8, h9, h10⟩
  · rw [if_pos h0, ufirst_one h1]
    exact ⟨rfl, rfl⟩
  · rw [if_pos (by omega), ufirst_two h1 h2]
    refine ⟨?_, rfl⟩
    rw [if_neg (by decide)]
    have e1 : ustep l p 1 = 0 := ustep_zero.2 ⟨h0, h3, h4, fun _ => by unfold bN at *; rw [hlo.2.2 (by omega) (by omega), hhi.2.2 (by omega) (by omega)]; omega⟩
    exact ustat_zero.2 ⟨rfl, e1⟩
  · rw [if_pos (by omega), ufirst_three h1 h2]
    refine ⟨?_, rfl⟩
    rw [if_neg (by decide)]
    have e1 : ustep l p 1 = 0 := ustep_zero.2 ⟨by omega, h3, h4, fun _ => by
      unfold bN at *
      constructor
      · by_cases q : (byteAt l p).toNat = 224
        · rw [hlo.1 q]; exact h7 q
        · rw [hlo.2.2 q (by omega)]; exact h3
      · by_cases q : (byteAt l p).toNat = 237
        · rw [hhi.1 q]; exact h8 q
        · rw [hhi.2.2 q (by omega)]; omega⟩
    have e2 : ustep l p 2 = 0 := ustep_zero.2 ⟨by omega, h5, h6, fun q => by omega⟩
    exact ustat_zero.2 ⟨ustat_zero.2 ⟨rfl, e1⟩, e2⟩
  · rw [if_pos (by omega), ufirst_four h1 h2]
    refine ⟨?_, rfl⟩
    rw [if_neg (by decide)]
    have e1 : ustep l p 1 = 0 := ustep_zero.2 ⟨by omega, h3, h4, fun _ => by
      unfold bN at *
      constructor
      · by_cases q : (byteAt l p).toNat = 240
        · rw [hlo.2.1 q]; exact h9 q
        · rw [hlo.2.2 (by omega) q]; exact h3
      · by_cases q : (byteAt l p).toNat = 244
        · rw [hhi.2.1 q]; exact h10 q
        · rw [hhi.2.2 (by omega) q]; omega⟩
    have e2 : ustep l p 2 = 0 := ustep_zero.2 ⟨by omega, h5, h6, fun q => by omega⟩
    have e3 : ustep l p 3 = 0 := ustep_zero.2 ⟨by omega, h7, h8, fun q => by omega⟩
    exact ustat_zero.2 ⟨ustat_zero.2 ⟨ustat_zero.2 ⟨rfl, e1⟩, e2⟩, e3⟩
theorem uerr_form (h : uerr l p = 0) : UForm l p (ulen l p) := by
  have hlo := ulo_le (byteAt l p)
  have hhi := uhi_le (byteAt l p)
  unfold uerr at h
  unfold ulen UForm
  by_cases hp : p < l.length
  · rw [if_pos hp] at h
    have hb := bN_lt l p
    unfold bN at hb
    have hr : (byteAt l p).toNat < 128 ∨ ((128 ≤ (byteAt l p).toNat ∧ (byteAt l p).toNat < 194) ∨ 245 ≤ (byteAt l p).toNat) ∨ (194 ≤ (byteAt l p).toNat ∧ (byteAt l p).toNat < 224) ∨ (224 ≤ (byteAt l p).toNat ∧ (byteAt l p).toNat < 240) ∨ (240 ≤ (byteAt l p).toNat ∧ (byteAt l p).toNat < 245) := by omega
    rcases hr with hr | hr | hr | hr | hr
    · rw [ufirst_one hr]; exact .inl ⟨rfl, hp, hr⟩
    · rw [ufirst_none hr, if_pos rfl] at h; omega
    · rw [ufirst_two hr.1 hr.2, if_neg (by decide)] at h
      rw [ufirst_two hr.1 hr.2]
      have e1 := ustep_zero.1 (ustat_zero.1 h).2
      exact .inr (.inl ⟨rfl, e1.1, hr.1, hr.2, e1.2.1, e1.2.2.1⟩)
    · rw [ufirst_three hr.1 hr.2, if_neg (by decide)] at h
      rw [ufirst_three hr.1 hr.2]
      have h2 := ustat_zero.1 h
      have e2 := ustep_zero.1 h2.2
      have e1 := ustep_zero.1 (ustat_zero.1 h2.1).2
      have e1' := e1.2.2.2 rfl
      refine .inr (.inr (.inl ⟨rfl, e2.1, hr.1, hr.2, e1.2.1, e1.2.2.1, e2.2.1, e2.2.2.1, fun q => ?_, fun q => ?_⟩))
      · rw [hlo.1 q] at e1'; exact e1'.1
      · rw [hhi.1 q] at e1'; exact e1'.2
    · rw [ufirst_four hr.1 hr.2, if_neg (by decide)] at h
      rw [ufirst_four hr.1 hr.2]
      have h3 := ustat_zero.1 h
      have e3 := ustep_zero.1 h3.2
      have h2 := ustat_zero.1 h3.1
      have e2 := ustep_zero.1 h2.2
      have e1 := ustep_zero.1 (ustat_zero.1 h2.1).2
      have e1' := e1.2.2.2 rfl
      refine .inr (.inr (.inr ⟨rfl, e3.1, hr.1, hr.2, e1.2.1, e1.2.2.1, e2.2.1, e2.2.2.1, e3.2.1, e3.2.2.1, fun q => ?_, fun q => ?_⟩))
      · rw [hlo.2.1 q] at e1'; exact e1'.1
      · rw [hhi.2.1 q] at e1'; exact e1'.2
  · rw [if_neg hp] at h; omega

end Go.Proofs.Ytmembanbemljoaa
