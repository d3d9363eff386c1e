/- The reference's number. -/
import Derived.Test.YtmembanbemljoaaRef1
namespace Go.Proofs.Ytmembanbemljoaa
open Go.RowKit
set_option linter.unusedVariables false
set_option linter.unusedSimpArgs false

theorem isDig_range {c : UInt8} (h : isDig c = true) : 48 ≤ c.toNat ∧ c.toNat ≤ 57 := by
  unfold isDig at h
  simpa using h
theorem dval_take_lt (l : List UInt8) (q : Nat) : ∀ k, k ≤ dcount l q → dval ((l.drop q).take k) < 10 ^ k := by
  intro k
  induction k with
  | zero => intro _; simp [dval]
  | succ k ih =>
    intro hk
    have h1 := ih (by omega)
    obtain ⟨h2, h3⟩ := dcount_dig l q k (by omega)
    have h4 := isDig_range h2
    rw [dval_next l q k h3, Nat.pow_succ]
    omega
theorem dval_take_ge (l : List UInt8) (q : Nat) (h0 : byteAt l q ≠ 48) : ∀ k, k + 1 ≤ dcount l q → 10 ^ k ≤ dval ((l.drop q).take (k + 1)) := by
  intro k
  induction k with
  | zero =>
    intro hk
    obtain ⟨h2, h3⟩ := dcount_dig l q 0 (by omega)
    have h4 := isDig_range h2
    rw [dval_next l q 0 h3]
    simp only [Nat.add_zero] at h4 ⊢
    have : (byteAt l q).toNat ≠ 48 := fun e => h0 (by apply UInt8.toNat_inj.1; rw [e]; rfl)
    simp [dval]
    omega
  | succ k ih =>
    intro hk
    have h1 := ih (by omega)
    obtain ⟨h2, h3⟩ := dcount_dig l q (k + 1) (by omega)
    rw [dval_next l q (k + 1) h3, Nat.pow_succ]
    omega
/-- The refusal of a number, as the reference asks for it. -/
theorem mnErr_ref (l : List UInt8) (p : Nat) : mnErr l p =
    if dcount l (mnFrom l p) = 0 then 20
    else if byteAt l (mnFrom l p) = 48 ∧ 1 < dcount l (mnFrom l p) then 20
    else if isLet (byteAt l (mnEnd l p)) = true ∧ byteAt l (mnEnd l p) ≠ 101 ∧ byteAt l (mnEnd l p) ≠ 69 then 20
    else if byteAt l (mnEnd l p) = 46 ∨ isLet (byteAt l (mnEnd l p)) = true ∨ 19 < dcount l (mnFrom l p) then 22
    else if top63 < mnVal l p ∨ byteAt l p ≠ 45 ∧ mnVal l p = top63 then 22 else 0 := by
  unfold mnErr
  by_cases h1 : dcount l (mnFrom l p) = 0
  · rw [if_pos (.inl h1), if_pos h1]
  by_cases h2 : byteAt l (mnFrom l p) = 48 ∧ 1 < dcount l (mnFrom l p)
  · rw [if_pos (.inr ⟨h2.2, h2.1⟩), if_neg h1, if_pos h2]
  rw [if_neg (by rintro (h | h); exact h1 h; exact h2 ⟨h.2, h.1⟩), if_neg h1, if_neg h2]
  by_cases h3 : byteAt l (mnEnd l p) = 46
  · rw [if_pos (.inl h3), if_neg (by rw [h3]; decide), if_pos (.inl h3)]
  by_cases h4 : byteAt l (mnEnd l p) = 101
  · rw [if_pos (.inr (.inl h4)), if_neg (by rw [h4]; decide), if_pos (.inr (.inl (by rw [h4]; decide)))]
  by_cases h5 : byteAt l (mnEnd l p) = 69
  · rw [if_pos (.inr (.inr h5)), if_neg (by rw [h5]; decide), if_pos (.inr (.inl (by rw [h5]; decide)))]
  rw [if_neg (by rintro (h | h | h) <;> contradiction)]
  by_cases h6 : isLet (byteAt l (mnEnd l p)) = true
  · rw [if_pos h6, if_pos ⟨h6, h4, h5⟩]
  have h6' : ¬ (isLet (byteAt l (mnEnd l p)) = true ∧ byteAt l (mnEnd l p) ≠ 101 ∧ byteAt l (mnEnd l p) ≠ 69) := fun h => h6 h.1
  rw [if_neg h6, if_neg h6']
  by_cases h7 : 19 < dcount l (mnFrom l p)
  · have h8 : byteAt l (mnFrom l p) ≠ 48 := fun e => h2 ⟨e, by omega⟩
    have h9 := dval_take_ge l (mnFrom l p) h8 (dcount l (mnFrom l p) - 1) (by omega)
    have h10 : 10 ^ 19 ≤ 10 ^ (dcount l (mnFrom l p) - 1) := Nat.pow_le_pow_right (by omega) (by omega)
    rw [show dcount l (mnFrom l p) - 1 + 1 = dcount l (mnFrom l p) from by omega] at h9
    have h11 : top63 < mnVal l p := by unfold mnVal top63; omega
    have h12 : top63 < mnVal l p ∨ byteAt l p ≠ 45 ∧ mnVal l p = top63 := .inl h11
    have h13 : byteAt l (mnEnd l p) = 46 ∨ isLet (byteAt l (mnEnd l p)) = true ∨ 19 < dcount l (mnFrom l p) := .inr (.inr h7)
    rw [if_pos h12, if_pos h13]
  · have h13 : ¬ (byteAt l (mnEnd l p) = 46 ∨ isLet (byteAt l (mnEnd l p)) = true ∨ 19 < dcount l (mnFrom l p)) := by
      intro h
      rcases h with h | h | h
      · exact h3 h
      · exact h6 h
      · exact h7 h
    rw [if_neg h13]

end Go.Proofs.Ytmembanbemljoaa
