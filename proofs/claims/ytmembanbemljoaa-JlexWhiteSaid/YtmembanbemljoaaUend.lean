/- UTF-8: what a character is written as, and where one stands. -/
import Derived.Test.YtmembanbemljoaaUenc
namespace Go.Proofs.Ytmembanbemljoaa
open Go.RowKit
set_option linter.unusedVariables false
set_option linter.unusedSimpArgs false

variable {l : List UInt8} {p : Nat}
theorem drop_cons {l : List UInt8} {p : Nat} (h : p < l.length) : l.drop p = byteAt l p :: l.drop (p + 1) := by
  rw [List.drop_eq_getElem_cons h]
  unfold byteAt
  rw [List.getElem?_eq_getElem h]
  rfl
theorem pre_iff {l : List UInt8} : ∀ (xs : List UInt8) (p : Nat), xs ≠ [] → (xs.isPrefixOf (l.drop p) = true ↔ p + xs.length ≤ l.length ∧ ∀ i, i < xs.length → byteAt l (p + i) = xs[i]?.getD 0) := by
  intro xs
  induction xs with
  | nil => intro p h; exact absurd rfl h
  | cons x xs ih =>
    intro p _
    by_cases hp : p < l.length
    · rw [drop_cons hp, List.isPrefixOf_cons_cons, Bool.and_eq_true, beq_iff_eq]
      by_cases hx : xs = []
      · subst hx
        simp
        constructor
        · intro h; exact ⟨by omega, h.symm⟩
        · intro h; exact h.2.symm
      · rw [ih (p + 1) hx]
        constructor
        · rintro ⟨h1, h2, h3⟩
          refine ⟨by simp; omega, fun i hi => ?_⟩
          cases i with
          | zero => simpa using h1.symm
          | succ i =>
            have := h3 i (by simp at hi; omega)
            rw [show p + (i + 1) = p + 1 + i from by omega, this]
            simp
        · rintro ⟨h1, h2⟩
          refine ⟨by simpa using (h2 0 (by simp)).symm, by simp at h1; omega, fun i hi => ?_⟩
          have := h2 (i + 1) (by simp; omega)
          rw [show p + 1 + i = p + (i + 1) from by omega, this]
          simp
    · rw [List.drop_eq_nil_of_le (by omega)]
      constructor
      · intro h; simp at h
      · intro h; simp at h; omega
theorem u8_eq {c : UInt8} {n : Nat} (h : c.toNat = n) (hn : n < 256) : c = n.toUInt8 := by
  apply UInt8.toNat_inj.1
  simp
  omega
theorem u8_ne {c : UInt8} {n : Nat} (h : c = n.toUInt8) (hn : n < 256) : c.toNat = n := by
  rw [h]
  simp
  omega
theorem isChr_iff {c : Int} : isChr c = true ↔ 0 ≤ c ∧ c ≤ 1114111 ∧ (c < 55296 ∨ 57344 ≤ c) := by unfold isChr; simp

theorem form_test {n : Nat} (h : UForm l p n) : wtest l p n = true := by
  unfold UForm at h
  unfold wtest
  rw [Bool.and_eq_true, Bool.and_eq_true, isChr_iff, beq_iff_eq]
  rcases h with ⟨rfl, h0, h1⟩ | ⟨rfl, h0, h1, h2, h3, h4⟩ | ⟨rfl, h0, h1, h2, h3, h4, h5, h6, h7, h8⟩ | ⟨rfl, h0, h1, h2, h3, h4, h5, h6, h7, h8, h9, h10⟩
  · have hc : cvN l p 1 = (bN l p : Int) := rfl
    obtain ⟨c, e⟩ : ∃ c, c = (cvN l p 1).toNat := ⟨_, rfl⟩
    have hu : uenc c = [c.toUInt8] := by unfold uenc; rw [if_pos (by omega)]
    rw [← e, hu]
    refine ⟨by omega, rfl, (pre_iff _ p (by simp)).2 ⟨by simp; omega, fun i hi => ?_⟩⟩
    simp at hi
    subst hi
    exact u8_eq (by unfold bN at *; simp; omega) (by omega)
  · have hc : cvN l p 2 = ((bN l p : Int) - 192) * 64 + ((bN l (p + 1) : Int) - 128) := rfl
    obtain ⟨c, e⟩ : ∃ c, c = (cvN l p 2).toNat := ⟨_, rfl⟩
    have hu : uenc c = [(192 + c / 64).toUInt8, (128 + c % 64).toUInt8] := by unfold uenc; rw [if_neg (by omega), if_pos (by omega)]
    rw [← e, hu]
    refine ⟨by omega, rfl, (pre_iff _ p (by simp)).2 ⟨by simp; omega, fun i hi => ?_⟩⟩
    simp at hi
    have hi : i = 0 ∨ i = 1 := by omega
    rcases hi with rfl | rfl
    · exact u8_eq (by unfold bN at *; simp; omega) (by omega)
    · exact u8_eq (by unfold bN at *; omega) (by omega)
  · have hc : cvN l p 3 = ((bN l p : Int) - 224) * 4096 + ((bN l (p + 1) : Int) - 128) * 64 + ((bN l (p + 2) : Int) - 128) := rfl
    obtain ⟨c, e⟩ : ∃ c, c = (cvN l p 3).toNat := ⟨_, rfl⟩
    have hu : uenc c = [(224 + c / 4096).toUInt8, (128 + c / 64 % 64).toUInt8, (128 + c % 64).toUInt8] := by unfold uenc; rw [if_neg (by omega), if_neg (by omega), if_pos (by omega)]
    rw [← e, hu]
    refine ⟨by omega, rfl, (pre_iff _ p (by simp)).2 ⟨by simp; omega, fun i hi => ?_⟩⟩
    simp at hi
    have hi : i = 0 ∨ i = 1 ∨ i = 2 := by omega
    rcases hi with rfl | rfl | rfl
    · exact u8_eq (by unfold bN at *; simp; omega) (by omega)
    · exact u8_eq (by unfold bN at *; omega) (by omega)
    · exact u8_eq (by unfold bN at *; omega) (by omega)
  · have hc : cvN l p 4 = ((bN l p : Int) - 240) * 262144 + ((bN l (p + 1) : Int) - 128) * 4096 + ((bN l (p + 2) : Int) - 128) * 64 + ((bN l (p + 3) : Int) - 128) := rfl
    obtain ⟨c, e⟩ : ∃ c, c = (cvN l p 4).toNat := ⟨_, rfl⟩
    have hu : uenc c = [(240 + c / 262144).toUInt8, (128 + c / 4096 % 64).toUInt8, (128 + c / 64 % 64).toUInt8, (128 + c % 64).toUInt8] := by unfold uenc; rw [if_neg (by omega), if_neg (by omega), if_neg (by omega)]
    rw [← e, hu]
    refine ⟨by omega, rfl, (pre_iff _ p (by simp)).2 ⟨by simp; omega, fun i hi => ?_⟩⟩
    simp at hi
    have hi : i = 0 ∨ i = 1 ∨ i = 2 ∨ i = 3 := by omega
    rcases hi with rfl | rfl | rfl | rfl
    · exact u8_eq (by unfold bN at *; simp; omega) (by omega)
    · exact u8_eq (by unfold bN at *; omega) (by omega)
    · exact u8_eq (by unfold bN at *; omega) (by omega)
    · exact u8_eq (by unfold bN at *; omega) (by omega)
theorem uenc_cases (c : Nat) : (c < 128 ∧ uenc c = [c.toUInt8]) ∨ (128 ≤ c ∧ c < 2048 ∧ uenc c = [(192 + c / 64).toUInt8, (128 + c % 64).toUInt8]) ∨
    (2048 ≤ c ∧ c < 65536 ∧ uenc c = [(224 + c / 4096).toUInt8, (128 + c / 64 % 64).toUInt8, (128 + c % 64).toUInt8]) ∨ (65536 ≤ c ∧ uenc c = [(240 + c / 262144).toUInt8, (128 + c / 4096 % 64).toUInt8, (128 + c / 64 % 64).toUInt8, (128 + c % 64).toUInt8]) := by
  unfold uenc
  by_cases h1 : c < 128
  · exact .inl ⟨h1, if_pos h1⟩
  by_cases h2 : c < 2048
  · exact .inr (.inl ⟨by omega, h2, by rw [if_neg h1, if_pos h2]⟩)
  by_cases h3 : c < 65536
  · exact .inr (.inr (.inl ⟨by omega, h3, by rw [if_neg h1, if_neg h2, if_pos h3]⟩))
  · exact .inr (.inr (.inr ⟨by omega, by rw [if_neg h1, if_neg h2, if_neg h3]⟩))
/-- Where a character's own bytes stand a character of that size stands. -/
theorem enc_form {c : Nat} (hc : isChr (c : Int) = true) (h : (uenc c).isPrefixOf (l.drop p) = true) : UForm l p (uenc c).length := by
  have hch := isChr_iff.1 hc
  unfold UForm
  rcases uenc_cases c with ⟨h1, e⟩ | ⟨h1, h2, e⟩ | ⟨h1, h2, e⟩ | ⟨h1, e⟩
  · rw [e] at h ⊢
    obtain ⟨q1, q2⟩ := (pre_iff _ p (by simp)).1 h
    have b0 := u8_ne (q2 0 (by simp)) (by omega)
    simp at q1 b0
    refine .inl ⟨rfl, by omega, by unfold bN; omega⟩
  · rw [e] at h ⊢
    obtain ⟨q1, q2⟩ := (pre_iff _ p (by simp)).1 h
    have b0 := u8_ne (q2 0 (by simp)) (by omega)
    have b1 := u8_ne (q2 1 (by simp)) (by omega)
    simp only [Nat.add_zero, List.length_cons, List.length_nil] at q1 b0
    refine .inr (.inl ⟨rfl, by omega, ?_⟩)
    unfold bN
    omega
  · rw [e] at h ⊢
    obtain ⟨q1, q2⟩ := (pre_iff _ p (by simp)).1 h
    have b0 := u8_ne (q2 0 (by simp)) (by omega)
    have b1 := u8_ne (q2 1 (by simp)) (by omega)
    have b2 := u8_ne (q2 2 (by simp)) (by omega)
    simp only [Nat.add_zero, List.length_cons, List.length_nil] at q1 b0
    refine .inr (.inr (.inl ⟨rfl, by omega, ?_⟩))
    unfold bN
    omega
  · rw [e] at h ⊢
    obtain ⟨q1, q2⟩ := (pre_iff _ p (by simp)).1 h
    have b0 := u8_ne (q2 0 (by simp)) (by omega)
    have b1 := u8_ne (q2 1 (by simp)) (by omega)
    have b2 := u8_ne (q2 2 (by simp)) (by omega)
    have b3 := u8_ne (q2 3 (by simp)) (by omega)
    simp only [Nat.add_zero, List.length_cons, List.length_nil] at q1 b0
    refine .inr (.inr (.inr ⟨rfl, by omega, ?_⟩))
    unfold bN
    omega
theorem test_form {n : Nat} (h : wtest l p n = true) : UForm l p n := by
  unfold wtest at h
  rw [Bool.and_eq_true, Bool.and_eq_true, beq_iff_eq] at h
  obtain ⟨h1, h2, h3⟩ := h
  have h0 := isChr_iff.1 h1
  have := enc_form (l := l) (p := p) (c := (cvN l p n).toNat) (by rw [show (((cvN l p n).toNat : Nat) : Int) = cvN l p n from by omega]; exact h1) h3
  rwa [h2] at this
/-- What the reference's whole tells of the bytes from p on. -/
def wholeV (l : List UInt8) (p : Nat) : Int := if uerr l p = 0 then cvN l p (ulen l p) else -1
theorem wtest_n {n : Nat} (h : wtest l p n = true) : wholeV l p = cvN l p n := by
  obtain ⟨h1, h2⟩ := form_uerr (test_form h)
  unfold wholeV
  rw [if_pos h1, h2]
theorem wtest_none (h1 : wtest l p 1 = false) (h2 : wtest l p 2 = false) (h3 : wtest l p 3 = false) (h4 : wtest l p 4 = false) : wholeV l p = -1 := by
  unfold wholeV
  rw [if_neg]
  intro he
  have hf := uerr_form he
  have ht := form_test hf
  have hn : ulen l p = 1 ∨ ulen l p = 2 ∨ ulen l p = 3 ∨ ulen l p = 4 := by unfold UForm at hf; omega
  rcases hn with hn | hn | hn | hn <;> rw [hn] at ht <;> simp_all
theorem wtest_long {n : Nat} (h : l.length < p + n) : wtest l p n = false ∨ n = 0 := by
  by_cases h0 : n = 0
  · exact .inr h0
  · left
    cases ht : wtest l p n with
    | false => rfl
    | true =>
      have := test_form ht
      unfold UForm at this
      omega
theorem wholeV_len (h : 0 ≤ wholeV l p) : uerr l p = 0 ∧ isChr (wholeV l p) = true ∧ (uenc (wholeV l p).toNat).length = ulen l p := by
  unfold wholeV at h ⊢
  by_cases he : uerr l p = 0
  · rw [if_pos he] at h ⊢
    have ht := form_test (uerr_form he)
    unfold wtest at ht
    rw [Bool.and_eq_true, Bool.and_eq_true, beq_iff_eq] at ht
    exact ⟨he, ht.1, ht.2.1⟩
  · rw [if_neg he] at h
    omega

end Go.Proofs.Ytmembanbemljoaa
