/- The texts of words are texts of characters. -/
import Derived.Test.YtjdeohgedlhbcaaBak
import Derived.Test.YtjdeohgedlhbcaaJpa
namespace Go.Proofs.Ytjdeohgedlhbcaa
open Go.RowKit
set_option linter.unusedVariables false
set_option linter.unusedSimpArgs false

theorem right_app : ∀ (n : Nat) (s t : List UInt8), s.length ≤ n → isRight s = true → isRight t = true → isRight (s ++ t) = true := by
  intro n
  induction n with
  | zero =>
    intro s t hn _ ht
    obtain rfl := List.eq_nil_of_length_eq_zero (Nat.le_zero.1 hn)
    exact ht
  | succ n ih =>
    intro s t hn hs ht
    by_cases hne : s = []
    · subst hne; exact ht
    · have he : uerr s 0 = 0 := Classical.byContradiction fun h => by rw [right_bad hne h] at hs; simp at hs
      have hb := ulen_bound he
      rw [right_next hne he] at hs
      have hS : Same s 0 (s ++ t) 0 s.length := fun j hj => by rw [Nat.zero_add, List.getElem?_append_left hj]
      have he2 : uerr (s ++ t) 0 = 0 := (hS.uerr (by omega) (by omega)).symm.trans he
      have hl2 : ulen (s ++ t) 0 = ulen s 0 := (hS.ulen (by omega)).symm
      rw [right_next (by simp [hne]) he2, hl2, List.drop_append_of_le_length (by omega)]
      exact ih _ t (by simp; omega) hs ht
theorem right_char {l : List UInt8} {p : Nat} (he : uerr l p = 0) : isRight ((l.drop p).take (ulen l p)) = true := by
  have hb := ulen_bound he
  have hS : Same l p ((l.drop p).take (ulen l p)) 0 (ulen l p) := fun j hj => by rw [List.getElem?_take_of_lt (by omega), List.getElem?_drop, Nat.zero_add]
  have he2 := (hS.uerr hb.1 (Nat.le_refl _)).symm.trans he
  have hl2 := hS.ulen hb.1
  have hne : (l.drop p).take (ulen l p) ≠ [] := by
    rw [ne_eq, List.take_eq_nil_iff, List.drop_eq_nil_iff]
    omega
  rw [right_next hne he2, ← hl2, List.drop_of_length_le (by simp; omega)]
  exact right_nil
theorem u8n (n : Nat) (h : n < 256) : n.toUInt8.toNat = n := by simp; omega
theorem right_one {x : UInt8} (h : x.toNat < 128) : isRight [x] = true := by
  have he : uerr [x] 0 = 0 := by simp [uerr, ufirst, byteAt, h, ustat]
  rw [right_next (by simp) he]
  simp [ulen, ufirst, byteAt, h, right_nil]
theorem right_uenc {c : Nat} (h : isChr (c : Int) = true) : isRight (uenc c) = true := by
  unfold isChr at h
  simp at h
  unfold uenc
  split
  · exact right_one (by rw [u8n _ (by omega)]; assumption)
  · split
    · have h0 := u8n (192 + c / 64) (by omega)
      have h1 := u8n (128 + c % 64) (by omega)
      generalize (192 + c / 64).toUInt8 = x0 at h0 ⊢
      generalize (128 + c % 64).toUInt8 = x1 at h1 ⊢
      have hf : ufirst x0 = 2 := by unfold ufirst; rw [h0]; repeat' split <;> try omega
      have he : uerr [x0, x1] 0 = 0 := by
        simp [uerr, byteAt, hf, ustat, ustep, ucont, usec, ulo, uhi, h0, h1]
        repeat' split <;> try omega
      rw [right_next (by simp) he]
      simp [ulen, byteAt, hf, right_nil]
    · split
      · have h0 := u8n (224 + c / 4096) (by omega)
        have h1 := u8n (128 + c / 64 % 64) (by omega)
        have h2 := u8n (128 + c % 64) (by omega)
        generalize (224 + c / 4096).toUInt8 = x0 at h0 ⊢
        generalize (128 + c / 64 % 64).toUInt8 = x1 at h1 ⊢
        generalize (128 + c % 64).toUInt8 = x2 at h2 ⊢
        have hf : ufirst x0 = 3 := by unfold ufirst; rw [h0]; repeat' split <;> try omega
        have he : uerr [x0, x1, x2] 0 = 0 := by
          simp [uerr, byteAt, hf, ustat, ustep, ucont, usec, ulo, uhi, h0, h1, h2]
          repeat' split <;> try omega
        rw [right_next (by simp) he]
        simp [ulen, byteAt, hf, right_nil]
      · have h0 := u8n (240 + c / 262144) (by omega)
        have h1 := u8n (128 + c / 4096 % 64) (by omega)
        have h2 := u8n (128 + c / 64 % 64) (by omega)
        have h3 := u8n (128 + c % 64) (by omega)
        generalize (240 + c / 262144).toUInt8 = x0 at h0 ⊢
        generalize (128 + c / 4096 % 64).toUInt8 = x1 at h1 ⊢
        generalize (128 + c / 64 % 64).toUInt8 = x2 at h2 ⊢
        generalize (128 + c % 64).toUInt8 = x3 at h3 ⊢
        have hf : ufirst x0 = 4 := by unfold ufirst; rw [h0]; repeat' split <;> try omega
        have he : uerr [x0, x1, x2, x3] 0 = 0 := by
          simp [uerr, byteAt, hf, ustat, ustep, ucont, usec, ulo, uhi, h0, h1, h2, h3]
          repeat' split <;> try omega
        rw [right_next (by simp) he]
        simp [ulen, byteAt, hf, right_nil]
theorem escOf_low {c m : UInt8} (h : escOf c = some m) : m.toNat < 128 := by
  unfold escOf at h
  repeat' split at h
  all_goals first | (obtain rfl := Option.some.inj h; decide) | simp at h
theorem right_esc {l bs : List UInt8} {p q : Nat} (h : mEsc l p = some (bs, q)) : isRight bs = true := by
  unfold mEsc at h
  cases hm : escOf (byteAt l p) with
  | some m =>
    rw [hm] at h
    simp at h
    obtain ⟨rfl, rfl⟩ := h
    exact right_one (escOf_low hm)
  | none =>
    rw [hm] at h
    simp only [] at h
    split at h
    · split at h
      · split at h
        · simp at h
        · rename_i hv
          simp at h
          obtain ⟨rfl, rfl⟩ := h
          have hc := pairv_chr hv
          refine right_uenc ?_
          have : 0 ≤ pairv (hexR (hxs l (p + 1) 4)) (hexR (hxs l (p + 7) 4)) := by unfold isChr at hc; simp at hc; omega
          rw [Int.toNat_of_nonneg this]
          exact hc
      · split at h
        · rename_i hc
          simp at h
          obtain ⟨rfl, rfl⟩ := h
          refine right_uenc ?_
          have : 0 ≤ hexR (hxs l (p + 1) 4) := by unfold isChr at hc; simp at hc; omega
          rw [Int.toNat_of_nonneg this]
          exact hc
        · simp at h
    · simp at h
theorem right_text {l : List UInt8} : ∀ (n p : Nat) (T S : List UInt8) (q : Nat), l.length - p ≤ n → isRight T = true → T.length ≤ p → mText l p T = some (S, q) → isRight S = true ∧ S.length ≤ l.length := by
  intro n
  induction n with
  | zero =>
    intro p T S q hn hT hl h
    rw [mText, dif_neg (by omega)] at h
    simp at h
  | succ n ih =>
    intro p T S q hn hT hl h
    by_cases hp : p < l.length
    · rw [mText, dif_pos hp] at h
      split at h
      · simp at h
      · split at h
        · simp at h
          obtain ⟨rfl, rfl⟩ := h
          exact ⟨hT, by omega⟩
        · split at h
          · cases he : mEsc l (p + 1) with
            | none => rw [he] at h; simp at h
            | some x =>
              obtain ⟨bs, q'⟩ := x
              rw [he] at h
              simp only [] at h
              have hb := mEsc_bound he
              split at h
              · exact ih q' _ S q (by omega) (right_app _ _ _ (Nat.le_refl _) hT (right_esc he)) (by simp; omega) h
              · simp at h
          · split at h
            · rename_i hu
              have hb := ulen_bound hu
              rw [dif_pos hb.1] at h
              exact ih _ _ S q (by omega) (right_app _ _ _ (Nat.le_refl _) hT (right_char hu)) (by simp; omega) h
            · simp at h
    · rw [mText, dif_neg hp] at h
      simp at h
theorem word_right (l : List UInt8) (p : Nat) : isRight (mWord l p).s = true ∧ (mWord l p).s.length ≤ l.length := by
  unfold mWord
  split
  · exact ⟨right_nil, by simp⟩
  · split
    · split
      · rename_i S q h
        exact right_text _ _ _ _ _ (Nat.le_refl _) right_nil (by simp) h
      · exact ⟨right_nil, by simp⟩
    · split
      · split <;> exact ⟨right_nil, by simp⟩
      · unfold mLet
        split
        · split <;> exact ⟨right_nil, by simp⟩
        · exact ⟨right_nil, by simp⟩
theorem take_right (l : List UInt8) (p : Nat) : isRight (mTakeN l p).s = true ∧ (mTakeN l p).s.length ≤ l.length := by
  unfold mTakeN
  split
  · exact ⟨right_nil, by simp⟩
  · split
    · exact word_right l _
    · exact ⟨right_nil, by simp⟩

end Go.Proofs.Ytjdeohgedlhbcaa
