/- Trees that may be, and the document's: plain (compact and nodup among them). -/
import Derived.Test.YtmmffaelkoinlaaGreatDoorSo
import Derived.Test.YtmmffaelkoinlaaGreatDoorRi
namespace Go.Proofs.YtmmffaelkoinlaaGreatDoor
open Go.RowKit
set_option linter.unusedVariables false
set_option linter.unusedSimpArgs false

theorem nodup_of {ks : List (List UInt8)} (h : (Lib.compact (srt ks)).length = ks.length) : ks.Nodup := by
  have hperm : (srt ks).Perm ks := List.mergeSort_perm ks _
  have hlen := srt_len ks
  have hsort : (srt ks).Pairwise fun a b => a ≤ b := by
    have := List.pairwise_mergeSort (le := fun x y : List UInt8 => decide (x ≤ y)) (fun a b c h1 h2 => by simp only [decide_eq_true_eq] at h1 h2 ⊢; exact List.le_trans h1 h2) (fun a b => by simp only [Bool.or_eq_true, decide_eq_true_eq]; exact List.le_total a b) ks
    exact this.imp fun h => by simpa using h
  generalize srt ks = L at h hperm hlen hsort
  refine hperm.nodup_iff.1 ?_
  have hk : ∀ j, j < L.length → Lib.keeps L.toArray j = true := by
    rw [← hlen] at h
    unfold Lib.compact Lib.compactUpTo at h
    rw [List.length_map] at h
    have h2 : ((List.range L.length).filter (Lib.keeps L.toArray)).length = (List.range L.length).length := by rw [h, List.length_range]
    intro j hj
    exact List.length_filter_eq_length_iff.1 h2 j (List.mem_range.2 hj)
  rw [List.nodup_iff_pairwise_ne, List.pairwise_iff_getElem]
  intro i j hi hj hij heq
  have h1 := List.pairwise_iff_getElem.1 hsort
  have hk1 := hk (i + 1) (by omega)
  have hle1 := h1 i (i + 1) hi (by omega) (by omega)
  have hle2 : L[i + 1]'(by omega) ≤ L[j] := by
    rcases Nat.lt_or_ge (i + 1) j with h2 | h2
    · exact h1 (i + 1) j (by omega) hj h2
    · have : i + 1 = j := by omega
      subst this
      exact List.le_refl _
  rw [← heq] at hle2
  have he := List.le_antisymm hle1 hle2
  unfold Lib.keeps at hk1
  have g1 : L.toArray[i + 1]! = L[i + 1]'(by omega) := by simp [show i + 1 < L.length by omega]
  have g2 : L.toArray[i + 1 - 1]! = L[i] := by simp [hi]
  rw [g1, g2, he] at hk1
  simp at hk1
theorem compact_nodup {ks : List (List UInt8)} (h : ks.Nodup) : (Lib.compact (srt ks)).length = ks.length := by
  have hperm : (srt ks).Perm ks := List.mergeSort_perm ks _
  have hlen := srt_len ks
  have hnd := hperm.nodup_iff.2 h
  generalize srt ks = L at hperm hlen hnd ⊢
  have hk : ∀ j, j < L.length → Lib.keeps L.toArray j = true := by
    intro j hj
    unfold Lib.keeps
    by_cases h0 : j = 0
    · simp [h0]
    · have g1 : L.toArray[j]! = L[j] := by simp [hj]
      have g2 : L.toArray[j - 1]! = L[j - 1]'(by omega) := by simp [show j - 1 < L.length by omega]
      rw [g1, g2]
      have := List.pairwise_iff_getElem.1 (List.nodup_iff_pairwise_ne.1 hnd) (j - 1) j (by omega) hj (by omega)
      exact decide_eq_true (.inr fun e => this e.symm)
  unfold Lib.compact Lib.compactUpTo
  rw [List.length_map, List.length_filter_eq_length_iff.2 fun j hj => hk j (List.mem_range.1 hj), List.length_range, hlen]

end Go.Proofs.YtmmffaelkoinlaaGreatDoor

namespace Go.Proofs.YtmmffaelkoinlaaGreatDoor
open Go.RowKit
set_option linter.unusedVariables false
set_option linter.unusedSimpArgs false

/-- The document's first test of a tree; it fails. -/
def rfail : JT → Bool
  | .mk k n s ks xs => decide (k < 1) || decide (k > 6) || (decide (k ≠ 2) && decide (k ≠ 3) && decide (n ≠ 0)) || (decide (k = 2) && decide (n ≠ 0) && decide (n ≠ 1)) || (decide (k ≠ 4) && !s.isEmpty) || !isRight s
      || (decide (k < 5) && !xs.isEmpty) || (decide (k ≠ 6) && !ks.isEmpty) || (decide (k = 6) && decide (ks.length ≠ xs.length))
mutual
def rshape : JT → Bool
  | .mk k n s ks xs => !rfail (.mk k n s ks xs) && (ks.all isRight && decide ks.Nodup) && rshapes xs
def rshapes : List JT → Bool
  | [] => true
  | x :: xs => rshape x && rshapes xs
end
theorem right_empty : isRight [] = true := by decide +kernel
theorem deeps_le (m : Nat) : ∀ (xs : List JT) (n : Nat), tdeeps n xs ≤ m ↔ n ≤ m ∧ ∀ x ∈ xs, 1 + tdeep x ≤ m
  | [], n => by simp [tdeeps]
  | x :: xs, n => by
    rw [tdeeps, deeps_le m xs]
    simp only [List.mem_cons, forall_eq_or_imp]
    constructor
    · rintro ⟨h1, h2⟩; exact ⟨by omega, by omega, h2⟩
    · rintro ⟨h1, h2, h3⟩; exact ⟨by omega, h3⟩
theorem keyed_iff {k n : Int} {s : List UInt8} {ks : List (List UInt8)} {xs : List JT} : jkeyed (.mk k n s ks xs) = ((if k ≠ 6 then ks.isEmpty else decide (ks.length = xs.length)) && (ks.all isRight && decide ks.Nodup)) := by
  rw [jkeyed]
  by_cases h6 : k = 6
  · rw [if_neg (by simp [h6]), if_neg (by simp [h6])]
    have : decide ((Lib.compact (srt ks)).length = ks.length) = decide ks.Nodup := by
      rw [Bool.eq_iff_iff]
      simp only [decide_eq_true_eq]
      exact ⟨nodup_of, compact_nodup⟩
    rw [this, Bool.and_comm (ks.all isRight)]
  · rw [if_pos h6, if_pos h6]
    cases ks with
    | nil => simp
    | cons y ks => simp
theorem bare_iff (k n : Int) (s : List UInt8) (ks : List (List UInt8)) (xs : List JT) : (jbare (.mk k n s ks xs) && (if k ≠ 6 then ks.isEmpty else decide (ks.length = xs.length))) = !rfail (.mk k n s ks xs) := by
  rw [Bool.eq_iff_iff]
  unfold rfail
  rw [jbare]
  have hr := right_empty
  by_cases h1 : k = 1
  · subst h1; cases s <;> cases xs <;> cases ks <;> simp [hr]
  by_cases h2 : k = 2
  · subst h2; cases s <;> cases xs <;> cases ks <;> simp [hr]
    all_goals omega
  by_cases h3 : k = 3
  · subst h3; cases s <;> cases xs <;> cases ks <;> simp [hr]
  by_cases h4 : k = 4
  · subst h4; cases s <;> cases xs <;> cases ks <;> simp [hr]
  by_cases h5 : k = 5
  · subst h5; cases s <;> cases xs <;> cases ks <;> simp [hr]
  by_cases h6 : k = 6
  · subst h6; cases s <;> cases xs <;> cases ks <;> simp [hr]
  · have : k < 1 ∨ k > 6 := by omega
    simp [h1, h2, h3, h4, h5, h6, this]
    omega
mutual
theorem right_shape (d : Nat) (hd : d ≤ 32) : ∀ t : JT, jright d t = (decide (d + tdeep t ≤ 32) && rshape t)
  | .mk k n s ks xs => by
    rw [jright, rshape, keyed_iff, ← bare_iff, tdeep]
    by_cases hb : jbare (.mk k n s ks xs) = true
    · by_cases h56 : k = 5 ∨ k = 6
      · rw [if_pos h56]
        by_cases h32 : d = 32
        · subst h32
          have := (deeps_le 0 xs 1)
          have h1 : ¬ 32 + tdeeps 1 xs ≤ 32 := by
            intro h
            have := (deeps_le 0 xs 1).1 (by omega)
            omega
          rw [Bool.eq_iff_iff]
          simp [h1]
          omega
        · rw [rights_shapes (d + 1) (by omega) xs]
          have h2 : decide (d + tdeeps 1 xs ≤ 32) = (xs.all fun x => decide (d + 1 + tdeep x ≤ 32)) := by
            rw [Bool.eq_iff_iff]
            simp only [decide_eq_true_eq, List.all_eq_true]
            have := deeps_le (32 - d) xs 1
            constructor
            · intro h x hx
              have := (this.1 (by omega)).2 x hx
              omega
            · intro h
              have := this.2 ⟨by omega, fun x hx => by have := h x hx; omega⟩
              omega
          have h3 : decide (32 ≤ d) = false := by simp; omega
          rw [h2, hb, h3]
          simp only [Bool.false_and, Bool.not_false, Bool.and_true, Bool.true_and]
          generalize (xs.all fun x => decide (d + 1 + tdeep x ≤ 32)) = A
          generalize ((if k ≠ 6 then ks.isEmpty else decide (ks.length = xs.length)) && (ks.all isRight && decide ks.Nodup)) = Z
          cases A <;> cases Z <;> simp
      · rw [if_neg h56, bare_kids hb (fun h => h56 (.inl h)) (fun h => h56 (.inr h))]
        have h5 : decide (k = 5) = false := by simp; exact fun h => h56 (.inl h)
        have h6 : decide (k = 6) = false := by simp; exact fun h => h56 (.inr h)
        rw [h5, h6]
        simp [jrights, rshapes, hd, Bool.and_assoc]
    · simp [hb]
theorem rights_shapes (d : Nat) (hd : d ≤ 32) : ∀ xs : List JT, jrights d xs = ((xs.all fun x => decide (d + tdeep x ≤ 32)) && rshapes xs)
  | [] => rfl
  | x :: xs => by
    rw [jrights, rshapes, right_shape d hd x, rights_shapes d hd xs, List.all_cons]
    cases decide (d + tdeep x ≤ 32) <;> cases rshape x <;> simp
end
/-- May a tree be: the document's words. -/
theorem jR_shape (t : JT) : jR t = (decide (tdeep t ≤ 32) && rshape t) := by
  unfold jR
  rw [right_shape 0 (by omega) t, Nat.zero_add]

end Go.Proofs.YtmmffaelkoinlaaGreatDoor
