/- JSON trees, and the place of a text among others: plain. -/
import Derived.Test.YtmmffaelkoinlaaGreatDoorBase
namespace Go.Proofs.YtmmffaelkoinlaaGreatDoor
open Go.RowKit
set_option linter.unusedVariables false
set_option linter.unusedSimpArgs false

/-- A tree: its kind, number, text, keys, items. -/
inductive JT where
  | mk (k : Int) (n : Int) (s : List UInt8) (ks : List (List UInt8)) (xs : List JT)
/-- The place of the first key that is this one; -1: there is none. -/
def idxS (key : List UInt8) (ks : List (List UInt8)) : Int := match ks.findIdx? (fun k => decide (key = k)) with | some i => (i : Int) | none => -1
theorem idxS_at {key : List UInt8} {ks : List (List UInt8)} {i : Nat} (h : ks[i]? = some key) (h0 : ∀ j, j < i → ks[j]? ≠ some key) : idxS key ks = (i : Int) := by
  unfold idxS
  have hi := (List.getElem?_eq_some_iff.1 h)
  have : ks.findIdx? (fun k => decide (key = k)) = some i := by
    rw [List.findIdx?_eq_some_iff_getElem]
    refine ⟨hi.1, by simp [hi.2], fun j hj => ?_⟩
    simp
    intro e
    exact h0 j hj (by rw [List.getElem?_eq_getElem (by have := hi.1; omega), e])
  rw [this]
theorem idxS_none {key : List UInt8} {ks : List (List UInt8)} (h0 : ∀ j, j < ks.length → ks[j]? ≠ some key) : idxS key ks = -1 := by
  unfold idxS
  have : ks.findIdx? (fun k => decide (key = k)) = none := by
    rw [List.findIdx?_eq_none_iff]
    intro x hx
    simp
    intro e
    obtain ⟨j, hj, hx⟩ := List.getElem_of_mem hx
    exact h0 j hj (by rw [List.getElem?_eq_getElem hj, hx, e])
  rw [this]
theorem idxS_mem (key : List UInt8) (ks : List (List UInt8)) : decide (0 ≤ idxS key ks) = decide (key ∈ ks) := by
  by_cases h : key ∈ ks
  · obtain ⟨i, hi⟩ : ∃ i, ks.findIdx? (fun k => decide (key = k)) = some i := by
      cases hf : ks.findIdx? (fun k => decide (key = k)) with
      | some i => exact ⟨i, rfl⟩
      | none =>
        rw [List.findIdx?_eq_none_iff] at hf
        have := hf key h
        simp at this
    unfold idxS
    rw [hi]
    simp [h]
  · have : ks.findIdx? (fun k => decide (key = k)) = none := by
      rw [List.findIdx?_eq_none_iff]
      intro x hx
      simp
      intro e
      exact h (e ▸ hx)
    unfold idxS
    rw [this]
    simp [h]

end Go.Proofs.YtmmffaelkoinlaaGreatDoor

namespace Go.Proofs.YtmmffaelkoinlaaGreatDoor
open Go.RowKit
set_option linter.unusedVariables false
set_option linter.unusedSimpArgs false

mutual
/-- All numbers are ones. -/
def JT.inr : JT → Prop
  | .mk k n s ks xs => (-9223372036854775808 ≤ n ∧ n ≤ 9223372036854775807) ∧ JT.inrL xs
def JT.inrL : List JT → Prop
  | [] => True
  | x :: xs => x.inr ∧ JT.inrL xs
end
theorem inrL_mem : ∀ {xs : List JT}, JT.inrL xs → ∀ x ∈ xs, x.inr
  | x :: xs, h, y, hy => by
    rcases List.mem_cons.1 hy with rfl | hy
    · exact h.1
    · exact inrL_mem h.2 y hy
theorem inrL_of : ∀ {xs : List JT}, (∀ x ∈ xs, x.inr) → JT.inrL xs
  | [], _ => trivial
  | x :: xs, h => ⟨h x (by simp), inrL_of fun y hy => h y (by simp [hy])⟩

end Go.Proofs.YtmmffaelkoinlaaGreatDoor
