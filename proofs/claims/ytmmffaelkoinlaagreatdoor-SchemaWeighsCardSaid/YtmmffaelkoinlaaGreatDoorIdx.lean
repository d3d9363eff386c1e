/- The place of the first element that a predicate holds of: plain. -/
import Derived.Test.YtmmffaelkoinlaaGreatDoorTy
namespace Go.Proofs.YtmmffaelkoinlaaGreatDoor
open Go.RowKit
set_option linter.unusedVariables false
set_option linter.unusedSimpArgs false

def idxP {α : Type} (p : α → Bool) (l : List α) : Int := match l.findIdx? p with | some i => (i : Int) | none => -1
theorem idxP_at {α : Type} {p : α → Bool} {l : List α} {i : Nat} {x : α} (h : l[i]? = some x) (hx : p x = true) (h0 : ∀ j y, j < i → l[j]? = some y → p y = false) : idxP p l = (i : Int) := by
  unfold idxP
  obtain ⟨hlt, he⟩ := List.getElem?_eq_some_iff.1 h
  have : l.findIdx? p = some i := by
    rw [List.findIdx?_eq_some_iff_getElem]
    refine ⟨hlt, by rw [he]; exact hx, fun j hj => ?_⟩
    have := h0 j _ hj (List.getElem?_eq_getElem (by omega))
    simp [this]
  rw [this]
theorem idxP_none {α : Type} {p : α → Bool} {l : List α} (h0 : ∀ j y, j < l.length → l[j]? = some y → p y = false) : idxP p l = -1 := by
  unfold idxP
  have : l.findIdx? p = none := by
    rw [List.findIdx?_eq_none_iff]
    intro x hx
    obtain ⟨j, hj, he⟩ := List.getElem_of_mem hx
    exact h0 j x hj (by rw [List.getElem?_eq_getElem hj, he])
  rw [this]
theorem idxP_any {α : Type} (p : α → Bool) (l : List α) : decide (idxP p l ≥ 0) = l.any p := by
  unfold idxP
  cases h : l.findIdx? p with
  | some i =>
    have := (List.findIdx?_eq_some_iff_getElem.1 h)
    obtain ⟨h1, h2, _⟩ := this
    have h3 : l.any p = true := List.any_eq_true.2 ⟨l[i], List.getElem_mem _, h2⟩
    rw [h3]
    simp
  | none =>
    rw [List.findIdx?_eq_none_iff] at h
    have h3 : l.any p = false := List.any_eq_false.2 fun x hx => by simpa using h x hx
    rw [h3]
    rfl
theorem sc_pureL {used : Nat → Prop} {h : Nat → Option Blkd} {l : List AV} (hp : AV.pureL l = true) : (∀ x ∈ l, Sc used h x) = True := eq_true fun x hx => (pure_ofL l hp x hx).sc
theorem pureL_app (l m : List AV) : AV.pureL (l ++ m) = (AV.pureL l && AV.pureL m) := by
  induction l with
  | nil => simp [AV.pureL]
  | cons x l ih => simp [AV.pureL, ih, Bool.and_assoc]

end Go.Proofs.YtmmffaelkoinlaaGreatDoor
