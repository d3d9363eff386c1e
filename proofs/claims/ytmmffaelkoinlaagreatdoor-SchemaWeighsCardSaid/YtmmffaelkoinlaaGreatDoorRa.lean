/- Rows of the call's own, of plain cells. -/
import Derived.Test.YtmmffaelkoinlaaGreatDoorAbB
namespace Go.Proofs.YtmmffaelkoinlaaGreatDoor
open Go.RowKit
set_option linter.unusedVariables false
set_option linter.unusedSimpArgs false

def rA {α : Type} (f : α → List PV) (l : List α) : List (List AV) := l.map fun x => (f x).map .c
theorem rA_len {α : Type} (f : α → List PV) (l : List α) : (rA f l).length = l.length := by simp [rA]
theorem rA_nil {α : Type} (f : α → List PV) : rA f [] = [] := rfl
theorem rA_at {α : Type} {f : α → List PV} {l : List α} {i : Nat} {x : α} (h : l[i]? = some x) : (rA f l)[i]? = some ((f x).map .c) := by simp [rA, h]
theorem rA_set {α : Type} {f : α → List PV} (l : List α) (i : Nat) (x : α) : (rA f l).set i ((f x).map .c) = rA f (l.set i x) := by simp [rA, List.map_set]
theorem rA_one {α : Type} (f : α → List PV) (l : List α) (x : α) : rA f l ++ [(f x).map .c] = rA f (l ++ [x]) := by simp [rA]
theorem rA_app {α : Type} (f : α → List PV) (l m : List α) : rA f l ++ (m.map f).map (fun e => e.map .c) = rA f (l ++ m) := by simp [rA]
theorem rA_pv {α : Type} (f : α → List PV) (l : List α) : rA f l = (l.map f).map fun e => e.map AV.c := by simp [rA]
theorem renL_pv (ρ : Nat → Nat) : ∀ l : List PV, AV.renL ρ (l.map .c) = l.map .c
  | [] => rfl
  | x :: l => by rw [List.map_cons, AV.renL, renL_pv ρ l]; rfl
theorem rA_ren {α : Type} (ρ : Nat → Nat) (f : α → List PV) (l : List α) : (rA f l).map (AV.renL ρ) = rA f l := by
  unfold rA
  rw [List.map_map]
  apply List.map_congr_left
  intro x _
  exact renL_pv ρ _
theorem rA_sc {α : Type} {used : Nat → Prop} {h : Nat → Option Blkd} (f : α → List PV) (l : List α) : (∀ e ∈ rA f l, ∀ x ∈ e, Sc used h x) = True := eq_true fun e he x hx => by
  obtain ⟨b, _, rfl⟩ := List.mem_map.1 he
  obtain ⟨p, _, rfl⟩ := List.mem_map.1 hx
  exact .c
theorem frz_rA {α : Type} {K : Nat → Bool} {h : Nat → Option Blkd} {j n : Nat} {T : TypeId} {z : Nat} {f : α → List PV} {l : List α} (hB : h j = some ⟨true, T, z, rA f l⟩) (hn : l.length = n) (hk : K j = false) (hz : ∀ x ∈ l, (f x).length = z) :
    Frz K h (.row j n) (.c (.sl z (l.map f))) := by
  refine Frz.row (B := ⟨true, T, z, rA f l⟩) hB rfl ?_ hk ?_ ?_ ?_
  · show (rA f l).length = n
    rw [rA_len, hn]
  · simp [rA_len]
  · intro i e e' h1 h2
    rw [rA_pv, List.getElem?_map, h2] at h1
    obtain rfl := Option.some.inj h1
    simp
  · intro i k e e' x p h1 h2 h3 h4
    rw [rA_pv, List.getElem?_map, h2] at h1
    obtain rfl := Option.some.inj h1
    rw [List.getElem?_map, h4] at h3
    obtain rfl := Option.some.inj h3
    exact .c p

end Go.Proofs.YtmmffaelkoinlaaGreatDoor
