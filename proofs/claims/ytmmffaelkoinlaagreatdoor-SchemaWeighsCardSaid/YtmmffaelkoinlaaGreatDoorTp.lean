/- A contract of the shelf, of plain values alone, in this frame. -/
import Derived.Test.YtmmffaelkoinlaaGreatDoorAbB
namespace Go.Proofs.YtmmffaelkoinlaaGreatDoor
open Go.RowKit
set_option linter.unusedVariables false
set_option linter.unusedSimpArgs false

/-- A contract of the shelf, of plain values alone. -/
theorem told_plain {P : Program} {f : FuncId} {xs : List Value} {r : Value} (hE : Enters P f) (hr : r.oneCell' = true) (h : ∀ W : World, Calls P f xs.toArray W fun e w' => e = .returned r ∧ w' = W) : Told P f (xs.map fun x => .c (.v x)) (.c (.v r)) := by
  refine ⟨hE, fun W ro vs hro hgk hl => ?_⟩
  have hvs : vs = xs := by
    apply List.ext_getElem?
    intro k
    by_cases hk : k < xs.length
    · have hkv : k < vs.length := by rw [hl.1]; simpa using hk
      have := hl.2 k _ _ (by rw [List.getElem?_map, List.getElem?_eq_getElem hk]; rfl) (List.getElem?_eq_getElem hkv)
      rw [List.getElem?_eq_getElem hkv, rep_prim this, List.getElem?_eq_getElem hk]
    · rw [List.getElem?_eq_none (by rw [hl.1]; simpa using hk), List.getElem?_eq_none (by omega)]
  subst hvs
  refine (h W).mono ?_
  rintro e W' ⟨rfl, rfl⟩
  exact ⟨r, ro, rfl, Below.refl _ _, fun b h => h, fun b h => ⟨.inl h, hro b h⟩, .c (.v hr), .c _⟩

end Go.Proofs.YtmmffaelkoinlaaGreatDoor
