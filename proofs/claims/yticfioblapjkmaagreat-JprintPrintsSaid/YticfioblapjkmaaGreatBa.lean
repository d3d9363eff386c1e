/- Slices of bytes, as the elder contracts have them. -/
import Derived.Test.YticfioblapjkmaaGreatTy
import Derived.Test.YticfioblapjkmaaGreatOwn
namespace Go.Proofs.YticfioblapjkmaaGreat
open Go.RowKit
set_option linter.unusedVariables false
set_option linter.unusedSimpArgs false

/-- A slice of bytes, as the elder contracts have it. -/
theorem bytes_at {W : World} {ro : Nat → Prop} {l : List UInt8} {v : Value} (h : PRep W ro (.sl 1 (bytePV l)) v) : ∃ a b off c, v = .slice a l.length c ∧ BytesAt W a b off l ∧ l.length ≤ c ∧ (a = none → c = 0) := by
  have hl : (bytePV l).length = l.length := by simp [bytePV]
  generalize hz : (1 : Nat) = z at h
  generalize hes : bytePV l = es at h
  cases h with
  | @sl _ _ a c vss hn hc hnil ha hvl hz1 hz2 hx =>
    subst hz hes
    by_cases hne : l = []
    · subst hne
      exact ⟨a, 0, 0, c, rfl, ⟨fun h => absurd rfl h, fun j hj => by simp at hj⟩, by simp, hnil⟩
    · obtain ⟨b, off, rfl, _, hcell⟩ := ha (by intro e; rw [e] at hl; simp at hl; exact hne (List.eq_nil_of_length_eq_zero hl.symm))
      refine ⟨_, b, off, c, by rw [hl], ⟨fun _ => rfl, fun j hj => ?_⟩, by omega, hnil⟩
      have hv : vss[j]? = some (vss[j]'(by omega)) := List.getElem?_eq_getElem _
      have hvz := hz2 j _ hv
      have h1 := hcell j _ hv 0 (by omega)
      have h2 : (vss[j]'(by omega))[0]? = some ((vss[j]'(by omega))[0]'(by omega)) := List.getElem?_eq_getElem _
      have he : (bytePV l)[j]? = some [.v (.int .u8 ((l[j]?.getD 0).toNat : Int))] := by
        unfold bytePV
        rw [List.getElem?_map, List.getElem?_eq_getElem hj]
        rfl
      have h3 := hx j 0 _ _ (.v (.int .u8 ((l[j]?.getD 0).toNat : Int))) _ he hv rfl h2
      generalize (vss[j]'(by omega))[0]'(by omega) = u at h2 h3
      cases h3 with
      | v _ =>
        rw [Nat.add_zero, Nat.mul_one, h2] at h1
        exact h1

end Go.Proofs.YticfioblapjkmaaGreat
