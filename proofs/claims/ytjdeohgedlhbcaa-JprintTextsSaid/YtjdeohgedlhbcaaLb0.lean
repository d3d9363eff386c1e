/- A slice of bytes that came in, as a pure cell; a law's range of numbers. -/
import Derived.Test.YtjdeohgedlhbcaaBase
import Derived.Test.YtjdeohgedlhbcaaAbB
namespace Go.Proofs.Ytjdeohgedlhbcaa
open Go.RowKit
set_option linter.unusedVariables false
set_option linter.unusedSimpArgs false

theorem bytesOk_pv (l : List UInt8) : bytesOk (bytePV l) = True := eq_true (bytePV_ok l)
theorem bytePV_len (l : List UInt8) : (bytePV l).length = l.length := by simp [bytePV]
/-- A slice of bytes that came in, as a pure cell. -/
theorem bytes_rep {W : World} {a : Option Addr} {b off c : Nat} {l : List UInt8} (h : BytesAt W a b off l) (hlc : l.length ≤ c) (hcm : c ≤ maxLen) (n0 : a = none → c = 0) : PRep W (fun k => k < W.heap.size) (.sl 1 (bytePV l)) (.slice a l.length c) := by
  have hl : (bytePV l).length = l.length := bytePV_len l
  rw [← hl]
  refine .sl (vss := l.map fun x => [.int .u8 (x.toNat : Int)]) (by omega) (by unfold maxLen at hcm; omega) n0 (fun hne => ?_) (by simp [bytePV]) (fun i e he => ?_) (fun i e he => ?_) (fun i j e vs p v he hv hp hv' => ?_)
  · have hne' : l ≠ [] := by intro e; subst e; exact hne rfl
    refine ⟨b, off, h.1 hne', h.lt hne', fun i vs hv j hj => ?_⟩
    rw [List.getElem?_map] at hv
    cases hq : l[i]? with
    | none => rw [hq] at hv; simp at hv
    | some x =>
      rw [hq] at hv
      obtain rfl := Option.some.inj hv
      simp at hj
      subst hj
      rw [Nat.mul_one, Nat.add_zero, h.2 i (List.getElem?_eq_some_iff.1 hq).1, hq]
      rfl
  · unfold bytePV at he
    rw [List.getElem?_map] at he
    cases hq : l[i]? with
    | none => rw [hq] at he; simp at he
    | some b => rw [hq] at he; obtain rfl := Option.some.inj he; rfl
  · rw [List.getElem?_map] at he
    cases hq : l[i]? with
    | none => rw [hq] at he; simp at he
    | some b => rw [hq] at he; obtain rfl := Option.some.inj he; rfl
  · unfold bytePV at he
    rw [List.getElem?_map] at he hv
    cases hq : l[i]? with
    | none => rw [hq] at he; simp at he
    | some b =>
      rw [hq] at he hv
      obtain rfl := Option.some.inj he
      obtain rfl := Option.some.inj hv
      cases j with
      | zero =>
        simp at hp hv'
        subst hp hv'
        exact .v rfl
      | succ j => simp at hp

end Go.Proofs.Ytjdeohgedlhbcaa
