/- A law of bytes, out of its contract. -/
import Derived.Test.YtmembanbemljoaaAw
namespace Go.Proofs.Ytmembanbemljoaa
open Go.RowKit
set_option linter.unusedVariables false
set_option linter.unusedSimpArgs false

theorem bytesOk_pv (l : List UInt8) : bytesOk (bytePV l) = True := eq_true (bytePV_ok l)
theorem bytePV_len (l : List UInt8) : (bytePV l).length = l.length := by simp [bytePV]
/-- A slice of bytes that came in, as a pure cell. -/
theorem bytes_rep {W : World} {a : Option Addr} {b off c : Nat} {l : List UInt8} (h : BytesAt W a b off l) (hlc : l.length ≤ c) (hcm : c ≤ maxLen) (n0 : a = none → c = 0) : PRep W (fun k => k < W.heap.size) (.sl 1 (bytePV l)) (.slice a l.length c) := by
  have hl : (bytePV l).length = l.length := bytePV_len l
  rw [← hl]
  refine .sl (vss := l.map fun x => [.int .u8 (x.toNat : Int)]) (by omega) (by unfold maxLen at hcm; omega) n0 (fun hne => ?_) (by simp [bytePV]) (fun i e he => ?_) (fun i e he => ?_) (fun i j e vs p v he hv hp hv' => ?_)
  · have hne' : l ≠ [] := by intro e; subst e; exact hne rfl
    refine ⟨b, off, h.1 hne', h.lt hne', fun i vs hv j hj => ?_⟩
    rw [List.getElem?_map] at hv
    cases hq : l[i]? with
    | none => rw [hq] at hv; simp at hv
    | some x =>
      rw [hq] at hv
      obtain rfl := Option.some.inj hv
      simp at hj
      subst hj
      rw [Nat.mul_one, Nat.add_zero, h.2 i (List.getElem?_eq_some_iff.1 hq).1, hq]
      rfl
  · unfold bytePV at he
    rw [List.getElem?_map] at he
    cases hq : l[i]? with
    | none => rw [hq] at he; simp at he
    | some b => rw [hq] at he; obtain rfl := Option.some.inj he; rfl
  · rw [List.getElem?_map] at he
    cases hq : l[i]? with
    | none => rw [hq] at he; simp at he
    | some b => rw [hq] at he; obtain rfl := Option.some.inj he; rfl
  · unfold bytePV at he
    rw [List.getElem?_map] at he hv
    cases hq : l[i]? with
    | none => rw [hq] at he; simp at he
    | some b =>
      rw [hq] at he hv
      obtain rfl := Option.some.inj he
      obtain rfl := Option.some.inj hv
      cases j with
      | zero =>
        simp at hp hv'
        subst hp hv'
        exact .v rfl
      | succ j => simp at hp
/-- A law of bytes, out of its contract. -/
theorem law_bytes {f : FuncId} {l : List UInt8} (hT : Told Try.prog f [.c (.sl 1 (bytePV l))] (.c (.v (.bool true)))) {W : World} {a : Option Addr} {b off c : Nat} (h : BytesAt W a b off l) (hlc : l.length ≤ c) (hcm : c ≤ maxLen) (n0 : a = none → c = 0) :
    Calls Try.prog f #[.slice a l.length c] W fun e W' => e = .returned (.bool true) ∧ Below W.heap.size W W' := by
  refine (hT.2 W (fun k => k < W.heap.size) [.slice a l.length c] (fun _ h => h) ⟨rfl, fun j x v h1 h2 => ?_⟩).mono ?_
  · cases j with
    | zero => simp at h1 h2; subst h1 h2; exact .c (bytes_rep h hlc hcm n0)
    | succ j => simp at h1
  · rintro e W' ⟨v, ro', rfl, hb, _, _, hr, _⟩
    obtain rfl := rep_prim hr
    exact ⟨rfl, hb⟩


end Go.Proofs.Ytmembanbemljoaa
