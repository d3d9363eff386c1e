/- The library's slices.Index and slices.Contains, of strings. -/
import Derived.Test.YtmembanbemljoaaJt
namespace Go.Proofs.Ytmembanbemljoaa
open Go.RowKit
set_option linter.unusedVariables false
set_option linter.unusedSimpArgs false

/-- The place of the first key that is this one; -1: there is none. -/
def idxS (key : List UInt8) (ks : List (List UInt8)) : Int := match ks.findIdx? (fun k => decide (key = k)) with | some i => (i : Int) | none => -1
theorem idxS_at {key : List UInt8} {ks : List (List UInt8)} {i : Nat} (h : ks[i]? = some key) (h0 : ∀ j, j < i → ks[j]? ≠ some key) : idxS key ks = (i : Int) := by
  unfold idxS
  have hi := (List.getElem?_eq_some_iff.1 h)
  have : ks.findIdx? (fun k => decide (key = k)) = some i := by
    rw [List.findIdx?_eq_some_iff_getElem]
    refine ⟨hi.1, by simp [hi.2], fun j hj => ?_⟩
    simp
    intro e
    exact h0 j hj (by rw [List.getElem?_eq_getElem (by have := hi.1; omega), e])
  rw [this]
theorem idxS_none {key : List UInt8} {ks : List (List UInt8)} (h0 : ∀ j, j < ks.length → ks[j]? ≠ some key) : idxS key ks = -1 := by
  unfold idxS
  have : ks.findIdx? (fun k => decide (key = k)) = none := by
    rw [List.findIdx?_eq_none_iff]
    intro x hx
    simp
    intro e
    obtain ⟨j, hj, hx⟩ := List.getElem_of_mem hx
    exact h0 j hj (by rw [List.getElem?_eq_getElem hj, hx, e])
  rw [this]
theorem idxS_mem (key : List UInt8) (ks : List (List UInt8)) : decide (0 ≤ idxS key ks) = decide (key ∈ ks) := by
  by_cases h : key ∈ ks
  · obtain ⟨i, hi⟩ : ∃ i, ks.findIdx? (fun k => decide (key = k)) = some i := by
      cases hf : ks.findIdx? (fun k => decide (key = k)) with
      | some i => exact ⟨i, rfl⟩
      | none =>
        rw [List.findIdx?_eq_none_iff] at hf
        have := hf key h
        simp at this
    unfold idxS
    rw [hi]
    simp [h]
  · have : ks.findIdx? (fun k => decide (key = k)) = none := by
      rw [List.findIdx?_eq_none_iff]
      intro x hx
      simp
      intro e
      exact h (e ▸ hx)
    unfold idxS
    rw [this]
    simp [h]
set_option maxRecDepth 100000 in
set_option maxHeartbeats 1000000 in
theorem sindex_any {W : World} {ok : Nat → Prop} {kv : Value} {ks : List (List UInt8)} (h : RowAt W ok kv ks.length 1 (ks.map strV)) (key : List UInt8) (hbig : ks.length ≤ 140737488351232) :
    Calls Try.prog 57 #[kv, .string (str key)] W fun r W' => r = .returned (.int .i64 (idxS key ks)) ∧ W = W' := by
  obtain ⟨_, a, c, rfl, hc, hrd⟩ := h
  have h0 : ∀ j, j < 0 → ks[j]? ≠ some key := fun j hj => absurd hj (by omega)
  replace h0 := Lib.hid h0
  replace hrd := Lib.hid hrd
  obtain ⟨R, hR⟩ : ∃ R, R = idxS key ks := ⟨_, rfl⟩
  rw [← hR]
  replace hR := Lib.hid hR
  have t1 := str_toList key
  go_enter Try.func57, Try.ntmps57
  go_wp2_with fail
  go_loopw [8] (fun t wr => ∃ k : Nat, t = .int .i64 (k : Int) ∧ k ≤ ks.length ∧ wr = W ∧ Hid (∀ j, j < k → ks[j]? ≠ some key)) (fun t _ => ks.length - (intOf t).toNat)
  case atStart => exact ⟨0, rfl, Nat.zero_le _, rfl, h0⟩
  case round =>
    obtain ⟨k, rfl, hk, rfl, hno⟩ := hrel
    clear h0
    by_cases hlt : k < ks.length
    · obtain ⟨b, off, rfl, _, hcell⟩ := hrd.out (by omega)
      have hlti : (k : Int) < (ks.length : Int) := by omega
      obtain ⟨x, hx⟩ : ∃ x, ks[k]? = some x := ⟨ks[k], List.getElem?_eq_getElem hlt⟩
      have c0 : wr.cell? ⟨b, off + k, none⟩ = some (.string (str x)) := by
        rw [hcell k (by omega), List.getElem?_map, hx]
        rfl
      have t2 := str_toList x
      by_cases hkx : key = x
      · have hr := idxS_at (ks := ks) (i := k) (by rw [hx, hkx]) hno.out
        rw [← hR.out] at hr
        subst hr
        subst hkx
        replace hx := Lib.hid hx
        clear hcell hno hrd hR
        go_wp2_with fail
        go_ret
        exact ⟨rfl, rfl⟩
      · have he : (key == x) = false := by simpa using hkx
        have hno2 := Lib.hid fun j (hj : j < k + 1) => (by
          rcases Nat.lt_or_ge j k with h | h
          · exact hno.out j h
          · rw [show j = k from by omega, hx]
            intro e
            exact hkx (Option.some.inj e).symm : ks[j]? ≠ some key)
        replace hkx := Lib.hid hkx
        replace hx := Lib.hid hx
        clear hcell hno hrd
        go_wp2_with fail
        go_roundw
        case rel => exact ⟨k + 1, rfl, by omega, by trivial, hno2⟩
        case measure => simp [intOf]; omega
    · obtain rfl : k = ks.length := by omega
      have hr := idxS_none hno.out
      rw [← hR.out] at hr
      subst hr
      clear hrd hlt hk hno hR
      go_wp2_with fail
      go_ret
      exact ⟨rfl, rfl⟩
set_option maxRecDepth 100000 in
set_option maxHeartbeats 400000 in
theorem scontains_any {W : World} {ok : Nat → Prop} {kv : Value} {ks : List (List UInt8)} (h : RowAt W ok kv ks.length 1 (ks.map strV)) (key : List UInt8) (hbig : ks.length ≤ 140737488351232) :
    Calls Try.prog 88 #[kv, .string (str key)] W fun r W' => r = .returned (.bool (decide (key ∈ ks))) ∧ W = W' := by
  have hc := Lib.hid (sindex_any h key hbig)
  have hm := idxS_mem key ks
  obtain ⟨i, hi⟩ : ∃ i, i = idxS key ks := ⟨_, rfl⟩
  rw [← hi] at hc hm
  replace hi := Lib.hid hi
  rw [← hm]
  clear h hm
  go_enter Try.func88, Try.ntmps88
  go_wp2_with fail
  refine hc.out.mono ?_
  rintro r W' ⟨rfl, rfl⟩
  go_wp2_with fail
  go_ret
  exact ⟨rfl, rfl⟩

end Go.Proofs.Ytmembanbemljoaa
