/- The reference's four hexadecimal digits. -/
import Derived.Test.YtmembanbemljoaaRef1
namespace Go.Proofs.Ytmembanbemljoaa
open Go.RowKit
set_option linter.unusedVariables false
set_option linter.unusedSimpArgs false

variable {w : World} {a : Option Addr} {b off c : Nat} {l : List UInt8}
set_option maxRecDepth 100000 in
set_option maxHeartbeats 4000000 in
theorem rfour_any (hb : BytesAt w a b off l) (hbig : l.length ≤ 1000000) (p : Nat) (hp : p ≤ 1000010) :
    Calls Try.prog 71 #[.slice a l.length c, .int .i64 (p : Int)] w fun r w' => r = .returned (.int .i64 (hexR (hxs l p 4))) ∧ w = w' := by
  obtain ⟨M, hM⟩ : ∃ M, M = hxs l p 4 := ⟨_, rfl⟩
  rw [← hM]
  replace hM := Lib.hid hM
  have hb' := Lib.hid hb
  clear hb
  go_enter Try.func71, Try.ntmps71
  go_wp2
  go_loop [5, 6] (fun v i => ∃ k n : Nat, k ≤ 4 ∧ Hid (hxs l p k = some n) ∧ i = .int .i64 ((p : Int) + (k : Int)) ∧ v = .int .i64 (n : Int)) (fun _ i => p + 4 - (intOf i).toNat)
  case atStart => exact ⟨0, 0, by omega, rfl, by simp, rfl⟩
  case round =>
    obtain ⟨k, n, hk, hn, rfl, rfl⟩ := hrel
    have hn16 := hxs_lt hn.out
    have h16 : 16 ^ k ≤ 16 ^ 4 := Nat.pow_le_pow_right (by omega) hk
    have hn5 : n < 65536 := by omega
    clear hn16 h16
    by_cases hk4 : k < 4
    · have hat := rat_any (c := c) hb'.out (p + k)
      rw [show ((p + k : Nat) : Int) = (p : Int) + (k : Int) from by omega] at hat
      have hx256 := (byteAt l (p + k)).toNat_lt
      obtain ⟨x, hx⟩ : ∃ x, x = (byteAt l (p + k)).toNat := ⟨_, rfl⟩
      rw [← hx] at hat hx256
      replace hat := Lib.hid hat
      have hr : (0 ≤ x ∧ x ≤ 47) ∨ (48 ≤ x ∧ x ≤ 57) ∨ (58 ≤ x ∧ x ≤ 64) ∨ (65 ≤ x ∧ x ≤ 70) ∨ (71 ≤ x ∧ x ≤ 96) ∨ (97 ≤ x ∧ x ≤ 102) ∨ (103 ≤ x ∧ x ≤ 255) := by omega
      rcases hr with hr | hr | hr | hr | hr | hr | hr
      · have d0 : decide ((48 : Int) ≤ (x : Int)) = false := by simp; omega
        have d1 : decide ((x : Int) ≤ 57) = true := by simp; omega
        have d2 : decide ((65 : Int) ≤ (x : Int)) = false := by simp; omega
        have d3 : decide ((x : Int) ≤ 70) = true := by simp; omega
        have d4 : decide ((97 : Int) ≤ (x : Int)) = false := by simp; omega
        have d5 : decide ((x : Int) ≤ 102) = true := by simp; omega
        have hnib : nibU (byteAt l (p + k)) = none := by
          unfold nibU
          rw [← hx, if_neg (by omega), if_neg (by omega), if_neg (by omega)]
        have hst := hxs_stop (by omega) hn.out hnib
        replace hn := Lib.hid hn
        clear hnib hx
        replace hr := Lib.hid hr
        go_wp2_with (go_at_call 70; refine hat.out.mono ?_; rintro r w' ⟨rfl, rfl⟩)
        go_ret
        rw [hM.out, hst]
        exact ⟨rfl, rfl⟩
      · have d0 : decide ((48 : Int) ≤ (x : Int)) = true := by simp; omega
        have d1 : decide ((x : Int) ≤ 57) = true := by simp; omega
        have d2 : decide ((65 : Int) ≤ (x : Int)) = false := by simp; omega
        have d3 : decide ((x : Int) ≤ 70) = true := by simp; omega
        have d4 : decide ((97 : Int) ≤ (x : Int)) = false := by simp; omega
        have d5 : decide ((x : Int) ≤ 102) = true := by simp; omega
        have hnib : nibU (byteAt l (p + k)) = some (x - 48) := by
          unfold nibU
          rw [← hx]
          rw [if_pos (by omega)]
        have hnx := hxs_next hn.out hnib
        replace hnx := Lib.hid hnx
        clear hnib hx
        replace hr := Lib.hid hr
        go_wp2_with (go_at_call 70; refine hat.out.mono ?_; rintro r w' ⟨rfl, rfl⟩)
        go_round
        case rel => exact ⟨k + 1, _, by omega, hnx, by first | rfl | (congr 1; omega), by have := hr.out; congr 1; omega⟩
        case measure => simp [intOf]; omega
      · have d0 : decide ((48 : Int) ≤ (x : Int)) = true := by simp; omega
        have d1 : decide ((x : Int) ≤ 57) = false := by simp; omega
        have d2 : decide ((65 : Int) ≤ (x : Int)) = false := by simp; omega
        have d3 : decide ((x : Int) ≤ 70) = true := by simp; omega
        have d4 : decide ((97 : Int) ≤ (x : Int)) = false := by simp; omega
        have d5 : decide ((x : Int) ≤ 102) = true := by simp; omega
        have hnib : nibU (byteAt l (p + k)) = none := by
          unfold nibU
          rw [← hx, if_neg (by omega), if_neg (by omega), if_neg (by omega)]
        have hst := hxs_stop (by omega) hn.out hnib
        replace hn := Lib.hid hn
        clear hnib hx
        replace hr := Lib.hid hr
        go_wp2_with (go_at_call 70; refine hat.out.mono ?_; rintro r w' ⟨rfl, rfl⟩)
        go_ret
        rw [hM.out, hst]
        exact ⟨rfl, rfl⟩
      · have d0 : decide ((48 : Int) ≤ (x : Int)) = true := by simp; omega
        have d1 : decide ((x : Int) ≤ 57) = false := by simp; omega
        have d2 : decide ((65 : Int) ≤ (x : Int)) = true := by simp; omega
        have d3 : decide ((x : Int) ≤ 70) = true := by simp; omega
        have d4 : decide ((97 : Int) ≤ (x : Int)) = false := by simp; omega
        have d5 : decide ((x : Int) ≤ 102) = true := by simp; omega
        have hnib : nibU (byteAt l (p + k)) = some (x - 55) := by
          unfold nibU
          rw [← hx]
          rw [if_neg (by omega), if_neg (by omega), if_pos (by omega)]
        have hnx := hxs_next hn.out hnib
        replace hnx := Lib.hid hnx
        clear hnib hx
        replace hr := Lib.hid hr
        go_wp2_with (go_at_call 70; refine hat.out.mono ?_; rintro r w' ⟨rfl, rfl⟩)
        go_round
        case rel => exact ⟨k + 1, _, by omega, hnx, by first | rfl | (congr 1; omega), by have := hr.out; congr 1; omega⟩
        case measure => simp [intOf]; omega
      · have d0 : decide ((48 : Int) ≤ (x : Int)) = true := by simp; omega
        have d1 : decide ((x : Int) ≤ 57) = false := by simp; omega
        have d2 : decide ((65 : Int) ≤ (x : Int)) = true := by simp; omega
        have d3 : decide ((x : Int) ≤ 70) = false := by simp; omega
        have d4 : decide ((97 : Int) ≤ (x : Int)) = false := by simp; omega
        have d5 : decide ((x : Int) ≤ 102) = true := by simp; omega
        have hnib : nibU (byteAt l (p + k)) = none := by
          unfold nibU
          rw [← hx, if_neg (by omega), if_neg (by omega), if_neg (by omega)]
        have hst := hxs_stop (by omega) hn.out hnib
        replace hn := Lib.hid hn
        clear hnib hx
        replace hr := Lib.hid hr
        go_wp2_with (go_at_call 70; refine hat.out.mono ?_; rintro r w' ⟨rfl, rfl⟩)
        go_ret
        rw [hM.out, hst]
        exact ⟨rfl, rfl⟩
      · have d0 : decide ((48 : Int) ≤ (x : Int)) = true := by simp; omega
        have d1 : decide ((x : Int) ≤ 57) = false := by simp; omega
        have d2 : decide ((65 : Int) ≤ (x : Int)) = true := by simp; omega
        have d3 : decide ((x : Int) ≤ 70) = false := by simp; omega
        have d4 : decide ((97 : Int) ≤ (x : Int)) = true := by simp; omega
        have d5 : decide ((x : Int) ≤ 102) = true := by simp; omega
        have hnib : nibU (byteAt l (p + k)) = some (x - 87) := by
          unfold nibU
          rw [← hx]
          rw [if_neg (by omega), if_pos (by omega)]
        have hnx := hxs_next hn.out hnib
        replace hnx := Lib.hid hnx
        clear hnib hx
        replace hr := Lib.hid hr
        go_wp2_with (go_at_call 70; refine hat.out.mono ?_; rintro r w' ⟨rfl, rfl⟩)
        go_round
        case rel => exact ⟨k + 1, _, by omega, hnx, by first | rfl | (congr 1; omega), by have := hr.out; congr 1; omega⟩
        case measure => simp [intOf]; omega
      · have d0 : decide ((48 : Int) ≤ (x : Int)) = true := by simp; omega
        have d1 : decide ((x : Int) ≤ 57) = false := by simp; omega
        have d2 : decide ((65 : Int) ≤ (x : Int)) = true := by simp; omega
        have d3 : decide ((x : Int) ≤ 70) = false := by simp; omega
        have d4 : decide ((97 : Int) ≤ (x : Int)) = true := by simp; omega
        have d5 : decide ((x : Int) ≤ 102) = false := by simp; omega
        have hnib : nibU (byteAt l (p + k)) = none := by
          unfold nibU
          rw [← hx, if_neg (by omega), if_neg (by omega), if_neg (by omega)]
        have hst := hxs_stop (by omega) hn.out hnib
        replace hn := Lib.hid hn
        clear hnib hx
        replace hr := Lib.hid hr
        go_wp2_with (go_at_call 70; refine hat.out.mono ?_; rintro r w' ⟨rfl, rfl⟩)
        go_ret
        rw [hM.out, hst]
        exact ⟨rfl, rfl⟩
    · obtain rfl : k = 4 := by omega
      have hMM := hM.out.trans hn.out
      replace hMM := Lib.hid hMM
      go_wp2_with fail
      go_ret
      rw [hMM.out]
      exact ⟨rfl, rfl⟩

end Go.Proofs.Ytmembanbemljoaa
