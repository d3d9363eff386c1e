/- The walk of the law FingerSums. -/
import Derived.Test.YtmembanbemljoaaFinw
namespace Go.Proofs.Ytmembanbemljoaa
open Go.RowKit
set_option linter.unusedVariables false
set_option linter.unusedSimpArgs false

set_option maxHeartbeats 1000000 in
theorem fingerSums_walk (a : Option Addr) (b off c : Nat) (l : List UInt8) (h : Nat) (s : ByteArray) (w : World) (hb : BytesAt w a b off l) (hh : h < 18446744073709551616) (hl : l.length ≤ 9223372036854775807) (hs : s.size ≤ 9223372036854775807) :
    Calls Try.prog 3 #[.slice a l.length c, .int .u64 (h : Int), .string s] w fun e w' => e = .returned (.bool true) ∧ Below w.heap.size w w' := by
  by_cases h1 : 3000 < l.length ∨ 3000 < s.size
  · rcases h1 with h1 | h1
    · go_enter Try.func3, Try.ntmps3
      go_wp2_with (go_at_call 14; refine (works16_any _).mono ?_; rintro e w' ⟨rfl, hbel⟩)
      all_goals (go_ret; exact ⟨rfl, by assumption⟩)
    · by_cases h2 : 3000 < l.length
      · go_enter Try.func3, Try.ntmps3
        go_wp2_with (go_at_call 14; refine (works16_any _).mono ?_; rintro e w' ⟨rfl, hbel⟩)
        all_goals (go_ret; exact ⟨rfl, by assumption⟩)
      · go_enter Try.func3, Try.ntmps3
        go_wp2_with (go_at_call 14; refine (works16_any _).mono ?_; rintro e w' ⟨rfl, hbel⟩)
        all_goals (go_ret; exact ⟨rfl, by assumption⟩)
  · have h2 : l.length ≤ 3000 := by omega
    have h3 : s.size ≤ 3000 := by omega
    clear h1
    go_enter Try.func3, Try.ntmps3
    go_wp2_with fail
    refine (read_any s w (by omega)).mono ?_
    rintro e w' ⟨rfl, rfl⟩
    obtain ⟨R, hR⟩ : ∃ R, R = readh s.data.toList := ⟨_, rfl⟩
    rw [← hR]
    replace hR := Lib.hid hR
    go_wp2_with fail
    refine (refRead_any s w (by omega)).mono ?_
    rw [← hR.out]
    rintro e w' ⟨rfl, rfl⟩
    go_wp2_with fail
    refine (sum_any a b off c l w (by omega) hb).mono ?_
    rintro e w' ⟨rfl, rfl⟩
    go_wp2_with fail
    refine (refSum_any a b off c l w (by omega) hb).mono ?_
    rintro e w' ⟨rfl, rfl⟩
    go_wp2_with fail
    refine (more_any h a b off c l w hh (by omega) hb).mono ?_
    rintro e w' ⟨rfl, rfl⟩
    go_wp2_with fail
    refine (refMore_any h a b off c l w hh (by omega) hb).mono ?_
    rintro e w' ⟨rfl, rfl⟩
    go_wp2_with fail
    refine (hex_any h w hh).mono ?_
    rintro e w1 ⟨rfl, hb1⟩
    go_wp2_with fail
    refine (refHex_any h w1 hh).mono ?_
    rintro e w2 ⟨rfl, hb2⟩
    go_wp2_with fail
    refine (works16_any w2).mono ?_
    rintro e w3 ⟨rfl, hb3⟩
    go_wp2
    go_ret
    exact ⟨rfl, (hb1.trans (hb2.mono hb1.size)).trans (hb3.mono (Nat.le_trans hb1.size hb2.size))⟩

end Go.Proofs.Ytmembanbemljoaa
