/- The reference's named. -/
import Derived.Test.YtmembanbemljoaaRef8
import Derived.Test.YtmembanbemljoaaRef4
import Derived.Test.YtmembanbemljoaaRef3
namespace Go.Proofs.Ytmembanbemljoaa
open Go.RowKit
set_option linter.unusedVariables false
set_option linter.unusedSimpArgs false

set_option maxRecDepth 100000 in
set_option maxHeartbeats 2000000 in
theorem rnamed_any {w : World} {a : Option Addr} {b off c : Nat} {l : List UInt8} (hb : BytesAt w a b off l) (hlen : l.length ≤ c) (hbig : l.length ≤ 1000000) (p : Nat) (s : ByteArray) (hs : s.size ≤ 10) (hp : p ≤ l.length) :
    Calls Try.prog 48 #[.slice a l.length c, .int .i64 (p : Int), .string s] w fun r w' => r = .returned (.bool (s.data.toList.isPrefixOf (l.drop p) && !isLet (byteAt l (p + s.size)))) ∧ w = w' := by
  obtain ⟨q, hq⟩ : ∃ q, q = p + s.size := ⟨_, rfl⟩
  have hpq : (p : Int) + (s.size : Int) = (q : Int) := by omega
  have hat := Lib.hid (rat_any (c := c) hb q)
  have hlt := Lib.hid fun w => rletter_any (byteAt l q) w
  rw [← hq]
  by_cases hle : q ≤ l.length
  · have hli : (q : Int) ≤ (l.length : Int) := by omega
    have hms := fun W => slice_mid a l.length c p q (by omega) (by omega) W
    have hst := (hb.mid hlen p q).toStr (q - p) (c - p) (by simp; omega)
    have hv : ((str ((l.drop p).take (q - p))).toList == s.toList) = s.data.toList.isPrefixOf (l.drop p) := by
      rw [str_toList, ByteArray.toList_eq, Bool.eq_iff_iff, beq_iff_eq, List.isPrefixOf_iff_prefix, List.prefix_iff_eq_take]
      rw [show s.data.toList.length = q - p from by have : s.size = s.data.toList.length := Array.length_toList.symm; omega]
      exact eq_comm
    obtain ⟨lt, hltv⟩ : ∃ lt, lt = isLet (byteAt l q) := ⟨_, rfl⟩
    rw [← hltv] at hlt ⊢
    obtain ⟨pr, hpr⟩ : ∃ pr, pr = s.data.toList.isPrefixOf (l.drop p) := ⟨_, rfl⟩
    rw [← hpr] at hv ⊢
    clear hb hltv hpr
    replace hq := Lib.hid hq
    cases pr
    all_goals
      go_enter Try.func48, Try.ntmps48
      go_wp2_with (first | (go_at_call 70; refine hat.out.mono ?_; rintro r w' ⟨rfl, rfl⟩) | (go_at_call 75; refine (hlt.out _).mono ?_; rintro r w' ⟨rfl, rfl⟩))
      go_ret
      exact ⟨rfl, rfl⟩
  · have hli : decide ((q : Int) ≤ (l.length : Int)) = false := by simp; omega
    have hpr : s.data.toList.isPrefixOf (l.drop p) = false := by
      rw [Bool.eq_false_iff]
      intro h
      have := (List.isPrefixOf_iff_prefix.1 h).length_le
      rw [List.length_drop] at this
      have h2 : s.size = s.data.toList.length := Array.length_toList.symm
      omega
    rw [hpr]
    clear hb hpr hat hlt
    replace hq := Lib.hid hq
    replace hle := Lib.hid hle
    go_enter Try.func48, Try.ntmps48
    go_wp2_with fail
    go_ret
    exact ⟨rfl, rfl⟩

end Go.Proofs.Ytmembanbemljoaa
