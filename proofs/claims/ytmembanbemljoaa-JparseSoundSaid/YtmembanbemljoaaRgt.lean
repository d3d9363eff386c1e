/- utf.Count and utf.Right. -/
import Derived.Test.YtmembanbemljoaaLexq
namespace Go.Proofs.Ytmembanbemljoaa
open Go.RowKit
set_option linter.unusedVariables false
set_option linter.unusedSimpArgs false

/-- How many characters there are from p on, k counted so far; or why not. -/
def uCnt (l : List UInt8) (p k : Nat) : Nat × Nat :=
  if h : p < l.length then (if h2 : uerr l p = 0 ∧ 0 < ulen l p then uCnt l (p + ulen l p) (k + 1) else (0, 11)) else (k, 0)
termination_by l.length - p
theorem uCnt_end {l : List UInt8} {p k : Nat} (h : ¬ p < l.length) : uCnt l p k = (k, 0) := by rw [uCnt, dif_neg h]
theorem uCnt_bad {l : List UInt8} {p k : Nat} (h : p < l.length) (h2 : uerr l p ≠ 0) : uCnt l p k = (0, 11) := by rw [uCnt, dif_pos h, dif_neg (fun x => h2 x.1)]
theorem uCnt_next {l : List UInt8} {p k : Nat} (h : p < l.length) (h2 : uerr l p = 0) : uCnt l p k = uCnt l (p + ulen l p) (k + 1) := by rw [uCnt, dif_pos h, dif_pos ⟨h2, (ulen_bound h2).1⟩]
def isRight (l : List UInt8) : Bool := decide ((uCnt l 0 0).2 = 0)
def CntRel (l : List UInt8) (M : Nat × Nat) (w : World) (v t : Value) (wr : World) : Prop := ∃ k p q : Nat, v = .int .i64 (k : Int) ∧ t = .int .i64 (p : Int) ∧ p ≤ l.length ∧ k ≤ p ∧ M = uCnt l p k ∧ wr = w.drewN q
set_option maxRecDepth 100000 in
set_option maxHeartbeats 4000000 in
theorem ucount_any {w : World} {a : Option Addr} {b off c : Nat} {l : List UInt8} (hb : BytesAt w a b off l) (hbig : l.length ≤ 140737488351232) :
    Calls Try.prog 49 #[.slice a l.length c] w fun r w' => r = .returned (.tuple #[.int .i64 ((uCnt l 0 0).1 : Int), .int .i64 ((uCnt l 0 0).2 : Int)]) ∧ ∃ n, w' = w.drewN n := by
  obtain ⟨M, hM⟩ : ∃ M, M = uCnt l 0 0 := ⟨_, rfl⟩
  rw [← hM]
  have h0 : CntRel l M w (.int .i64 0) (.int .i64 0) w := ⟨0, 0, 0, rfl, rfl, by omega, by omega, hM, rfl⟩
  replace h0 := Lib.hid h0
  have htk := Lib.hid fun q p hp => utake_any a b off c l p (w.drewN q) (hb.drewN q) hbig hp
  clear hb hM
  go_enter Try.func49, Try.ntmps49
  go_wp2_with fail
  go_loopw [4, 5] (fun v t wr => CntRel l M w v t wr) (fun _ t _ => l.length - (intOf t).toNat)
  case atStart => exact h0.out
  case round =>
    obtain ⟨k, p, q, rfl, rfl, hp, hk, hMk, rfl⟩ := hrel
    clear h0
    by_cases hlt : p < l.length
    · have hlti : (p : Int) < (l.length : Int) := by omega
      have htk := htk.out q p hp
      by_cases he : uerr l p = 0
      · have hb2 := ulen_bound he
        rw [utv_good he] at htk
        replace hMk := Lib.hid (hMk.trans (uCnt_next hlt he))
        have hpe : (p : Int) + (ulen l p : Int) = ((p + ulen l p : Nat) : Int) := by omega
        have hke : IntKind.i64.wrap ((k : Int) + 1) = ((k + 1 : Nat) : Int) := by simp [IntKind.wrap, IntKind.bits, IntKind.signed]; omega
        obtain ⟨k2, hk2⟩ : ∃ k2, k2 = k + 1 := ⟨_, rfl⟩
        rw [← hk2] at hke hMk
        replace hk2 := Lib.hid hk2
        replace hk := Lib.hid hk
        have hb2' := Lib.hid hb2
        obtain ⟨p2, hp2⟩ : ∃ p2, p2 = p + ulen l p := ⟨_, rfl⟩
        rw [← hp2] at hpe hMk
        rw [hpe] at htk
        replace hp2 := Lib.hid hp2
        replace htk := Lib.hid htk
        clear hpe hb2 he hp
        go_wp2_with fail
        refine htk.out.mono ?_
        rintro r w' ⟨rfl, rfl⟩
        go_wp2_with fail
        go_roundw
        case rel => exact ⟨k2, p2, _, rfl, rfl, by have := hp2.out; have := hb2'.out; omega, by have := hp2.out; have := hb2'.out; have := hk2.out; have := hk.out; omega, hMk.out, rfl⟩
        case measure => have := hp2.out; have := hb2'.out; simp [intOf]; omega
      · obtain ⟨e, hee⟩ : ∃ e, uerr l p = e := ⟨_, rfl⟩
        rw [utv_bad hee (hee ▸ he)] at htk
        have hez : ((e : Int) == 0) = false := by have : e ≠ 0 := hee ▸ he; simp; omega
        obtain rfl := hMk.trans (uCnt_bad hlt he)
        replace htk := Lib.hid htk
        clear he hee
        go_wp2_with fail
        refine htk.out.mono ?_
        rintro r w' ⟨rfl, rfl⟩
        go_wp2_with fail
        go_ret2
        exact ⟨rfl, _, rfl⟩
    · obtain rfl : p = l.length := by omega
      obtain rfl := hMk.trans (uCnt_end hlt)
      clear hp hlt
      go_wp2_with fail
      go_ret2
      exact ⟨rfl, _, rfl⟩

set_option maxRecDepth 100000 in
set_option maxHeartbeats 4000000 in
theorem uright_any {w : World} {a : Option Addr} {b off c : Nat} {l : List UInt8} (hb : BytesAt w a b off l) (hbig : l.length ≤ 140737488351232) :
    Calls Try.prog 30 #[.slice a l.length c] w fun r w' => r = .returned (.bool (isRight l)) ∧ ∃ n, w' = w.drewN n := by
  have hc := Lib.hid (ucount_any (c := c) hb hbig)
  obtain ⟨e, he⟩ : ∃ e, e = (uCnt l 0 0).2 := ⟨_, rfl⟩
  have hr : isRight l = decide (e = 0) := by unfold isRight; rw [← he]
  have hee : ((e : Int) == 0) = decide (e = 0) := by rw [Bool.eq_iff_iff]; simp
  rw [hr]
  rw [← he] at hc
  clear hb hr he
  go_enter Try.func30, Try.ntmps30
  go_wp2_with fail
  refine hc.out.mono ?_
  rintro r w' ⟨rfl, n, rfl⟩
  go_wp2_with fail
  go_ret
  exact ⟨rfl, _, rfl⟩

end Go.Proofs.Ytmembanbemljoaa
