/- The reference's at, digit, letter. -/
import Derived.Test.YtmembanbemljoaaWrd
namespace Go.Proofs.Ytmembanbemljoaa
open Go.RowKit
set_option linter.unusedVariables false
set_option linter.unusedSimpArgs false

variable {w : World} {a : Option Addr} {b off c : Nat} {l : List UInt8}
set_option maxRecDepth 100000 in
set_option maxHeartbeats 400000 in
theorem rat_any (hb : BytesAt w a b off l) (i : Nat) :
    Calls Try.prog 70 #[.slice a l.length c, .int .i64 (i : Int)] w fun r w' => r = .returned (.int .u8 ((byteAt l i).toNat : Int)) ∧ w = w' := by
  by_cases hlt : i < l.length
  · have hc := hb.2 i hlt
    have hi := fun W => hb.idx l.length c rfl (i : Int) W (by omega) (by omega)
    rw [Int.toNat_natCast] at hi
    have hlt' : (i : Int) < (l.length : Int) := by omega
    have e : byteAt l i = l[i]?.getD 0 := rfl
    rw [← e] at hc
    clear e hb
    go_enter Try.func70, Try.ntmps70
    go_wp2
    go_ret
    exact ⟨rfl, rfl⟩
  · have hge : ¬ (i : Int) < (l.length : Int) := by omega
    have e : byteAt l i = 0 := by unfold byteAt; rw [List.getElem?_eq_none (by omega)]; rfl
    rw [e]
    clear e hb
    go_enter Try.func70, Try.ntmps70
    go_wp2
    go_ret
    exact ⟨rfl, rfl⟩

set_option maxHeartbeats 400000 in
theorem rdigit_any (c : UInt8) (w : World) :
    Calls Try.prog 46 #[.int .u8 (c.toNat : Int)] w fun r w' => r = .returned (.bool (isDig c)) ∧ w = w' := by
  have hc : c.toNat < 256 := c.toNat_lt
  have hd : isDig c = decide (48 ≤ c.toNat ∧ c.toNat ≤ 57) := rfl
  obtain ⟨x, hx⟩ : ∃ x, x = c.toNat := ⟨_, rfl⟩
  rw [← hx] at hc hd ⊢
  clear hx
  by_cases h1 : 48 ≤ x
  · by_cases h2 : x ≤ 57
    · rw [hd, show decide (48 ≤ x ∧ x ≤ 57) = true from by simp; omega]
      clear hd
      have h3 : decide ((x : Int) ≤ 57) = true := by simp; omega
      go_enter Try.func46, Try.ntmps46
      go_wp2
      go_ret
      exact ⟨rfl, rfl⟩
    · rw [hd, show decide (48 ≤ x ∧ x ≤ 57) = false from by simp; omega]
      clear hd
      have h3 : decide ((x : Int) ≤ 57) = false := by simp; omega
      go_enter Try.func46, Try.ntmps46
      go_wp2
      go_ret
      exact ⟨rfl, rfl⟩
  · rw [hd, show decide (48 ≤ x ∧ x ≤ 57) = false from by simp; omega]
    clear hd
    have h3 : decide ((48 : Int) ≤ (x : Int)) = false := by simp; omega
    go_enter Try.func46, Try.ntmps46
    go_wp2
    go_ret
    exact ⟨rfl, rfl⟩

set_option maxHeartbeats 800000 in
theorem rletter_any (c : UInt8) (w : World) :
    Calls Try.prog 75 #[.int .u8 (c.toNat : Int)] w fun r w' => r = .returned (.bool (isLet c)) ∧ w = w' := by
  have hc : c.toNat < 256 := c.toNat_lt
  have hl := isLet_eq c
  have hdig := rdigit_any c w
  obtain ⟨x, hx⟩ : ∃ x, x = c.toNat := ⟨_, rfl⟩
  have hd : isDig c = decide (48 ≤ x ∧ x ≤ 57) := by rw [hx]; rfl
  rw [← hx] at hc hl hdig ⊢
  clear hx
  replace hdig := Lib.hid hdig
  by_cases h1 : 48 ≤ x ∧ x ≤ 57
  · have hd1 : isDig c = true := by rw [hd]; simp; exact h1
    have hl1 : isLet c = true := by rw [hl, hd1]; rfl
    rw [hl1]
    clear hl hl1 hd h1
    go_enter Try.func75, Try.ntmps75
    go_wp2_with (go_at_call 46; refine hdig.out.mono ?_; rintro r w' ⟨rfl, rfl⟩)
    go_ret
    exact ⟨rfl, rfl⟩
  · have hd1 : isDig c = false := by rw [hd]; simp; omega
    have hl1 : isLet c = (decide (97 ≤ x ∧ x ≤ 122) || decide (65 ≤ x ∧ x ≤ 90)) := by rw [hl, hd1]; rfl
    clear hl hd
    by_cases h2 : 97 ≤ x
    · by_cases h3 : x ≤ 122
      · rw [hl1, show (decide (97 ≤ x ∧ x ≤ 122) || decide (65 ≤ x ∧ x ≤ 90)) = true from by simp; omega]
        clear hl1 h1
        have q2 : decide ((x : Int) ≤ 122) = true := by simp; omega
        go_enter Try.func75, Try.ntmps75
        go_wp2_with (go_at_call 46; refine hdig.out.mono ?_; rintro r w' ⟨rfl, rfl⟩)
        go_ret
        exact ⟨rfl, rfl⟩
      · rw [hl1, show (decide (97 ≤ x ∧ x ≤ 122) || decide (65 ≤ x ∧ x ≤ 90)) = false from by simp; omega]
        clear hl1 h1
        have q2 : decide ((x : Int) ≤ 122) = false := by simp; omega
        have q3 : decide ((x : Int) ≤ 90) = false := by simp; omega
        go_enter Try.func75, Try.ntmps75
        go_wp2_with (go_at_call 46; refine hdig.out.mono ?_; rintro r w' ⟨rfl, rfl⟩)
        go_ret
        exact ⟨rfl, rfl⟩
    · have q1 : decide ((97 : Int) ≤ (x : Int)) = false := by simp; omega
      by_cases h4 : 65 ≤ x
      · by_cases h5 : x ≤ 90
        · rw [hl1, show (decide (97 ≤ x ∧ x ≤ 122) || decide (65 ≤ x ∧ x ≤ 90)) = true from by simp; omega]
          clear hl1 h1
          have q2 : decide ((x : Int) ≤ 90) = true := by simp; omega
          go_enter Try.func75, Try.ntmps75
          go_wp2_with (go_at_call 46; refine hdig.out.mono ?_; rintro r w' ⟨rfl, rfl⟩)
          go_ret
          exact ⟨rfl, rfl⟩
        · rw [hl1, show (decide (97 ≤ x ∧ x ≤ 122) || decide (65 ≤ x ∧ x ≤ 90)) = false from by simp; omega]
          clear hl1 h1
          have q2 : decide ((x : Int) ≤ 90) = false := by simp; omega
          go_enter Try.func75, Try.ntmps75
          go_wp2_with (go_at_call 46; refine hdig.out.mono ?_; rintro r w' ⟨rfl, rfl⟩)
          go_ret
          exact ⟨rfl, rfl⟩
      · rw [hl1, show (decide (97 ≤ x ∧ x ≤ 122) || decide (65 ≤ x ∧ x ≤ 90)) = false from by simp; omega]
        clear hl1 h1
        have q2 : decide ((65 : Int) ≤ (x : Int)) = false := by simp; omega
        go_enter Try.func75, Try.ntmps75
        go_wp2_with (go_at_call 46; refine hdig.out.mono ?_; rintro r w' ⟨rfl, rfl⟩)
        go_ret
        exact ⟨rfl, rfl⟩

end Go.Proofs.Ytmembanbemljoaa
