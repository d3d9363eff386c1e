/- The program's Put of a character, and Pair. -/
import Derived.Test.YtmembanbemljoaaUtft
namespace Go.Proofs.Ytmembanbemljoaa
open Go.RowKit
set_option linter.unusedVariables false
set_option linter.unusedSimpArgs false

theorem ret_int {k : IntKind} {a b : Int} (h : a = b) : Ending.returned (.int k a) = .returned (.int k b) := by rw [h]
theorem quiet_add_same {P : Program} {f : FuncId} {args : Array Value} {w : World} {a n : Nat} {v : Value}
    (h : Calls P f args (w.drewN (a + n)) fun e w' => e = .returned v ∧ w' = w.drewN (a + n)) :
    Calls P f args (w.drewN (a + n)) fun e w'' => e = .returned v ∧ ∃ m, w'' = w.drewN (a + m) :=
  h.mono fun _ _ ⟨he, hm⟩ => ⟨he, n, hm⟩
/-- Is a number a character? -/
def isChr (c : Int) : Bool := decide (0 ≤ c ∧ c ≤ 1114111 ∧ (c < 55296 ∨ 57344 ≤ c))
set_option maxRecDepth 100000 in
set_option maxHeartbeats 800000 in
theorem character_any (c : Int) (w : World) :
    Calls Try.prog 93 #[.int .i32 c] w fun r w' => r = .returned (.bool (isChr c)) ∧ w = w' := by
  by_cases h0 : 0 ≤ c
  · by_cases h1 : c ≤ 1114111
    · by_cases h2 : c < 55296
      · have hv : isChr c = true := by unfold isChr; simp; omega
        rw [hv]
        clear hv
        go_enter Try.func93, Try.ntmps93
        go_wp2
        go_ret
        exact ⟨rfl, rfl⟩
      · by_cases h3 : 57344 ≤ c
        · have hv : isChr c = true := by unfold isChr; simp; omega
          have d1 : decide (c < 55296) = false := by simpa using h2
          have d2 : decide (57344 ≤ c) = true := by simpa using h3
          rw [hv]
          clear hv
          go_enter Try.func93, Try.ntmps93
          go_wp2
          go_ret
          exact ⟨rfl, rfl⟩
        · have hv : isChr c = false := by unfold isChr; simp; omega
          have d1 : decide (c < 55296) = false := by simpa using h2
          have d2 : decide (57344 ≤ c) = false := by simpa using h3
          rw [hv]
          clear hv
          go_enter Try.func93, Try.ntmps93
          go_wp2
          go_ret
          exact ⟨rfl, rfl⟩
    · have hv : isChr c = false := by unfold isChr; simp; omega
      have d1 : decide (c ≤ 1114111) = false := by simpa using h1
      rw [hv]
      clear hv
      go_enter Try.func93, Try.ntmps93
      go_wp2
      go_ret
      exact ⟨rfl, rfl⟩
  · have hv : isChr c = false := by unfold isChr; simp; omega
    have d1 : decide (0 ≤ c) = false := by simpa using h0
    rw [hv]
    clear hv
    go_enter Try.func93, Try.ntmps93
    go_wp2
    go_ret
    exact ⟨rfl, rfl⟩

def uleast (n : Int) : Int := if n = 2 then 128 else if n = 3 then 2048 else if n = 4 then 65536 else 0
set_option maxHeartbeats 800000 in
theorem least_any (n : Int) (w : World) (hn : n = 2 ∨ n = 3 ∨ n = 4) :
    Calls Try.prog 94 #[.int .i64 n] w fun r w' => r = .returned (.int .i32 (uleast n)) ∧ w' = w := by
  rcases hn with rfl | rfl | rfl
  all_goals
    go_enter Try.func94, Try.ntmps94
    go_wp2
    go_ret
    exact ⟨rfl, rfl⟩

/-- The character of two surrogates; 0: they are none. -/
def pairv (h l : Int) : Int := if 55296 ≤ h ∧ h < 56320 ∧ 56320 ≤ l ∧ l < 57344 then 65536 + (h - 55296) * 1024 + l - 56320 else 0
def pairok (h l : Int) : Bool := decide (55296 ≤ h ∧ h < 56320 ∧ 56320 ≤ l ∧ l < 57344)
set_option maxRecDepth 100000 in
set_option maxHeartbeats 800000 in
theorem pair_any (h l : Int) (w : World) (h0 : 55296 ≤ h) (h1 : h < 56320) :
    Calls Try.prog 90 #[.int .i32 h, .int .i32 l] w fun r w' => r = .returned (.tuple #[.int .i32 (pairv h l), .bool (pairok h l)]) ∧ w = w' := by
  by_cases h2 : 56320 ≤ l
  · by_cases h3 : l < 57344
    · have hv : pairv h l = 65536 + (h - 55296) * 1024 + l - 56320 := by unfold pairv; exact if_pos ⟨h0, h1, h2, h3⟩
      have ho : pairok h l = true := by unfold pairok; simp; omega
      rw [hv, ho]
      clear hv ho
      have d1 : decide (57344 ≤ l) = false := by simp; omega
      have d2 : decide (l < 56320) = false := by simp; omega
      have d3 : decide (56320 ≤ h) = false := by simp; omega
      have d4 : decide (h < 55296) = false := by simp; omega
      go_enter Try.func90, Try.ntmps90
      go_wp2
      go_ret2
      exact ⟨rfl, rfl⟩
    · have hv : pairv h l = 0 := by unfold pairv; rw [if_neg (by omega)]
      have ho : pairok h l = false := by unfold pairok; simp; omega
      rw [hv, ho]
      clear hv ho
      have d1 : decide (57344 ≤ l) = true := by simp; omega
      have d2 : decide (l < 56320) = false := by simp; omega
      have d3 : decide (56320 ≤ h) = false := by simp; omega
      have d4 : decide (h < 55296) = false := by simp; omega
      go_enter Try.func90, Try.ntmps90
      go_wp2
      go_ret2
      exact ⟨rfl, rfl⟩
  · have hv : pairv h l = 0 := by unfold pairv; rw [if_neg (by omega)]
    have ho : pairok h l = false := by unfold pairok; simp; omega
    rw [hv, ho]
    clear hv ho
    have d2 : decide (l < 56320) = true := by simp; omega
    have d3 : decide (56320 ≤ h) = false := by simp; omega
    have d4 : decide (h < 55296) = false := by simp; omega
    go_enter Try.func90, Try.ntmps90
    go_wp2
    go_ret2
    exact ⟨rfl, rfl⟩

set_option maxRecDepth 100000 in
set_option maxHeartbeats 800000 in
theorem part_any (i : Nat) (hi : i ≤ 2) (B c : Nat) (hc : c < 1114112) (w : World) (hB : w.cell? ⟨B, 0, none⟩ = some (.int .i32 (c : Int))) :
    Calls Try.prog 95 #[.int .i64 (i : Int), .pointer (some ⟨B, 0, none⟩)] w fun r w' => r = .returned (.int .u8 ((128 + c / 64 ^ i % 64 : Nat) : Int)) ∧ w = w' := by
  go_enter Try.func95, Try.ntmps95
  go_wp2
  go_ret
  refine ⟨?_, rfl⟩
  have e : (2 : Nat) ^ (6 * i) = 64 ^ i := by rw [Nat.pow_mul]
  have h1 : ((c : Int) / 2 ^ (6 * i)) = ((c / 64 ^ i : Nat) : Int) := by
    rw [← e]; simp
  refine ret_int ?_
  rw [h1]
  omega

/-- A character's bytes. -/
def uenc (c : Nat) : List UInt8 :=
  if c < 128 then [c.toUInt8] else if c < 2048 then [(192 + c / 64).toUInt8, (128 + c % 64).toUInt8]
  else if c < 65536 then [(224 + c / 4096).toUInt8, (128 + c / 64 % 64).toUInt8, (128 + c % 64).toUInt8]
  else [(240 + c / 262144).toUInt8, (128 + c / 4096 % 64).toUInt8, (128 + c / 64 % 64).toUInt8, (128 + c % 64).toUInt8]
theorem uenc_len (c : Nat) : (uenc c).length ≤ 4 := by
  unfold uenc
  split
  · simp
  · split
    · simp
    · split <;> simp
theorem OwnB.drewN {w : World} {base : Nat} {v : Value} {l : List UInt8} (h : OwnB w base v l) (n : Nat) : OwnB (w.drewN n) base v l := h
theorem OwnB.ne_blk {w : World} {base : Nat} {v : Value} {l : List UInt8} (h : OwnB w base v l) {B : Nat} {C : Array Value} {T : TypeId} (hb : Blk w B C T) (hT : T ≠ 5) : some B ≠ v.ownBlock := by
  rcases h.2 with ⟨rfl, _⟩ | ⟨g, cap, cur, rfl, _, hg, _⟩
  · simp [Value.ownBlock]
  · simp [Value.ownBlock]
    intro e
    subst e
    unfold Blk at hb
    rw [hb] at hg
    simp at hg
    exact hT hg.2
theorem BytesAt.one (w : World) (v : Int) (h0 : 0 ≤ v) (h1 : v < 256) (t : TypeId) (B : Nat) (hB : w.heap.size = B) : BytesAt (w.alloc (.cells #[.int .u8 v] t)) (some ⟨B, 0, none⟩) B 0 [v.toNat.toUInt8] := by
  refine BytesAt.made w _ _ t (0, 0) B hB ?_
  have : ((v.toNat % 256 : Nat) : Int) = v := by omega
  simp [this]

end Go.Proofs.Ytmembanbemljoaa
