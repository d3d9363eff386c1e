/- The reference's Pair, Character, Put, starts. -/
import Derived.Test.YtmembanbemljoaaRef1
namespace Go.Proofs.Ytmembanbemljoaa
open Go.RowKit
set_option linter.unusedVariables false
set_option linter.unusedSimpArgs false

variable {w : World} {a : Option Addr} {b off c : Nat} {l : List UInt8}
set_option maxRecDepth 100000 in
set_option maxHeartbeats 800000 in
theorem rpair_any (h x : Int) (w : World) (h0 : 55296 ≤ h) (h1 : h < 56320) (hx0 : -1 ≤ x) (hx1 : x < 65536) :
    Calls Try.prog 72 #[.int .i64 h, .int .i64 x] w fun r w' => r = .returned (.int .i64 (pairv h x)) ∧ w = w' := by
  have d1 : decide (h < 55296) = false := by simp; omega
  have d2 : decide (56319 < h) = false := by simp; omega
  have hr : (x < 56320) ∨ (56320 ≤ x ∧ x ≤ 57343) ∨ (57343 < x) := by omega
  rcases hr with hr | hr | hr
  · have hv : pairv h x = 0 := by unfold pairv; rw [if_neg (by omega)]
    have d3 : decide (x < 56320) = true := by simp; omega
    rw [hv]
    clear hv
    go_enter Try.func72, Try.ntmps72
    go_wp2
    go_ret
    exact ⟨rfl, rfl⟩
  · have hv : pairv h x = 65536 + (h - 55296) * 1024 + x - 56320 := by unfold pairv; exact if_pos (by omega)
    have d3 : decide (x < 56320) = false := by simp; omega
    have d4 : decide (57343 < x) = false := by simp; omega
    rw [hv]
    clear hv
    go_enter Try.func72, Try.ntmps72
    go_wp2
    go_ret
    exact ⟨rfl, rfl⟩
  · have hv : pairv h x = 0 := by unfold pairv; rw [if_neg (by omega)]
    have d3 : decide (x < 56320) = false := by simp; omega
    have d4 : decide (57343 < x) = true := by simp; omega
    rw [hv]
    clear hv
    go_enter Try.func72, Try.ntmps72
    go_wp2
    go_ret
    exact ⟨rfl, rfl⟩

set_option maxRecDepth 100000 in
set_option maxHeartbeats 800000 in
theorem rchar_any (n : Int) (w : World) :
    Calls Try.prog 73 #[.int .i64 n] w fun r w' => r = .returned (.bool (isChr n)) ∧ w = w' := by
  have hr : (n < 0) ∨ (0 ≤ n ∧ n < 55296) ∨ (55296 ≤ n ∧ n ≤ 57343) ∨ (57343 < n ∧ n ≤ 1114111) ∨ 1114111 < n := by omega
  rcases hr with hr | hr | hr | hr | hr
  · rw [show isChr n = false from by unfold isChr; simp; omega]
    have d1 : decide (0 ≤ n) = false := by simp; omega
    go_enter Try.func73, Try.ntmps73
    go_wp2
    go_ret
    exact ⟨rfl, rfl⟩
  · rw [show isChr n = true from by unfold isChr; simp; omega]
    have d1 : decide (0 ≤ n) = true := by simp; omega
    have d2 : decide (n ≤ 1114111) = true := by simp; omega
    have d3 : decide (n < 55296) = true := by simp; omega
    go_enter Try.func73, Try.ntmps73
    go_wp2
    go_ret
    exact ⟨rfl, rfl⟩
  · rw [show isChr n = false from by unfold isChr; simp; omega]
    have d1 : decide (0 ≤ n) = true := by simp; omega
    have d2 : decide (n ≤ 1114111) = true := by simp; omega
    have d3 : decide (n < 55296) = false := by simp; omega
    have d4 : decide (57343 < n) = false := by simp; omega
    go_enter Try.func73, Try.ntmps73
    go_wp2
    go_ret
    exact ⟨rfl, rfl⟩
  · rw [show isChr n = true from by unfold isChr; simp; omega]
    have d1 : decide (0 ≤ n) = true := by simp; omega
    have d2 : decide (n ≤ 1114111) = true := by simp; omega
    have d3 : decide (n < 55296) = false := by simp; omega
    have d4 : decide (57343 < n) = true := by simp; omega
    go_enter Try.func73, Try.ntmps73
    go_wp2
    go_ret
    exact ⟨rfl, rfl⟩
  · rw [show isChr n = false from by unfold isChr; simp; omega]
    have d1 : decide (0 ≤ n) = true := by simp; omega
    have d2 : decide (n ≤ 1114111) = false := by simp; omega
    go_enter Try.func73, Try.ntmps73
    go_wp2
    go_ret
    exact ⟨rfl, rfl⟩

/-- What the reference's Put tells: a character's bytes in a new block. -/
def RPut (n : Nat) (w : World) (r : Ending) (w' : World) : Prop :=
  r = .returned (.slice (some ⟨w.heap.size, 0, none⟩) (uenc n).length (uenc n).length) ∧ w' = w.alloc (.cells ((uenc n).map bv).toArray 5)
theorem bv_of {x : UInt8} {z : Int} (h : (x.toNat : Int) = z) : bv x = .int .u8 z := by unfold bv; rw [h]
set_option maxRecDepth 100000 in
set_option maxHeartbeats 2000000 in
theorem rput_any (n : Nat) (w : World) (hn : n ≤ 1114111) :
    Calls Try.prog 74 #[.int .i64 (n : Int)] w (RPut n w) := by
  have hr : n < 128 ∨ (128 ≤ n ∧ n < 2048) ∨ (2048 ≤ n ∧ n < 65536) ∨ 65536 ≤ n := by omega
  obtain ⟨H, hH⟩ : ∃ H, w.heap.size = H := ⟨_, rfl⟩
  unfold RPut
  rw [hH]
  rcases hr with hr | hr | hr | hr
  · have hu : uenc n = [n.toUInt8] := by unfold uenc; rw [if_pos hr]
    rw [hu]
    clear hu
    have e0 := Lib.hid (bv_of (by simp; omega) : bv n.toUInt8 = .int .u8 (n))
    go_enter Try.func74, Try.ntmps74
    go_wp2
    go_ret
    refine ⟨rfl, ?_⟩
    simp only [List.map_cons, List.map_nil, e0.out]
  · have hu : uenc n = [(192 + n / 64).toUInt8, (128 + n % 64).toUInt8] := by unfold uenc; rw [if_neg (by omega), if_pos hr.2]
    rw [hu]
    clear hu
    have e0 := Lib.hid (bv_of (by simp; omega) : bv (192 + n / 64).toUInt8 = .int .u8 (192 + (n : Int) / 64))
    have e1 := Lib.hid (bv_of (by simp; omega) : bv (128 + n % 64).toUInt8 = .int .u8 (128 + (n : Int) % 64))
    have d1 : decide ((n : Int) < 128) = false := by simp; omega
    have q1 : (n : Int) / 64 < 32 := by omega
    have q2 : 0 ≤ (n : Int) / 64 := by omega
    go_enter Try.func74, Try.ntmps74
    go_wp2
    go_ret
    refine ⟨rfl, ?_⟩
    simp only [List.map_cons, List.map_nil, e0.out, e1.out]
  · have hu : uenc n = [(224 + n / 4096).toUInt8, (128 + n / 64 % 64).toUInt8, (128 + n % 64).toUInt8] := by unfold uenc; rw [if_neg (by omega), if_neg (by omega), if_pos hr.2]
    rw [hu]
    clear hu
    have e0 := Lib.hid (bv_of (by simp; omega) : bv (224 + n / 4096).toUInt8 = .int .u8 (224 + (n : Int) / 4096))
    have e1 := Lib.hid (bv_of (by simp; omega) : bv (128 + n / 64 % 64).toUInt8 = .int .u8 (128 + (n : Int) / 64 % 64))
    have e2 := Lib.hid (bv_of (by simp; omega) : bv (128 + n % 64).toUInt8 = .int .u8 (128 + (n : Int) % 64))
    have d1 : decide ((n : Int) < 128) = false := by simp; omega
    have d2 : decide ((n : Int) < 2048) = false := by simp; omega
    have d3 : decide ((n : Int) < 65536) = true := by simp; omega
    have q1 : (n : Int) / 4096 < 16 := by omega
    clear hr
    have q2 : 0 ≤ (n : Int) / 4096 := by omega
    have q3 : 0 ≤ (n : Int) / 64 := by omega
    go_enter Try.func74, Try.ntmps74
    go_wp2
    go_ret
    refine ⟨rfl, ?_⟩
    simp only [List.map_cons, List.map_nil, e0.out, e1.out, e2.out]
  · have hu : uenc n = [(240 + n / 262144).toUInt8, (128 + n / 4096 % 64).toUInt8, (128 + n / 64 % 64).toUInt8, (128 + n % 64).toUInt8] := by unfold uenc; rw [if_neg (by omega), if_neg (by omega), if_neg (by omega)]
    rw [hu]
    clear hu
    have e0 := Lib.hid (bv_of (by simp; omega) : bv (240 + n / 262144).toUInt8 = .int .u8 (240 + (n : Int) / 262144))
    have e1 := Lib.hid (bv_of (by simp; omega) : bv (128 + n / 4096 % 64).toUInt8 = .int .u8 (128 + (n : Int) / 4096 % 64))
    have e2 := Lib.hid (bv_of (by simp; omega) : bv (128 + n / 64 % 64).toUInt8 = .int .u8 (128 + (n : Int) / 64 % 64))
    have e3 := Lib.hid (bv_of (by simp; omega) : bv (128 + n % 64).toUInt8 = .int .u8 (128 + (n : Int) % 64))
    have d1 : decide ((n : Int) < 128) = false := by simp; omega
    have d2 : decide ((n : Int) < 2048) = false := by simp; omega
    have d3 : decide ((n : Int) < 65536) = false := by simp; omega
    have q1 : (n : Int) / 262144 < 5 := by omega
    have q2 : 0 ≤ (n : Int) / 262144 := by omega
    have q3 : 0 ≤ (n : Int) / 64 := by omega
    have q4 : 0 ≤ (n : Int) / 4096 := by omega
    go_enter Try.func74, Try.ntmps74
    go_wp2
    go_ret
    refine ⟨rfl, ?_⟩
    simp only [List.map_cons, List.map_nil, e0.out, e1.out, e2.out, e3.out]

theorem RPut.bytes {n : Nat} {w w' : World} {r : Ending} (h : RPut n w r w') : BytesAt w' (some ⟨w.heap.size, 0, none⟩) w.heap.size 0 (uenc n) := by
  obtain ⟨-, rfl⟩ := h
  exact BytesAt.made w (uenc n) _ _ _ _ rfl rfl

set_option maxRecDepth 100000 in
set_option maxHeartbeats 800000 in
theorem rstarts_any (a1 a2 : Option Addr) (b1 o1 c1 b2 o2 c2 : Nat) (l1 l2 : List UInt8) (n1 n2 : Nat) (w : World) (h1 : BytesAt w a1 b1 o1 l1) (h2 : BytesAt w a2 b2 o2 l2) (e1 : n1 = l1.length) (e2 : n2 = l2.length) (hc : n1 ≤ c1) :
    Calls Try.prog 92 #[.slice a1 n1 c1, .slice a2 n2 c2] w fun r w' => r = .returned (.bool (l2.isPrefixOf l1)) ∧ ∃ n, w' = w.drewN n := by
  by_cases hn : n2 ≤ n1
  · have hsl := slice_head a1 n1 c1 n2 (by omega)
    have s1 := fun n => ((h1.head n2).drewN n).toStr n2 c1 (by simp; omega)
    have s2 := fun n => (h2.drewN n).toStr n2 c2 e2
    have hv : ((str (l1.take n2)).toList == (str l2).toList) = l2.isPrefixOf l1 := by
      rw [str_toList, str_toList, e2, Bool.eq_iff_iff, beq_iff_eq, List.isPrefixOf_iff_prefix, List.prefix_iff_eq_take]
      exact eq_comm
    have hdd : decide ((n2 : Int) ≤ (n1 : Int)) = true := by simp; omega
    clear h1 h2 e1 e2
    go_enter Try.func92, Try.ntmps92
    go_wp2
    go_quiet (fail)
    go_wp2
    go_ret
    exact ⟨rfl, _, rfl⟩
  · have hv : l2.isPrefixOf l1 = false := by
      rw [Bool.eq_false_iff]
      intro h
      have := (List.isPrefixOf_iff_prefix.1 h).length_le
      omega
    rw [hv]
    have hd : decide ((n2 : Int) ≤ (n1 : Int)) = false := by simp; omega
    clear h1 h2 e1 e2 hv
    go_enter Try.func92, Try.ntmps92
    go_wp2
    go_quiet (fail)
    go_wp2
    go_ret
    exact ⟨rfl, _, rfl⟩

end Go.Proofs.Ytmembanbemljoaa
