/- The reference of utf: Take. -/
import Derived.Test.YticfioblapjkmaaGreatTake
import Derived.Deep.RegionLaw
import Derived.Test.YticfioblapjkmaaGreatLexg
namespace Go.Proofs.YticfioblapjkmaaGreat
open Go.RowKit
set_option linter.unusedVariables false
set_option linter.unusedSimpArgs false

variable {w : World} {a : Option Addr} {b off c : Nat} {l : List UInt8}
set_option maxRecDepth 100000 in
set_option maxHeartbeats 800000 in
theorem rchar_any (n : Int) (w : World) :
    Calls Tryz.prog 93 #[.int .i64 n] w fun r w' => r = .returned (.bool (isChr n)) ∧ w = w' := by
  have hr : (n < 0) ∨ (0 ≤ n ∧ n < 55296) ∨ (55296 ≤ n ∧ n ≤ 57343) ∨ (57343 < n ∧ n ≤ 1114111) ∨ 1114111 < n := by omega
  rcases hr with hr | hr | hr | hr | hr
  · rw [show isChr n = false from by unfold isChr; simp; omega]
    have d1 : decide (0 ≤ n) = false := by simp; omega
    go_enter Tryz.func93, Tryz.ntmps93
    go_wp2
    go_ret
    exact ⟨rfl, rfl⟩
  · rw [show isChr n = true from by unfold isChr; simp; omega]
    have d1 : decide (0 ≤ n) = true := by simp; omega
    have d2 : decide (n ≤ 1114111) = true := by simp; omega
    have d3 : decide (n < 55296) = true := by simp; omega
    go_enter Tryz.func93, Tryz.ntmps93
    go_wp2
    go_ret
    exact ⟨rfl, rfl⟩
  · rw [show isChr n = false from by unfold isChr; simp; omega]
    have d1 : decide (0 ≤ n) = true := by simp; omega
    have d2 : decide (n ≤ 1114111) = true := by simp; omega
    have d3 : decide (n < 55296) = false := by simp; omega
    have d4 : decide (57343 < n) = false := by simp; omega
    go_enter Tryz.func93, Tryz.ntmps93
    go_wp2
    go_ret
    exact ⟨rfl, rfl⟩
  · rw [show isChr n = true from by unfold isChr; simp; omega]
    have d1 : decide (0 ≤ n) = true := by simp; omega
    have d2 : decide (n ≤ 1114111) = true := by simp; omega
    have d3 : decide (n < 55296) = false := by simp; omega
    have d4 : decide (57343 < n) = true := by simp; omega
    go_enter Tryz.func93, Tryz.ntmps93
    go_wp2
    go_ret
    exact ⟨rfl, rfl⟩
  · rw [show isChr n = false from by unfold isChr; simp; omega]
    have d1 : decide (0 ≤ n) = true := by simp; omega
    have d2 : decide (n ≤ 1114111) = false := by simp; omega
    go_enter Tryz.func93, Tryz.ntmps93
    go_wp2
    go_ret
    exact ⟨rfl, rfl⟩

/-- What the reference's Put tells: a character's bytes in a new block. -/
def RPut (n : Nat) (w : World) (r : Ending) (w' : World) : Prop :=
  r = .returned (.slice (some ⟨w.heap.size, 0, none⟩) (uenc n).length (uenc n).length) ∧ w' = w.alloc (.cells ((uenc n).map bv).toArray 5)
theorem bv_of {x : UInt8} {z : Int} (h : (x.toNat : Int) = z) : bv x = .int .u8 z := by unfold bv; rw [h]
set_option maxRecDepth 100000 in
set_option maxHeartbeats 2000000 in
theorem rput_any (n : Nat) (w : World) (hn : n ≤ 1114111) :
    Calls Tryz.prog 76 #[.int .i64 (n : Int)] w (RPut n w) := by
  have hr : n < 128 ∨ (128 ≤ n ∧ n < 2048) ∨ (2048 ≤ n ∧ n < 65536) ∨ 65536 ≤ n := by omega
  obtain ⟨H, hH⟩ : ∃ H, w.heap.size = H := ⟨_, rfl⟩
  unfold RPut
  rw [hH]
  rcases hr with hr | hr | hr | hr
  · have hu : uenc n = [n.toUInt8] := by unfold uenc; rw [if_pos hr]
    rw [hu]
    clear hu
    have e0 := Lib.hid (bv_of (by simp; omega) : bv n.toUInt8 = .int .u8 (n))
    go_enter Tryz.func76, Tryz.ntmps76
    go_wp2
    go_ret
    refine ⟨rfl, ?_⟩
    simp only [List.map_cons, List.map_nil, e0.out]
  · have hu : uenc n = [(192 + n / 64).toUInt8, (128 + n % 64).toUInt8] := by unfold uenc; rw [if_neg (by omega), if_pos hr.2]
    rw [hu]
    clear hu
    have e0 := Lib.hid (bv_of (by simp; omega) : bv (192 + n / 64).toUInt8 = .int .u8 (192 + (n : Int) / 64))
    have e1 := Lib.hid (bv_of (by simp; omega) : bv (128 + n % 64).toUInt8 = .int .u8 (128 + (n : Int) % 64))
    have d1 : decide ((n : Int) < 128) = false := by simp; omega
    have q1 : (n : Int) / 64 < 32 := by omega
    have q2 : 0 ≤ (n : Int) / 64 := by omega
    go_enter Tryz.func76, Tryz.ntmps76
    go_wp2
    go_ret
    refine ⟨rfl, ?_⟩
    simp only [List.map_cons, List.map_nil, e0.out, e1.out]
  · have hu : uenc n = [(224 + n / 4096).toUInt8, (128 + n / 64 % 64).toUInt8, (128 + n % 64).toUInt8] := by unfold uenc; rw [if_neg (by omega), if_neg (by omega), if_pos hr.2]
    rw [hu]
    clear hu
    have e0 := Lib.hid (bv_of (by simp; omega) : bv (224 + n / 4096).toUInt8 = .int .u8 (224 + (n : Int) / 4096))
    have e1 := Lib.hid (bv_of (by simp; omega) : bv (128 + n / 64 % 64).toUInt8 = .int .u8 (128 + (n : Int) / 64 % 64))
    have e2 := Lib.hid (bv_of (by simp; omega) : bv (128 + n % 64).toUInt8 = .int .u8 (128 + (n : Int) % 64))
    have d1 : decide ((n : Int) < 128) = false := by simp; omega
    have d2 : decide ((n : Int) < 2048) = false := by simp; omega
    have d3 : decide ((n : Int) < 65536) = true := by simp; omega
    have q1 : (n : Int) / 4096 < 16 := by omega
    clear hr
    have q2 : 0 ≤ (n : Int) / 4096 := by omega
    have q3 : 0 ≤ (n : Int) / 64 := by omega
    go_enter Tryz.func76, Tryz.ntmps76
    go_wp2
    go_ret
    refine ⟨rfl, ?_⟩
    simp only [List.map_cons, List.map_nil, e0.out, e1.out, e2.out]
  · have hu : uenc n = [(240 + n / 262144).toUInt8, (128 + n / 4096 % 64).toUInt8, (128 + n / 64 % 64).toUInt8, (128 + n % 64).toUInt8] := by unfold uenc; rw [if_neg (by omega), if_neg (by omega), if_neg (by omega)]
    rw [hu]
    clear hu
    have e0 := Lib.hid (bv_of (by simp; omega) : bv (240 + n / 262144).toUInt8 = .int .u8 (240 + (n : Int) / 262144))
    have e1 := Lib.hid (bv_of (by simp; omega) : bv (128 + n / 4096 % 64).toUInt8 = .int .u8 (128 + (n : Int) / 4096 % 64))
    have e2 := Lib.hid (bv_of (by simp; omega) : bv (128 + n / 64 % 64).toUInt8 = .int .u8 (128 + (n : Int) / 64 % 64))
    have e3 := Lib.hid (bv_of (by simp; omega) : bv (128 + n % 64).toUInt8 = .int .u8 (128 + (n : Int) % 64))
    have d1 : decide ((n : Int) < 128) = false := by simp; omega
    have d2 : decide ((n : Int) < 2048) = false := by simp; omega
    have d3 : decide ((n : Int) < 65536) = false := by simp; omega
    have q1 : (n : Int) / 262144 < 5 := by omega
    have q2 : 0 ≤ (n : Int) / 262144 := by omega
    have q3 : 0 ≤ (n : Int) / 64 := by omega
    have q4 : 0 ≤ (n : Int) / 4096 := by omega
    go_enter Tryz.func76, Tryz.ntmps76
    go_wp2
    go_ret
    refine ⟨rfl, ?_⟩
    simp only [List.map_cons, List.map_nil, e0.out, e1.out, e2.out, e3.out]

theorem RPut.bytes {n : Nat} {w w' : World} {r : Ending} (h : RPut n w r w') : BytesAt w' (some ⟨w.heap.size, 0, none⟩) w.heap.size 0 (uenc n) := by
  obtain ⟨-, rfl⟩ := h
  exact BytesAt.made w (uenc n) _ _ _ _ rfl rfl

set_option maxRecDepth 100000 in
set_option maxHeartbeats 800000 in
theorem rstarts_any (a1 a2 : Option Addr) (b1 o1 c1 b2 o2 c2 : Nat) (l1 l2 : List UInt8) (n1 n2 : Nat) (w : World) (h1 : BytesAt w a1 b1 o1 l1) (h2 : BytesAt w a2 b2 o2 l2) (e1 : n1 = l1.length) (e2 : n2 = l2.length) (hc : n1 ≤ c1) :
    Calls Tryz.prog 94 #[.slice a1 n1 c1, .slice a2 n2 c2] w fun r w' => r = .returned (.bool (l2.isPrefixOf l1)) ∧ ∃ n, w' = w.drewN n := by
  by_cases hn : n2 ≤ n1
  · have hsl := slice_head a1 n1 c1 n2 (by omega)
    have s1 := fun n => ((h1.head n2).drewN n).toStr n2 c1 (by simp; omega)
    have s2 := fun n => (h2.drewN n).toStr n2 c2 e2
    have hv : ((str (l1.take n2)).toList == (str l2).toList) = l2.isPrefixOf l1 := by
      rw [str_toList, str_toList, e2, Bool.eq_iff_iff, beq_iff_eq, List.isPrefixOf_iff_prefix, List.prefix_iff_eq_take]
      exact eq_comm
    have hdd : decide ((n2 : Int) ≤ (n1 : Int)) = true := by simp; omega
    clear h1 h2 e1 e2
    go_enter Tryz.func94, Tryz.ntmps94
    go_wp2
    go_quiet (fail)
    go_wp2
    go_ret
    exact ⟨rfl, _, rfl⟩
  · have hv : l2.isPrefixOf l1 = false := by
      rw [Bool.eq_false_iff]
      intro h
      have := (List.isPrefixOf_iff_prefix.1 h).length_le
      omega
    rw [hv]
    have hd : decide ((n2 : Int) ≤ (n1 : Int)) = false := by simp; omega
    clear h1 h2 e1 e2 hv
    go_enter Tryz.func94, Tryz.ntmps94
    go_wp2
    go_quiet (fail)
    go_wp2
    go_ret
    exact ⟨rfl, _, rfl⟩

end Go.Proofs.YticfioblapjkmaaGreat

namespace Go.Proofs.YticfioblapjkmaaGreat
open Go.RowKit
set_option linter.unusedVariables false
set_option linter.unusedSimpArgs false

variable {l : List UInt8} {p : Nat}
def bN (l : List UInt8) (i : Nat) : Nat := (byteAt l i).toNat
theorem bN_lt (l : List UInt8) (i : Nat) : bN l i < 256 := (byteAt l i).toNat_lt
/-- A character of n bytes stands at p. -/
def UForm (l : List UInt8) (p : Nat) (n : Nat) : Prop :=
  (n = 1 ∧ p < l.length ∧ bN l p < 128) ∨
  (n = 2 ∧ p + 1 < l.length ∧ 194 ≤ bN l p ∧ bN l p < 224 ∧ 128 ≤ bN l (p + 1) ∧ bN l (p + 1) < 192) ∨
  (n = 3 ∧ p + 2 < l.length ∧ 224 ≤ bN l p ∧ bN l p < 240 ∧ 128 ≤ bN l (p + 1) ∧ bN l (p + 1) < 192 ∧ 128 ≤ bN l (p + 2) ∧ bN l (p + 2) < 192 ∧ (bN l p = 224 → 160 ≤ bN l (p + 1)) ∧ (bN l p = 237 → bN l (p + 1) ≤ 159)) ∨
  (n = 4 ∧ p + 3 < l.length ∧ 240 ≤ bN l p ∧ bN l p < 245 ∧ 128 ≤ bN l (p + 1) ∧ bN l (p + 1) < 192 ∧ 128 ≤ bN l (p + 2) ∧ bN l (p + 2) < 192 ∧ 128 ≤ bN l (p + 3) ∧ bN l (p + 3) < 192 ∧ (bN l p = 240 → 144 ≤ bN l (p + 1)) ∧ (bN l p = 244 → bN l (p + 1) ≤ 143))
/-- The number that n bytes would be. -/
def cvN (l : List UInt8) (p n : Nat) : Int :=
  if n = 1 then (bN l p : Int) else if n = 2 then ((bN l p : Int) - 192) * 64 + ((bN l (p + 1) : Int) - 128)
  else if n = 3 then ((bN l p : Int) - 224) * 4096 + ((bN l (p + 1) : Int) - 128) * 64 + ((bN l (p + 2) : Int) - 128)
  else ((bN l p : Int) - 240) * 262144 + ((bN l (p + 1) : Int) - 128) * 4096 + ((bN l (p + 2) : Int) - 128) * 64 + ((bN l (p + 3) : Int) - 128)
def wtest (l : List UInt8) (p n : Nat) : Bool := isChr (cvN l p n) && (((uenc (cvN l p n).toNat).length == n) && (uenc (cvN l p n).toNat).isPrefixOf (l.drop p))

theorem ustep_zero {i : Nat} : ustep l p i = 0 ↔ p + i < l.length ∧ 128 ≤ bN l (p + i) ∧ bN l (p + i) < 192 ∧ (i = 1 → ulo (byteAt l p) ≤ bN l (p + i) ∧ bN l (p + i) ≤ uhi (byteAt l p)) := by
  unfold ustep ucont usec bN
  by_cases h : p + i < l.length
  · rw [if_pos h]
    simp only [decide_eq_true_eq]
    split
    · rename_i h2; simp only [h, true_and, true_iff]; exact ⟨h2.1.1, h2.1.2, h2.2⟩
    · rename_i h2
      constructor
      · intro h3; omega
      · intro h3; exact absurd ⟨⟨h3.2.1, h3.2.2.1⟩, h3.2.2.2⟩ h2
  · rw [if_neg h]
    constructor
    · intro h3; omega
    · intro h3; exact absurd h3.1 h
theorem ustat_zero {k : Nat} : ustat l p (k + 1) = 0 ↔ ustat l p k = 0 ∧ ustep l p (k + 1) = 0 := by
  simp only [ustat]
  split
  · rename_i h; simp [h]
  · rename_i h; simp [h]
theorem ulo_le (c : UInt8) : (c.toNat = 224 → ulo c = 160) ∧ (c.toNat = 240 → ulo c = 144) ∧ (c.toNat ≠ 224 → c.toNat ≠ 240 → ulo c = 128) := by
  unfold ulo
  refine ⟨fun h => by rw [if_pos h], fun h => by rw [if_neg (by omega), if_pos h], fun h h' => by rw [if_neg h, if_neg h']⟩
theorem uhi_le (c : UInt8) : (c.toNat = 237 → uhi c = 159) ∧ (c.toNat = 244 → uhi c = 143) ∧ (c.toNat ≠ 237 → c.toNat ≠ 244 → uhi c = 191) := by
  unfold uhi
  refine ⟨fun h => by rw [if_pos h], fun h => by rw [if_neg (by omega), if_pos h], fun h h' => by rw [if_neg h, if_neg h']⟩

theorem ufirst_one {c : UInt8} (h : c.toNat < 128) : ufirst c = 1 := by unfold ufirst; rw [if_pos h]
theorem ufirst_two {c : UInt8} (h : 194 ≤ c.toNat) (h' : c.toNat < 224) : ufirst c = 2 := by unfold ufirst; rw [if_neg (by omega), if_neg (by omega), if_pos h']
theorem ufirst_three {c : UInt8} (h : 224 ≤ c.toNat) (h' : c.toNat < 240) : ufirst c = 3 := by unfold ufirst; rw [if_neg (by omega), if_neg (by omega), if_neg (by omega), if_pos h']
theorem ufirst_four {c : UInt8} (h : 240 ≤ c.toNat) (h' : c.toNat < 245) : ufirst c = 4 := by unfold ufirst; rw [if_neg (by omega), if_neg (by omega), if_neg (by omega), if_neg (by omega), if_pos h']
theorem ufirst_none {c : UInt8} (h : (128 ≤ c.toNat ∧ c.toNat < 194) ∨ 245 ≤ c.toNat) : ufirst c = 0 := by
  unfold ufirst
  rcases h with h | h
  · rw [if_neg (by omega), if_pos (by omega)]
  · rw [if_neg (by omega), if_neg (by omega), if_neg (by omega), if_neg (by omega), if_neg (by omega)]

theorem form_uerr {n : Nat} (h : UForm l p n) : uerr l p = 0 ∧ ulen l p = n := by
  have hlo := ulo_le (byteAt l p)
  have hhi := uhi_le (byteAt l p)
  unfold UForm at h
  unfold uerr ulen
  rcases h with ⟨rfl, h0, h1⟩ | ⟨rfl, h0, h1, h2, h3, h4⟩ | ⟨rfl, h0, h1, h2, h3, h4, h5, h6, h7, h8⟩ | ⟨rfl, h0, h1, h2, h3, h4, h5, h6, h7, h8, h9, h10⟩
  · rw [if_pos h0, ufirst_one h1]
    exact ⟨rfl, rfl⟩
  · rw [if_pos (by omega), ufirst_two h1 h2]
    refine ⟨?_, rfl⟩
    rw [if_neg (by decide)]
    have e1 : ustep l p 1 = 0 := ustep_zero.2 ⟨h0, h3, h4, fun _ => by unfold bN at *; rw [hlo.2.2 (by omega) (by omega), hhi.2.2 (by omega) (by omega)]; omega⟩
    exact ustat_zero.2 ⟨rfl, e1⟩
  · rw [if_pos (by omega), ufirst_three h1 h2]
    refine ⟨?_, rfl⟩
    rw [if_neg (by decide)]
    have e1 : ustep l p 1 = 0 := ustep_zero.2 ⟨by omega, h3, h4, fun _ => by
      unfold bN at *
      constructor
      · by_cases q : (byteAt l p).toNat = 224
        · rw [hlo.1 q]; exact h7 q
        · rw [hlo.2.2 q (by omega)]; exact h3
      · by_cases q : (byteAt l p).toNat = 237
        · rw [hhi.1 q]; exact h8 q
        · rw [hhi.2.2 q (by omega)]; omega⟩
    have e2 : ustep l p 2 = 0 := ustep_zero.2 ⟨by omega, h5, h6, fun q => by omega⟩
    exact ustat_zero.2 ⟨ustat_zero.2 ⟨rfl, e1⟩, e2⟩
  · rw [if_pos (by omega), ufirst_four h1 h2]
    refine ⟨?_, rfl⟩
    rw [if_neg (by decide)]
    have e1 : ustep l p 1 = 0 := ustep_zero.2 ⟨by omega, h3, h4, fun _ => by
      unfold bN at *
      constructor
      · by_cases q : (byteAt l p).toNat = 240
        · rw [hlo.2.1 q]; exact h9 q
        · rw [hlo.2.2 (by omega) q]; exact h3
      · by_cases q : (byteAt l p).toNat = 244
        · rw [hhi.2.1 q]; exact h10 q
        · rw [hhi.2.2 (by omega) q]; omega⟩
    have e2 : ustep l p 2 = 0 := ustep_zero.2 ⟨by omega, h5, h6, fun q => by omega⟩
    have e3 : ustep l p 3 = 0 := ustep_zero.2 ⟨by omega, h7, h8, fun q => by omega⟩
    exact ustat_zero.2 ⟨ustat_zero.2 ⟨ustat_zero.2 ⟨rfl, e1⟩, e2⟩, e3⟩
theorem uerr_form (h : uerr l p = 0) : UForm l p (ulen l p) := by
  have hlo := ulo_le (byteAt l p)
  have hhi := uhi_le (byteAt l p)
  unfold uerr at h
  unfold ulen UForm
  by_cases hp : p < l.length
  · rw [if_pos hp] at h
    have hb := bN_lt l p
    unfold bN at hb
    have hr : (byteAt l p).toNat < 128 ∨ ((128 ≤ (byteAt l p).toNat ∧ (byteAt l p).toNat < 194) ∨ 245 ≤ (byteAt l p).toNat) ∨ (194 ≤ (byteAt l p).toNat ∧ (byteAt l p).toNat < 224) ∨ (224 ≤ (byteAt l p).toNat ∧ (byteAt l p).toNat < 240) ∨ (240 ≤ (byteAt l p).toNat ∧ (byteAt l p).toNat < 245) := by omega
    rcases hr with hr | hr | hr | hr | hr
    · rw [ufirst_one hr]; exact .inl ⟨rfl, hp, hr⟩
    · rw [ufirst_none hr, if_pos rfl] at h; omega
    · rw [ufirst_two hr.1 hr.2, if_neg (by decide)] at h
      rw [ufirst_two hr.1 hr.2]
      have e1 := ustep_zero.1 (ustat_zero.1 h).2
      exact .inr (.inl ⟨rfl, e1.1, hr.1, hr.2, e1.2.1, e1.2.2.1⟩)
    · rw [ufirst_three hr.1 hr.2, if_neg (by decide)] at h
      rw [ufirst_three hr.1 hr.2]
      have h2 := ustat_zero.1 h
      have e2 := ustep_zero.1 h2.2
      have e1 := ustep_zero.1 (ustat_zero.1 h2.1).2
      have e1' := e1.2.2.2 rfl
      refine .inr (.inr (.inl ⟨rfl, e2.1, hr.1, hr.2, e1.2.1, e1.2.2.1, e2.2.1, e2.2.2.1, fun q => ?_, fun q => ?_⟩))
      · rw [hlo.1 q] at e1'; exact e1'.1
      · rw [hhi.1 q] at e1'; exact e1'.2
    · rw [ufirst_four hr.1 hr.2, if_neg (by decide)] at h
      rw [ufirst_four hr.1 hr.2]
      have h3 := ustat_zero.1 h
      have e3 := ustep_zero.1 h3.2
      have h2 := ustat_zero.1 h3.1
      have e2 := ustep_zero.1 h2.2
      have e1 := ustep_zero.1 (ustat_zero.1 h2.1).2
      have e1' := e1.2.2.2 rfl
      refine .inr (.inr (.inr ⟨rfl, e3.1, hr.1, hr.2, e1.2.1, e1.2.2.1, e2.2.1, e2.2.2.1, e3.2.1, e3.2.2.1, fun q => ?_, fun q => ?_⟩))
      · rw [hlo.2.1 q] at e1'; exact e1'.1
      · rw [hhi.2.1 q] at e1'; exact e1'.2
  · rw [if_neg hp] at h; omega

end Go.Proofs.YticfioblapjkmaaGreat

namespace Go.Proofs.YticfioblapjkmaaGreat
open Go.RowKit
set_option linter.unusedVariables false
set_option linter.unusedSimpArgs false

variable {l : List UInt8} {p : Nat}
theorem drop_cons {l : List UInt8} {p : Nat} (h : p < l.length) : l.drop p = byteAt l p :: l.drop (p + 1) := by
  rw [List.drop_eq_getElem_cons h]
  unfold byteAt
  rw [List.getElem?_eq_getElem h]
  rfl
theorem pre_iff {l : List UInt8} : ∀ (xs : List UInt8) (p : Nat), xs ≠ [] → (xs.isPrefixOf (l.drop p) = true ↔ p + xs.length ≤ l.length ∧ ∀ i, i < xs.length → byteAt l (p + i) = xs[i]?.getD 0) := by
  intro xs
  induction xs with
  | nil => intro p h; exact absurd rfl h
  | cons x xs ih =>
    intro p _
    by_cases hp : p < l.length
    · rw [drop_cons hp, List.isPrefixOf_cons_cons, Bool.and_eq_true, beq_iff_eq]
      by_cases hx : xs = []
      · subst hx
        simp
        constructor
        · intro h; exact ⟨by omega, h.symm⟩
        · intro h; exact h.2.symm
      · rw [ih (p + 1) hx]
        constructor
        · rintro ⟨h1, h2, h3⟩
          refine ⟨by simp; omega, fun i hi => ?_⟩
          cases i with
          | zero => simpa using h1.symm
          | succ i =>
            have := h3 i (by simp at hi; omega)
            rw [show p + (i + 1) = p + 1 + i from by omega, this]
            simp
        · rintro ⟨h1, h2⟩
          refine ⟨by simpa using (h2 0 (by simp)).symm, by simp at h1; omega, fun i hi => ?_⟩
          have := h2 (i + 1) (by simp; omega)
          rw [show p + 1 + i = p + (i + 1) from by omega, this]
          simp
    · rw [List.drop_eq_nil_of_le (by omega)]
      constructor
      · intro h; simp at h
      · intro h; simp at h; omega
theorem u8_eq {c : UInt8} {n : Nat} (h : c.toNat = n) (hn : n < 256) : c = n.toUInt8 := by
  apply UInt8.toNat_inj.1
  simp
  omega
theorem u8_ne {c : UInt8} {n : Nat} (h : c = n.toUInt8) (hn : n < 256) : c.toNat = n := by
  rw [h]
  simp
  omega
theorem isChr_iff {c : Int} : isChr c = true ↔ 0 ≤ c ∧ c ≤ 1114111 ∧ (c < 55296 ∨ 57344 ≤ c) := by unfold isChr; simp

theorem form_test {n : Nat} (h : UForm l p n) : wtest l p n = true := by
  unfold UForm at h
  unfold wtest
  rw [Bool.and_eq_true, Bool.and_eq_true, isChr_iff, beq_iff_eq]
  rcases h with ⟨rfl, h0, h1⟩ | ⟨rfl, h0, h1, h2, h3, h4⟩ | ⟨rfl, h0, h1, h2, h3, h4, h5, h6, h7, h8⟩ | ⟨rfl, h0, h1, h2, h3, h4, h5, h6, h7, h8, h9, h10⟩
  · have hc : cvN l p 1 = (bN l p : Int) := rfl
    obtain ⟨c, e⟩ : ∃ c, c = (cvN l p 1).toNat := ⟨_, rfl⟩
    have hu : uenc c = [c.toUInt8] := by unfold uenc; rw [if_pos (by omega)]
    rw [← e, hu]
    refine ⟨by omega, rfl, (pre_iff _ p (by simp)).2 ⟨by simp; omega, fun i hi => ?_⟩⟩
    simp at hi
    subst hi
    exact u8_eq (by unfold bN at *; simp; omega) (by omega)
  · have hc : cvN l p 2 = ((bN l p : Int) - 192) * 64 + ((bN l (p + 1) : Int) - 128) := rfl
    obtain ⟨c, e⟩ : ∃ c, c = (cvN l p 2).toNat := ⟨_, rfl⟩
    have hu : uenc c = [(192 + c / 64).toUInt8, (128 + c % 64).toUInt8] := by unfold uenc; rw [if_neg (by omega), if_pos (by omega)]
    rw [← e, hu]
    refine ⟨by omega, rfl, (pre_iff _ p (by simp)).2 ⟨by simp; omega, fun i hi => ?_⟩⟩
    simp at hi
    have hi : i = 0 ∨ i = 1 := by omega
    rcases hi with rfl | rfl
    · exact u8_eq (by unfold bN at *; simp; omega) (by omega)
    · exact u8_eq (by unfold bN at *; omega) (by omega)
  · have hc : cvN l p 3 = ((bN l p : Int) - 224) * 4096 + ((bN l (p + 1) : Int) - 128) * 64 + ((bN l (p + 2) : Int) - 128) := rfl
    obtain ⟨c, e⟩ : ∃ c, c = (cvN l p 3).toNat := ⟨_, rfl⟩
    have hu : uenc c = [(224 + c / 4096).toUInt8, (128 + c / 64 % 64).toUInt8, (128 + c % 64).toUInt8] := by unfold uenc; rw [if_neg (by omega), if_neg (by omega), if_pos (by omega)]
    rw [← e, hu]
    refine ⟨by omega, rfl, (pre_iff _ p (by simp)).2 ⟨by simp; omega, fun i hi => ?_⟩⟩
    simp at hi
    have hi : i = 0 ∨ i = 1 ∨ i = 2 := by omega
    rcases hi with rfl | rfl | rfl
    · exact u8_eq (by unfold bN at *; simp; omega) (by omega)
    · exact u8_eq (by unfold bN at *; omega) (by omega)
    · exact u8_eq (by unfold bN at *; omega) (by omega)
  · have hc : cvN l p 4 = ((bN l p : Int) - 240) * 262144 + ((bN l (p + 1) : Int) - 128) * 4096 + ((bN l (p + 2) : Int) - 128) * 64 + ((bN l (p + 3) : Int) - 128) := rfl
    obtain ⟨c, e⟩ : ∃ c, c = (cvN l p 4).toNat := ⟨_, rfl⟩
    have hu : uenc c = [(240 + c / 262144).toUInt8, (128 + c / 4096 % 64).toUInt8, (128 + c / 64 % 64).toUInt8, (128 + c % 64).toUInt8] := by unfold uenc; rw [if_neg (by omega), if_neg (by omega), if_neg (by omega)]
    rw [← e, hu]
    refine ⟨by omega, rfl, (pre_iff _ p (by simp)).2 ⟨by simp; omega, fun i hi => ?_⟩⟩
    simp at hi
    have hi : i = 0 ∨ i = 1 ∨ i = 2 ∨ i = 3 := by omega
    rcases hi with rfl | rfl | rfl | rfl
    · exact u8_eq (by unfold bN at *; simp; omega) (by omega)
    · exact u8_eq (by unfold bN at *; omega) (by omega)
    · exact u8_eq (by unfold bN at *; omega) (by omega)
    · exact u8_eq (by unfold bN at *; omega) (by omega)
theorem uenc_cases (c : Nat) : (c < 128 ∧ uenc c = [c.toUInt8]) ∨ (128 ≤ c ∧ c < 2048 ∧ uenc c = [(192 + c / 64).toUInt8, (128 + c % 64).toUInt8]) ∨
    (2048 ≤ c ∧ c < 65536 ∧ uenc c = [(224 + c / 4096).toUInt8, (128 + c / 64 % 64).toUInt8, (128 + c % 64).toUInt8]) ∨ (65536 ≤ c ∧ uenc c = [(240 + c / 262144).toUInt8, (128 + c / 4096 % 64).toUInt8, (128 + c / 64 % 64).toUInt8, (128 + c % 64).toUInt8]) := by
  unfold uenc
  by_cases h1 : c < 128
  · exact .inl ⟨h1, if_pos h1⟩
  by_cases h2 : c < 2048
  · exact .inr (.inl ⟨by omega, h2, by rw [if_neg h1, if_pos h2]⟩)
  by_cases h3 : c < 65536
  · exact .inr (.inr (.inl ⟨by omega, h3, by rw [if_neg h1, if_neg h2, if_pos h3]⟩))
  · exact .inr (.inr (.inr ⟨by omega, by rw [if_neg h1, if_neg h2, if_neg h3]⟩))
/-- Where a character's own bytes stand a character of that size stands. -/
theorem enc_form {c : Nat} (hc : isChr (c : Int) = true) (h : (uenc c).isPrefixOf (l.drop p) = true) : UForm l p (uenc c).length := by
  have hch := isChr_iff.1 hc
  unfold UForm
  rcases uenc_cases c with ⟨h1, e⟩ | ⟨h1, h2, e⟩ | ⟨h1, h2, e⟩ | ⟨h1, e⟩
  · rw [e] at h ⊢
    obtain ⟨q1, q2⟩ := (pre_iff _ p (by simp)).1 h
    have b0 := u8_ne (q2 0 (by simp)) (by omega)
    simp at q1 b0
    refine .inl ⟨rfl, by omega, by unfold bN; omega⟩
  · rw [e] at h ⊢
    obtain ⟨q1, q2⟩ := (pre_iff _ p (by simp)).1 h
    have b0 := u8_ne (q2 0 (by simp)) (by omega)
    have b1 := u8_ne (q2 1 (by simp)) (by omega)
    simp only [Nat.add_zero, List.length_cons, List.length_nil] at q1 b0
    refine .inr (.inl ⟨rfl, by omega, ?_⟩)
    unfold bN
    omega
  · rw [e] at h ⊢
    obtain ⟨q1, q2⟩ := (pre_iff _ p (by simp)).1 h
    have b0 := u8_ne (q2 0 (by simp)) (by omega)
    have b1 := u8_ne (q2 1 (by simp)) (by omega)
    have b2 := u8_ne (q2 2 (by simp)) (by omega)
    simp only [Nat.add_zero, List.length_cons, List.length_nil] at q1 b0
    refine .inr (.inr (.inl ⟨rfl, by omega, ?_⟩))
    unfold bN
    omega
  · rw [e] at h ⊢
    obtain ⟨q1, q2⟩ := (pre_iff _ p (by simp)).1 h
    have b0 := u8_ne (q2 0 (by simp)) (by omega)
    have b1 := u8_ne (q2 1 (by simp)) (by omega)
    have b2 := u8_ne (q2 2 (by simp)) (by omega)
    have b3 := u8_ne (q2 3 (by simp)) (by omega)
    simp only [Nat.add_zero, List.length_cons, List.length_nil] at q1 b0
    refine .inr (.inr (.inr ⟨rfl, by omega, ?_⟩))
    unfold bN
    omega
theorem test_form {n : Nat} (h : wtest l p n = true) : UForm l p n := by
  unfold wtest at h
  rw [Bool.and_eq_true, Bool.and_eq_true, beq_iff_eq] at h
  obtain ⟨h1, h2, h3⟩ := h
  have h0 := isChr_iff.1 h1
  have := enc_form (l := l) (p := p) (c := (cvN l p n).toNat) (by rw [show (((cvN l p n).toNat : Nat) : Int) = cvN l p n from by omega]; exact h1) h3
  rwa [h2] at this
/-- What the reference's whole tells of the bytes from p on. -/
def wholeV (l : List UInt8) (p : Nat) : Int := if uerr l p = 0 then cvN l p (ulen l p) else -1
theorem wtest_n {n : Nat} (h : wtest l p n = true) : wholeV l p = cvN l p n := by
  obtain ⟨h1, h2⟩ := form_uerr (test_form h)
  unfold wholeV
  rw [if_pos h1, h2]
theorem wtest_none (h1 : wtest l p 1 = false) (h2 : wtest l p 2 = false) (h3 : wtest l p 3 = false) (h4 : wtest l p 4 = false) : wholeV l p = -1 := by
  unfold wholeV
  rw [if_neg]
  intro he
  have hf := uerr_form he
  have ht := form_test hf
  have hn : ulen l p = 1 ∨ ulen l p = 2 ∨ ulen l p = 3 ∨ ulen l p = 4 := by unfold UForm at hf; omega
  rcases hn with hn | hn | hn | hn <;> rw [hn] at ht <;> simp_all
theorem wtest_long {n : Nat} (h : l.length < p + n) : wtest l p n = false ∨ n = 0 := by
  by_cases h0 : n = 0
  · exact .inr h0
  · left
    cases ht : wtest l p n with
    | false => rfl
    | true =>
      have := test_form ht
      unfold UForm at this
      omega
theorem wholeV_len (h : 0 ≤ wholeV l p) : uerr l p = 0 ∧ isChr (wholeV l p) = true ∧ (uenc (wholeV l p).toNat).length = ulen l p := by
  unfold wholeV at h ⊢
  by_cases he : uerr l p = 0
  · rw [if_pos he] at h ⊢
    have ht := form_test (uerr_form he)
    unfold wtest at ht
    rw [Bool.and_eq_true, Bool.and_eq_true, beq_iff_eq] at ht
    exact ⟨he, ht.1, ht.2.1⟩
  · rw [if_neg he] at h
    omega

end Go.Proofs.YticfioblapjkmaaGreat

namespace Go.Proofs.YticfioblapjkmaaGreat
open Go.RowKit
set_option linter.unusedVariables false
set_option linter.unusedSimpArgs false

theorem starts_at {W : World} {a : Option Addr} {b off c K v : Nat} {m : List UInt8} {o1 : Obj} (hb : BytesAt W a b off m) (hK : W.heap.size = K) (hlen : m.length ≤ c) :
    Calls Tryz.prog 94 #[.slice a m.length c, .slice (some ⟨K + 1, 0, none⟩) (uenc v).length (uenc v).length] ((W.alloc o1).alloc (.cells ((uenc v).map bv).toArray 5))
      fun r w' => r = .returned (.bool ((uenc v).isPrefixOf m)) ∧ ∃ n, w' = ((W.alloc o1).alloc (.cells ((uenc v).map bv).toArray 5)).drewN n :=
  rstarts_any a (some ⟨K + 1, 0, none⟩) b off c (K + 1) 0 _ m (uenc v) m.length _ _
    ((hb.below ((Below.refl W.heap.size W).alloc (Nat.le_refl _) o1)).below ((Below.refl (W.alloc o1).heap.size (W.alloc o1)).alloc (Nat.le_refl _) _))
    (BytesAt.made _ (uenc v) _ _ _ _ (by simp; omega) rfl) rfl rfl hlen
theorem notest {m : List UInt8} {n : Nat} (h : ∀ k, 1 ≤ k → k < n → wtest m 0 k = false) (hn : wtest m 0 n = false) : ∀ k, 1 ≤ k → k < n + 1 → wtest m 0 k = false := by
  intro k h1 h2
  rcases Nat.lt_or_ge k n with h3 | h3
  · exact h k h1 h3
  · obtain rfl : k = n := by omega
    exact hn
/-- What the reference's whole keeps from size to size. -/
def WholeRel (w : World) (H : Nat) (m : List UInt8) (t : Value) (wr : World) : Prop :=
  ∃ n : Nat, t = .int .i64 (n : Int) ∧ 1 ≤ n ∧ n ≤ 5 ∧ Below H w wr ∧ Blk wr H #[.int .i64 0, .int .i64 64, .int .i64 4096, .int .i64 262144] 2 ∧ Blk wr (H + 1) #[.int .i64 0, .int .i64 192, .int .i64 224, .int .i64 240] 2 ∧ ∀ k, 1 ≤ k → k < n → wtest m 0 k = false
set_option maxRecDepth 100000 in
set_option maxHeartbeats 8000000 in
theorem rwhole_any {w : World} {a : Option Addr} {b off c : Nat} {m : List UInt8} (hbw : BytesAt w a b off m) (hlen : m.length ≤ c) (hbig : m.length ≤ 1000000) :
    Calls Tryz.prog 75 #[.slice a m.length c] w fun r w' => r = .returned (.int .i64 (wholeV m 0)) ∧ Below w.heap.size w w' := by
  obtain ⟨H, hH⟩ : ∃ H, w.heap.size = H := ⟨_, rfl⟩
  have h0 : WholeRel w H m (.int .i64 1) ((w.alloc (.cells #[.int .i64 0, .int .i64 64, .int .i64 4096, .int .i64 262144] 2)).alloc (.cells #[.int .i64 0, .int .i64 192, .int .i64 224, .int .i64 240] 2)) := by
    refine ⟨1, rfl, by omega, by omega, ((Below.refl H w).alloc (by omega) _).alloc (by simp; omega) _, (Blk.made w _ _ H hH).kept ((Below.refl (H + 1) (w.alloc (.cells #[.int .i64 0, .int .i64 64, .int .i64 4096, .int .i64 262144] 2))).alloc (by simp; omega) _) (by omega), Blk.made _ _ _ (H + 1) (by simp; omega), fun k h1 h2 => by omega⟩
  replace h0 := Lib.hid h0
  have hbx := Lib.hid fun wr (h : Below H w wr) => hbw.below (hH ▸ h)
  obtain ⟨R, hR⟩ : ∃ R, R = wholeV m 0 := ⟨_, rfl⟩
  rw [hH, ← hR]
  replace hR := Lib.hid hR
  clear hbw
  go_enter Tryz.func75, Tryz.ntmps75
  go_wp2
  go_loopw [5] (fun t wr => WholeRel w H m t wr) (fun t _ => 5 - (intOf t).toNat)
  case atStart => exact h0.out
  case round =>
    obtain ⟨n, rfl, hn1, hn5, hB, hS, hM, hno⟩ := hrel
    have hb := hbx.out _ hB
    clear h0 hbx
    have hcase : n = 1 ∨ n = 2 ∨ n = 3 ∨ n = 4 ∨ n = 5 := by omega
    clear hn1 hn5
    rcases hcase with rfl | rfl | rfl | rfl | rfl
    -- the size 1
    · by_cases hl : 1 ≤ m.length
      rotate_left
      · have hlt : ¬ (1 : Int) ≤ (m.length : Int) := by omega
        have hV : wholeV m 0 = -1 := wtest_none ((wtest_long (l := m) (p := 0) (n := 1) (by omega)).resolve_right (by decide)) ((wtest_long (l := m) (p := 0) (n := 2) (by omega)).resolve_right (by decide)) ((wtest_long (l := m) (p := 0) (n := 3) (by omega)).resolve_right (by decide)) ((wtest_long (l := m) (p := 0) (n := 4) (by omega)).resolve_right (by decide))
        replace hV := Lib.hid hV
        have hB' := Lib.hid hB
        clear hB hb hS hM
        go_wp2_with fail
        go_ret
        rw [hR.out, hV.out]
        exact ⟨rfl, hB'.out⟩
      have hli : (1 : Int) ≤ (m.length : Int) := by omega
      have hc0 := fun k => (hb.drewN k).2 0 (by omega)
      have hc0' := hb.2 0 (by omega)
      have hi0 := fun W => hb.idx m.length c rfl 0 W (by omega) (by omega)
      have hx0 := bN_lt m 0
      have hcv : cvN m 0 1 = (bN m 0 : Int) := rfl
      have eb0 : ((m[0]?.getD 0).toNat : Int) = (bN m 0 : Int) := rfl
      rw [eb0, Nat.add_zero] at hc0'
      simp only [eb0, Nat.add_zero] at hc0
      obtain ⟨b0, hb0⟩ : ∃ x, x = bN m 0 := ⟨_, rfl⟩
      rw [← hb0] at hx0 hcv hc0'
      simp only [← hb0] at hc0
      clear hb0 eb0
      have hs := fun k j => (hS.drewN k).cell j
      have hm := fun k j => (hM.drewN k).cell j
      have hS' := Lib.hid hS
      have hM' := Lib.hid hM
      have hB' := Lib.hid hB
      have hbb := Lib.hid hb
      have hno' := Lib.hid hno
      clear hS hM hB hb hno
      obtain ⟨v, hv0⟩ : ∃ v, v = b0 := ⟨_, rfl⟩
      subst hv0
      replace hcv := Lib.hid hcv
      cases hch : isChr (v : Int) with
      | false =>
        have hn : wtest m 0 1 = false := by unfold wtest; rw [hcv.out, hch]; rfl
        replace hn := Lib.hid hn
        go_wp2_with fail
        refine wp_loop_rounds 1 ?_
        rw [rounds_succ]
        go_wp2_with (go_at_call 93; refine (rchar_any _ _).mono ?_; rintro r w' ⟨rfl, rfl⟩)
        go_roundw
        case rel => exact ⟨2, rfl, by omega, by omega, (by first | exact hB'.out | exact below_drewN hB'.out _), hS'.out, hM'.out, notest hno'.out hn.out⟩
        case measure => simp [intOf]
      | true =>
        have hK : ∃ K, wr.heap.size = K := ⟨_, rfl⟩
        obtain ⟨K, hK⟩ := hK
        have hHK : H + 1 < K := by have := hM'.out.lt; omega
        have hv := Lib.hid (show v ≤ 1114111 from by have := isChr_iff.1 hch; omega)
        have hto : wtest m 0 1 = (((uenc v).length == 1) && (uenc v).isPrefixOf m) := by unfold wtest; rw [hcv.out, hch]; rfl
        have hBa := Lib.hid fun (q : Nat) o1 o2 => (hB'.out.alloc (by first | omega | (simp; omega)) o1).alloc (by first | omega | (simp; omega)) o2
        have hBb := Lib.hid fun (q : Nat) o1 => hB'.out.alloc (by first | omega | (simp; omega)) o1
        have hSa := Lib.hid fun (q : Nat) o1 o2 => (hS'.out.kept ((Below.refl (H + 2) wr).alloc (by first | omega | (simp; omega)) o1) (by omega)).kept ((Below.refl (H + 2) (wr.alloc o1)).alloc (by first | omega | (simp; omega)) o2) (by omega)
        have hSb := Lib.hid fun (q : Nat) o1 => (hS'.out.kept ((Below.refl (H + 2) wr).alloc (by first | omega | (simp; omega)) o1) (by omega))
        have hMa := Lib.hid fun (q : Nat) o1 o2 => (hM'.out.kept ((Below.refl (H + 2) wr).alloc (by first | omega | (simp; omega)) o1) (by omega)).kept ((Below.refl (H + 2) (wr.alloc o1)).alloc (by first | omega | (simp; omega)) o2) (by omega)
        have hMb := Lib.hid fun (q : Nat) o1 => (hM'.out.kept ((Below.refl (H + 2) wr).alloc (by first | omega | (simp; omega)) o1) (by omega))
        have hst := Lib.hid fun (q : Nat) o1 => starts_at (v := v) (o1 := o1) hbb.out (show wr.heap.size = K from hK) hlen
        obtain ⟨pr, hpr⟩ : ∃ pr, pr = (uenc v).isPrefixOf m := ⟨_, rfl⟩
        rw [← hpr] at hto
        replace hpr := Lib.hid hpr
        by_cases hle : (uenc v).length = 1
        · have hle2 : (((uenc v).length : Int) == 1) = true := by rw [hle]; rfl
          have hto2 : wtest m 0 1 = pr := by rw [hto, hle]; simp
          replace hto2 := Lib.hid hto2
          clear hto hle
          cases pr with
          | true =>
            have hVv := Lib.hid ((wtest_n hto2.out).trans hcv.out)
            go_wp2_with fail
            refine wp_loop_rounds 1 ?_
            rw [rounds_succ]
            go_wp2_with (first | (go_at_call 93; refine (rchar_any _ _).mono ?_; rintro r w' ⟨rfl, rfl⟩) | (go_at_call 76; refine (rput_any v _ hv.out).mono ?_; rintro r w' ⟨rfl, rfl⟩) | (go_at_call 94; refine (hst.out 0 _).mono ?_; rintro r w' ⟨rfl, n3, rfl⟩; rw [← hpr.out]))
            go_ret
            rw [hR.out, hVv.out]
            exact ⟨rfl, below_drewN (hBa.out 0 _ _) _⟩
          | false =>
            go_wp2_with fail
            refine wp_loop_rounds 1 ?_
            rw [rounds_succ]
            go_wp2_with (first | (go_at_call 93; refine (rchar_any _ _).mono ?_; rintro r w' ⟨rfl, rfl⟩) | (go_at_call 76; refine (rput_any v _ hv.out).mono ?_; rintro r w' ⟨rfl, rfl⟩) | (go_at_call 94; refine (hst.out 0 _).mono ?_; rintro r w' ⟨rfl, n3, rfl⟩; rw [← hpr.out]))
            go_roundw
            case rel => exact ⟨2, rfl, by omega, by omega, below_drewN (hBa.out 0 _ _) _, (hSa.out 0 _ _).drewN _, (hMa.out 0 _ _).drewN _, notest hno'.out hto2.out⟩
            case measure => simp [intOf]
        · have hle2 : (((uenc v).length : Int) == 1) = false := by simp; omega
          have hn : wtest m 0 1 = false := by rw [hto]; simp [hle]
          replace hn := Lib.hid hn
          clear hto hle
          go_wp2_with fail
          refine wp_loop_rounds 1 ?_
          rw [rounds_succ]
          go_wp2_with (first | (go_at_call 93; refine (rchar_any _ _).mono ?_; rintro r w' ⟨rfl, rfl⟩) | (go_at_call 76; refine (rput_any v _ hv.out).mono ?_; rintro r w' ⟨rfl, rfl⟩) | (go_at_call 94; refine (hst.out 0 _).mono ?_; rintro r w' ⟨rfl, n3, rfl⟩; rw [← hpr.out]))
          go_roundw
          case rel => exact ⟨2, rfl, by omega, by omega, hBb.out 0 _, hSb.out 0 _, hMb.out 0 _, notest hno'.out hn.out⟩
          case measure => simp [intOf]
    -- the size 2
    · by_cases hl : 2 ≤ m.length
      rotate_left
      · have hlt : ¬ (2 : Int) ≤ (m.length : Int) := by omega
        have hV : wholeV m 0 = -1 := wtest_none (hno 1 (by decide) (by decide)) ((wtest_long (l := m) (p := 0) (n := 2) (by omega)).resolve_right (by decide)) ((wtest_long (l := m) (p := 0) (n := 3) (by omega)).resolve_right (by decide)) ((wtest_long (l := m) (p := 0) (n := 4) (by omega)).resolve_right (by decide))
        replace hV := Lib.hid hV
        have hB' := Lib.hid hB
        clear hB hb hS hM
        go_wp2_with fail
        go_ret
        rw [hR.out, hV.out]
        exact ⟨rfl, hB'.out⟩
      have hli : (2 : Int) ≤ (m.length : Int) := by omega
      have hc0 := fun k => (hb.drewN k).2 0 (by omega)
      have hc0' := hb.2 0 (by omega)
      have hi0 := fun W => hb.idx m.length c rfl 0 W (by omega) (by omega)
      have hx0 := bN_lt m 0
      have hc1 := fun k => (hb.drewN k).2 1 (by omega)
      have hc1' := hb.2 1 (by omega)
      have hi1 := fun W => hb.idx m.length c rfl 1 W (by omega) (by omega)
      have hx1 := bN_lt m 1
      have hcv : cvN m 0 2 = ((bN m 0 : Int) - 192) * 64 + ((bN m 1 : Int) - 128) := rfl
      have eb0 : ((m[0]?.getD 0).toNat : Int) = (bN m 0 : Int) := rfl
      rw [eb0, Nat.add_zero] at hc0'
      simp only [eb0, Nat.add_zero] at hc0
      obtain ⟨b0, hb0⟩ : ∃ x, x = bN m 0 := ⟨_, rfl⟩
      rw [← hb0] at hx0 hcv hc0'
      simp only [← hb0] at hc0
      clear hb0 eb0
      have eb1 : ((m[1]?.getD 0).toNat : Int) = (bN m 1 : Int) := rfl
      rw [eb1] at hc1'
      simp only [eb1] at hc1
      obtain ⟨b1, hb1⟩ : ∃ x, x = bN m 1 := ⟨_, rfl⟩
      rw [← hb1] at hx1 hcv hc1'
      simp only [← hb1] at hc1
      clear hb1 eb1
      have hs := fun k j => (hS.drewN k).cell j
      have hm := fun k j => (hM.drewN k).cell j
      have hS' := Lib.hid hS
      have hM' := Lib.hid hM
      have hB' := Lib.hid hB
      have hbb := Lib.hid hb
      have hno' := Lib.hid hno
      clear hS hM hB hb hno
      obtain ⟨V, hV⟩ : ∃ V, ((b0 : Int) - 192) * 64 + ((b1 : Int) - 128) = V := ⟨_, rfl⟩
      rw [hV] at hcv
      replace hcv := Lib.hid hcv
      cases hch : isChr V with
      | false =>
        have hn : wtest m 0 2 = false := by unfold wtest; rw [hcv.out, hch]; rfl
        replace hn := Lib.hid hn
        go_wp2_with fail
        go_quiet (fail)
        go_wp2_with fail
        refine wp_loop_rounds 2 ?_
        rw [rounds_succ]
        go_wp2_with fail
        refine wp_loop_rounds 1 ?_
        rw [rounds_succ]
        go_wp2_with fail
        rw [rounds_succ]
        go_wp2_with (go_at_call 93; refine (rchar_any _ _).mono ?_; rintro r w' ⟨rfl, rfl⟩)
        go_roundw
        case rel => exact ⟨3, rfl, by omega, by omega, (by first | exact hB'.out | exact below_drewN hB'.out _), hS'.out, hM'.out, notest hno'.out hn.out⟩
        case measure => simp [intOf]
      | true =>
        have hK : ∃ K, wr.heap.size = K := ⟨_, rfl⟩
        obtain ⟨K, hK⟩ := hK
        have hHK : H + 1 < K := by have := hM'.out.lt; omega
        obtain ⟨v, rfl⟩ : ∃ v : Nat, V = (v : Int) := ⟨V.toNat, by have := (isChr_iff.1 hch).1; omega⟩
        have hv := Lib.hid (show v ≤ 1114111 from by have := isChr_iff.1 hch; omega)
        have hto : wtest m 0 2 = (((uenc v).length == 2) && (uenc v).isPrefixOf m) := by unfold wtest; rw [hcv.out, hch]; rfl
        have hBa := Lib.hid fun q o1 o2 => ((below_drewN hB'.out q).alloc (by first | omega | (simp; omega)) o1).alloc (by first | omega | (simp; omega)) o2
        have hBb := Lib.hid fun q o1 => (below_drewN hB'.out q).alloc (by first | omega | (simp; omega)) o1
        have hSa := Lib.hid fun q o1 o2 => ((hS'.out.drewN q).kept ((Below.refl (H + 2) (wr.drewN q)).alloc (by first | omega | (simp; omega)) o1) (by omega)).kept ((Below.refl (H + 2) ((wr.drewN q).alloc o1)).alloc (by first | omega | (simp; omega)) o2) (by omega)
        have hSb := Lib.hid fun q o1 => ((hS'.out.drewN q).kept ((Below.refl (H + 2) (wr.drewN q)).alloc (by first | omega | (simp; omega)) o1) (by omega))
        have hMa := Lib.hid fun q o1 o2 => ((hM'.out.drewN q).kept ((Below.refl (H + 2) (wr.drewN q)).alloc (by first | omega | (simp; omega)) o1) (by omega)).kept ((Below.refl (H + 2) ((wr.drewN q).alloc o1)).alloc (by first | omega | (simp; omega)) o2) (by omega)
        have hMb := Lib.hid fun q o1 => ((hM'.out.drewN q).kept ((Below.refl (H + 2) (wr.drewN q)).alloc (by first | omega | (simp; omega)) o1) (by omega))
        have hst := Lib.hid fun q o1 => starts_at (v := v) (o1 := o1) (hbb.out.drewN q) (show (wr.drewN q).heap.size = K from hK) hlen
        obtain ⟨pr, hpr⟩ : ∃ pr, pr = (uenc v).isPrefixOf m := ⟨_, rfl⟩
        rw [← hpr] at hto
        replace hpr := Lib.hid hpr
        by_cases hle : (uenc v).length = 2
        · have hle2 : (((uenc v).length : Int) == 2) = true := by rw [hle]; rfl
          have hto2 : wtest m 0 2 = pr := by rw [hto, hle]; simp
          replace hto2 := Lib.hid hto2
          clear hto hle
          cases pr with
          | true =>
            have hVv := Lib.hid ((wtest_n hto2.out).trans hcv.out)
            go_wp2_with fail
            go_quiet (fail)
            go_wp2_with fail
            refine wp_loop_rounds 2 ?_
            rw [rounds_succ]
            go_wp2_with fail
            refine wp_loop_rounds 1 ?_
            rw [rounds_succ]
            go_wp2_with fail
            rw [rounds_succ]
            go_wp2_with (first | (go_at_call 93; refine (rchar_any _ _).mono ?_; rintro r w' ⟨rfl, rfl⟩) | (go_at_call 76; refine (rput_any v _ hv.out).mono ?_; rintro r w' ⟨rfl, rfl⟩) | (go_at_call 94; refine (hst.out _ _).mono ?_; rintro r w' ⟨rfl, n3, rfl⟩; rw [← hpr.out]))
            go_ret
            rw [hR.out, hVv.out]
            exact ⟨rfl, below_drewN (hBa.out _ _ _) _⟩
          | false =>
            go_wp2_with fail
            go_quiet (fail)
            go_wp2_with fail
            refine wp_loop_rounds 2 ?_
            rw [rounds_succ]
            go_wp2_with fail
            refine wp_loop_rounds 1 ?_
            rw [rounds_succ]
            go_wp2_with fail
            rw [rounds_succ]
            go_wp2_with (first | (go_at_call 93; refine (rchar_any _ _).mono ?_; rintro r w' ⟨rfl, rfl⟩) | (go_at_call 76; refine (rput_any v _ hv.out).mono ?_; rintro r w' ⟨rfl, rfl⟩) | (go_at_call 94; refine (hst.out _ _).mono ?_; rintro r w' ⟨rfl, n3, rfl⟩; rw [← hpr.out]))
            go_roundw
            case rel => exact ⟨3, rfl, by omega, by omega, below_drewN (hBa.out _ _ _) _, (hSa.out _ _ _).drewN _, (hMa.out _ _ _).drewN _, notest hno'.out hto2.out⟩
            case measure => simp [intOf]
        · have hle2 : (((uenc v).length : Int) == 2) = false := by simp; omega
          have hn : wtest m 0 2 = false := by rw [hto]; simp [hle]
          replace hn := Lib.hid hn
          clear hto hle
          go_wp2_with fail
          go_quiet (fail)
          go_wp2_with fail
          refine wp_loop_rounds 2 ?_
          rw [rounds_succ]
          go_wp2_with fail
          refine wp_loop_rounds 1 ?_
          rw [rounds_succ]
          go_wp2_with fail
          rw [rounds_succ]
          go_wp2_with (first | (go_at_call 93; refine (rchar_any _ _).mono ?_; rintro r w' ⟨rfl, rfl⟩) | (go_at_call 76; refine (rput_any v _ hv.out).mono ?_; rintro r w' ⟨rfl, rfl⟩) | (go_at_call 94; refine (hst.out _ _).mono ?_; rintro r w' ⟨rfl, n3, rfl⟩; rw [← hpr.out]))
          go_roundw
          case rel => exact ⟨3, rfl, by omega, by omega, hBb.out _ _, hSb.out _ _, hMb.out _ _, notest hno'.out hn.out⟩
          case measure => simp [intOf]
    -- the size 3
    · by_cases hl : 3 ≤ m.length
      rotate_left
      · have hlt : ¬ (3 : Int) ≤ (m.length : Int) := by omega
        have hV : wholeV m 0 = -1 := wtest_none (hno 1 (by decide) (by decide)) (hno 2 (by decide) (by decide)) ((wtest_long (l := m) (p := 0) (n := 3) (by omega)).resolve_right (by decide)) ((wtest_long (l := m) (p := 0) (n := 4) (by omega)).resolve_right (by decide))
        replace hV := Lib.hid hV
        have hB' := Lib.hid hB
        clear hB hb hS hM
        go_wp2_with fail
        go_ret
        rw [hR.out, hV.out]
        exact ⟨rfl, hB'.out⟩
      have hli : (3 : Int) ≤ (m.length : Int) := by omega
      have hc0 := fun k => (hb.drewN k).2 0 (by omega)
      have hc0' := hb.2 0 (by omega)
      have hi0 := fun W => hb.idx m.length c rfl 0 W (by omega) (by omega)
      have hx0 := bN_lt m 0
      have hc1 := fun k => (hb.drewN k).2 1 (by omega)
      have hc1' := hb.2 1 (by omega)
      have hi1 := fun W => hb.idx m.length c rfl 1 W (by omega) (by omega)
      have hx1 := bN_lt m 1
      have hc2 := fun k => (hb.drewN k).2 2 (by omega)
      have hc2' := hb.2 2 (by omega)
      have hi2 := fun W => hb.idx m.length c rfl 2 W (by omega) (by omega)
      have hx2 := bN_lt m 2
      have hcv : cvN m 0 3 = ((bN m 0 : Int) - 224) * 4096 + ((bN m 1 : Int) - 128) * 64 + ((bN m 2 : Int) - 128) := rfl
      have eb0 : ((m[0]?.getD 0).toNat : Int) = (bN m 0 : Int) := rfl
      rw [eb0, Nat.add_zero] at hc0'
      simp only [eb0, Nat.add_zero] at hc0
      obtain ⟨b0, hb0⟩ : ∃ x, x = bN m 0 := ⟨_, rfl⟩
      rw [← hb0] at hx0 hcv hc0'
      simp only [← hb0] at hc0
      clear hb0 eb0
      have eb1 : ((m[1]?.getD 0).toNat : Int) = (bN m 1 : Int) := rfl
      rw [eb1] at hc1'
      simp only [eb1] at hc1
      obtain ⟨b1, hb1⟩ : ∃ x, x = bN m 1 := ⟨_, rfl⟩
      rw [← hb1] at hx1 hcv hc1'
      simp only [← hb1] at hc1
      clear hb1 eb1
      have eb2 : ((m[2]?.getD 0).toNat : Int) = (bN m 2 : Int) := rfl
      rw [eb2] at hc2'
      simp only [eb2] at hc2
      obtain ⟨b2, hb2⟩ : ∃ x, x = bN m 2 := ⟨_, rfl⟩
      rw [← hb2] at hx2 hcv hc2'
      simp only [← hb2] at hc2
      clear hb2 eb2
      have hs := fun k j => (hS.drewN k).cell j
      have hm := fun k j => (hM.drewN k).cell j
      have hS' := Lib.hid hS
      have hM' := Lib.hid hM
      have hB' := Lib.hid hB
      have hbb := Lib.hid hb
      have hno' := Lib.hid hno
      clear hS hM hB hb hno
      obtain ⟨V, hV⟩ : ∃ V, ((b0 : Int) - 224) * 4096 + ((b1 : Int) - 128) * 64 + ((b2 : Int) - 128) = V := ⟨_, rfl⟩
      rw [hV] at hcv
      replace hcv := Lib.hid hcv
      cases hch : isChr V with
      | false =>
        have hn : wtest m 0 3 = false := by unfold wtest; rw [hcv.out, hch]; rfl
        replace hn := Lib.hid hn
        go_wp2_with fail
        go_quiet (fail)
        go_wp2_with fail
        refine wp_loop_rounds 3 ?_
        rw [rounds_succ]
        go_wp2_with fail
        refine wp_loop_rounds 2 ?_
        rw [rounds_succ]
        go_wp2_with fail
        rw [rounds_succ]
        go_wp2_with fail
        rw [rounds_succ]
        go_wp2_with fail
        refine wp_loop_rounds 1 ?_
        rw [rounds_succ]
        go_wp2_with fail
        rw [rounds_succ]
        go_wp2_with (go_at_call 93; refine (rchar_any _ _).mono ?_; rintro r w' ⟨rfl, rfl⟩)
        go_roundw
        case rel => exact ⟨4, rfl, by omega, by omega, (by first | exact hB'.out | exact below_drewN hB'.out _), hS'.out, hM'.out, notest hno'.out hn.out⟩
        case measure => simp [intOf]
      | true =>
        have hK : ∃ K, wr.heap.size = K := ⟨_, rfl⟩
        obtain ⟨K, hK⟩ := hK
        have hHK : H + 1 < K := by have := hM'.out.lt; omega
        obtain ⟨v, rfl⟩ : ∃ v : Nat, V = (v : Int) := ⟨V.toNat, by have := (isChr_iff.1 hch).1; omega⟩
        have hv := Lib.hid (show v ≤ 1114111 from by have := isChr_iff.1 hch; omega)
        have hto : wtest m 0 3 = (((uenc v).length == 3) && (uenc v).isPrefixOf m) := by unfold wtest; rw [hcv.out, hch]; rfl
        have hBa := Lib.hid fun q o1 o2 => ((below_drewN hB'.out q).alloc (by first | omega | (simp; omega)) o1).alloc (by first | omega | (simp; omega)) o2
        have hBb := Lib.hid fun q o1 => (below_drewN hB'.out q).alloc (by first | omega | (simp; omega)) o1
        have hSa := Lib.hid fun q o1 o2 => ((hS'.out.drewN q).kept ((Below.refl (H + 2) (wr.drewN q)).alloc (by first | omega | (simp; omega)) o1) (by omega)).kept ((Below.refl (H + 2) ((wr.drewN q).alloc o1)).alloc (by first | omega | (simp; omega)) o2) (by omega)
        have hSb := Lib.hid fun q o1 => ((hS'.out.drewN q).kept ((Below.refl (H + 2) (wr.drewN q)).alloc (by first | omega | (simp; omega)) o1) (by omega))
        have hMa := Lib.hid fun q o1 o2 => ((hM'.out.drewN q).kept ((Below.refl (H + 2) (wr.drewN q)).alloc (by first | omega | (simp; omega)) o1) (by omega)).kept ((Below.refl (H + 2) ((wr.drewN q).alloc o1)).alloc (by first | omega | (simp; omega)) o2) (by omega)
        have hMb := Lib.hid fun q o1 => ((hM'.out.drewN q).kept ((Below.refl (H + 2) (wr.drewN q)).alloc (by first | omega | (simp; omega)) o1) (by omega))
        have hst := Lib.hid fun q o1 => starts_at (v := v) (o1 := o1) (hbb.out.drewN q) (show (wr.drewN q).heap.size = K from hK) hlen
        obtain ⟨pr, hpr⟩ : ∃ pr, pr = (uenc v).isPrefixOf m := ⟨_, rfl⟩
        rw [← hpr] at hto
        replace hpr := Lib.hid hpr
        by_cases hle : (uenc v).length = 3
        · have hle2 : (((uenc v).length : Int) == 3) = true := by rw [hle]; rfl
          have hto2 : wtest m 0 3 = pr := by rw [hto, hle]; simp
          replace hto2 := Lib.hid hto2
          clear hto hle
          cases pr with
          | true =>
            have hVv := Lib.hid ((wtest_n hto2.out).trans hcv.out)
            go_wp2_with fail
            go_quiet (fail)
            go_wp2_with fail
            refine wp_loop_rounds 3 ?_
            rw [rounds_succ]
            go_wp2_with fail
            refine wp_loop_rounds 2 ?_
            rw [rounds_succ]
            go_wp2_with fail
            rw [rounds_succ]
            go_wp2_with fail
            rw [rounds_succ]
            go_wp2_with fail
            refine wp_loop_rounds 1 ?_
            rw [rounds_succ]
            go_wp2_with fail
            rw [rounds_succ]
            go_wp2_with (first | (go_at_call 93; refine (rchar_any _ _).mono ?_; rintro r w' ⟨rfl, rfl⟩) | (go_at_call 76; refine (rput_any v _ hv.out).mono ?_; rintro r w' ⟨rfl, rfl⟩) | (go_at_call 94; refine (hst.out _ _).mono ?_; rintro r w' ⟨rfl, n3, rfl⟩; rw [← hpr.out]))
            go_ret
            rw [hR.out, hVv.out]
            exact ⟨rfl, below_drewN (hBa.out _ _ _) _⟩
          | false =>
            go_wp2_with fail
            go_quiet (fail)
            go_wp2_with fail
            refine wp_loop_rounds 3 ?_
            rw [rounds_succ]
            go_wp2_with fail
            refine wp_loop_rounds 2 ?_
            rw [rounds_succ]
            go_wp2_with fail
            rw [rounds_succ]
            go_wp2_with fail
            rw [rounds_succ]
            go_wp2_with fail
            refine wp_loop_rounds 1 ?_
            rw [rounds_succ]
            go_wp2_with fail
            rw [rounds_succ]
            go_wp2_with (first | (go_at_call 93; refine (rchar_any _ _).mono ?_; rintro r w' ⟨rfl, rfl⟩) | (go_at_call 76; refine (rput_any v _ hv.out).mono ?_; rintro r w' ⟨rfl, rfl⟩) | (go_at_call 94; refine (hst.out _ _).mono ?_; rintro r w' ⟨rfl, n3, rfl⟩; rw [← hpr.out]))
            go_roundw
            case rel => exact ⟨4, rfl, by omega, by omega, below_drewN (hBa.out _ _ _) _, (hSa.out _ _ _).drewN _, (hMa.out _ _ _).drewN _, notest hno'.out hto2.out⟩
            case measure => simp [intOf]
        · have hle2 : (((uenc v).length : Int) == 3) = false := by simp; omega
          have hn : wtest m 0 3 = false := by rw [hto]; simp [hle]
          replace hn := Lib.hid hn
          clear hto hle
          go_wp2_with fail
          go_quiet (fail)
          go_wp2_with fail
          refine wp_loop_rounds 3 ?_
          rw [rounds_succ]
          go_wp2_with fail
          refine wp_loop_rounds 2 ?_
          rw [rounds_succ]
          go_wp2_with fail
          rw [rounds_succ]
          go_wp2_with fail
          rw [rounds_succ]
          go_wp2_with fail
          refine wp_loop_rounds 1 ?_
          rw [rounds_succ]
          go_wp2_with fail
          rw [rounds_succ]
          go_wp2_with (first | (go_at_call 93; refine (rchar_any _ _).mono ?_; rintro r w' ⟨rfl, rfl⟩) | (go_at_call 76; refine (rput_any v _ hv.out).mono ?_; rintro r w' ⟨rfl, rfl⟩) | (go_at_call 94; refine (hst.out _ _).mono ?_; rintro r w' ⟨rfl, n3, rfl⟩; rw [← hpr.out]))
          go_roundw
          case rel => exact ⟨4, rfl, by omega, by omega, hBb.out _ _, hSb.out _ _, hMb.out _ _, notest hno'.out hn.out⟩
          case measure => simp [intOf]
    -- the size 4
    · by_cases hl : 4 ≤ m.length
      rotate_left
      · have hlt : ¬ (4 : Int) ≤ (m.length : Int) := by omega
        have hV : wholeV m 0 = -1 := wtest_none (hno 1 (by decide) (by decide)) (hno 2 (by decide) (by decide)) (hno 3 (by decide) (by decide)) ((wtest_long (l := m) (p := 0) (n := 4) (by omega)).resolve_right (by decide))
        replace hV := Lib.hid hV
        have hB' := Lib.hid hB
        clear hB hb hS hM
        go_wp2_with fail
        go_ret
        rw [hR.out, hV.out]
        exact ⟨rfl, hB'.out⟩
      have hli : (4 : Int) ≤ (m.length : Int) := by omega
      have hc0 := fun k => (hb.drewN k).2 0 (by omega)
      have hc0' := hb.2 0 (by omega)
      have hi0 := fun W => hb.idx m.length c rfl 0 W (by omega) (by omega)
      have hx0 := bN_lt m 0
      have hc1 := fun k => (hb.drewN k).2 1 (by omega)
      have hc1' := hb.2 1 (by omega)
      have hi1 := fun W => hb.idx m.length c rfl 1 W (by omega) (by omega)
      have hx1 := bN_lt m 1
      have hc2 := fun k => (hb.drewN k).2 2 (by omega)
      have hc2' := hb.2 2 (by omega)
      have hi2 := fun W => hb.idx m.length c rfl 2 W (by omega) (by omega)
      have hx2 := bN_lt m 2
      have hc3 := fun k => (hb.drewN k).2 3 (by omega)
      have hc3' := hb.2 3 (by omega)
      have hi3 := fun W => hb.idx m.length c rfl 3 W (by omega) (by omega)
      have hx3 := bN_lt m 3
      have hcv : cvN m 0 4 = ((bN m 0 : Int) - 240) * 262144 + ((bN m 1 : Int) - 128) * 4096 + ((bN m 2 : Int) - 128) * 64 + ((bN m 3 : Int) - 128) := rfl
      have eb0 : ((m[0]?.getD 0).toNat : Int) = (bN m 0 : Int) := rfl
      rw [eb0, Nat.add_zero] at hc0'
      simp only [eb0, Nat.add_zero] at hc0
      obtain ⟨b0, hb0⟩ : ∃ x, x = bN m 0 := ⟨_, rfl⟩
      rw [← hb0] at hx0 hcv hc0'
      simp only [← hb0] at hc0
      clear hb0 eb0
      have eb1 : ((m[1]?.getD 0).toNat : Int) = (bN m 1 : Int) := rfl
      rw [eb1] at hc1'
      simp only [eb1] at hc1
      obtain ⟨b1, hb1⟩ : ∃ x, x = bN m 1 := ⟨_, rfl⟩
      rw [← hb1] at hx1 hcv hc1'
      simp only [← hb1] at hc1
      clear hb1 eb1
      have eb2 : ((m[2]?.getD 0).toNat : Int) = (bN m 2 : Int) := rfl
      rw [eb2] at hc2'
      simp only [eb2] at hc2
      obtain ⟨b2, hb2⟩ : ∃ x, x = bN m 2 := ⟨_, rfl⟩
      rw [← hb2] at hx2 hcv hc2'
      simp only [← hb2] at hc2
      clear hb2 eb2
      have eb3 : ((m[3]?.getD 0).toNat : Int) = (bN m 3 : Int) := rfl
      rw [eb3] at hc3'
      simp only [eb3] at hc3
      obtain ⟨b3, hb3⟩ : ∃ x, x = bN m 3 := ⟨_, rfl⟩
      rw [← hb3] at hx3 hcv hc3'
      simp only [← hb3] at hc3
      clear hb3 eb3
      have hs := fun k j => (hS.drewN k).cell j
      have hm := fun k j => (hM.drewN k).cell j
      have hS' := Lib.hid hS
      have hM' := Lib.hid hM
      have hB' := Lib.hid hB
      have hbb := Lib.hid hb
      have hno' := Lib.hid hno
      clear hS hM hB hb hno
      obtain ⟨V, hV⟩ : ∃ V, ((b0 : Int) - 240) * 262144 + ((b1 : Int) - 128) * 4096 + ((b2 : Int) - 128) * 64 + ((b3 : Int) - 128) = V := ⟨_, rfl⟩
      rw [hV] at hcv
      replace hcv := Lib.hid hcv
      cases hch : isChr V with
      | false =>
        have hn : wtest m 0 4 = false := by unfold wtest; rw [hcv.out, hch]; rfl
        replace hn := Lib.hid hn
        go_wp2_with fail
        go_quiet (fail)
        go_wp2_with fail
        refine wp_loop_rounds 4 ?_
        rw [rounds_succ]
        go_wp2_with fail
        refine wp_loop_rounds 3 ?_
        rw [rounds_succ]
        go_wp2_with fail
        rw [rounds_succ]
        go_wp2_with fail
        rw [rounds_succ]
        go_wp2_with fail
        rw [rounds_succ]
        go_wp2_with fail
        refine wp_loop_rounds 2 ?_
        rw [rounds_succ]
        go_wp2_with fail
        rw [rounds_succ]
        go_wp2_with fail
        rw [rounds_succ]
        go_wp2_with fail
        refine wp_loop_rounds 1 ?_
        rw [rounds_succ]
        go_wp2_with fail
        rw [rounds_succ]
        go_wp2_with (go_at_call 93; refine (rchar_any _ _).mono ?_; rintro r w' ⟨rfl, rfl⟩)
        go_roundw
        case rel => exact ⟨5, rfl, by omega, by omega, (by first | exact hB'.out | exact below_drewN hB'.out _), hS'.out, hM'.out, notest hno'.out hn.out⟩
        case measure => simp [intOf]
      | true =>
        have hK : ∃ K, wr.heap.size = K := ⟨_, rfl⟩
        obtain ⟨K, hK⟩ := hK
        have hHK : H + 1 < K := by have := hM'.out.lt; omega
        obtain ⟨v, rfl⟩ : ∃ v : Nat, V = (v : Int) := ⟨V.toNat, by have := (isChr_iff.1 hch).1; omega⟩
        have hv := Lib.hid (show v ≤ 1114111 from by have := isChr_iff.1 hch; omega)
        have hto : wtest m 0 4 = (((uenc v).length == 4) && (uenc v).isPrefixOf m) := by unfold wtest; rw [hcv.out, hch]; rfl
        have hBa := Lib.hid fun q o1 o2 => ((below_drewN hB'.out q).alloc (by first | omega | (simp; omega)) o1).alloc (by first | omega | (simp; omega)) o2
        have hBb := Lib.hid fun q o1 => (below_drewN hB'.out q).alloc (by first | omega | (simp; omega)) o1
        have hSa := Lib.hid fun q o1 o2 => ((hS'.out.drewN q).kept ((Below.refl (H + 2) (wr.drewN q)).alloc (by first | omega | (simp; omega)) o1) (by omega)).kept ((Below.refl (H + 2) ((wr.drewN q).alloc o1)).alloc (by first | omega | (simp; omega)) o2) (by omega)
        have hSb := Lib.hid fun q o1 => ((hS'.out.drewN q).kept ((Below.refl (H + 2) (wr.drewN q)).alloc (by first | omega | (simp; omega)) o1) (by omega))
        have hMa := Lib.hid fun q o1 o2 => ((hM'.out.drewN q).kept ((Below.refl (H + 2) (wr.drewN q)).alloc (by first | omega | (simp; omega)) o1) (by omega)).kept ((Below.refl (H + 2) ((wr.drewN q).alloc o1)).alloc (by first | omega | (simp; omega)) o2) (by omega)
        have hMb := Lib.hid fun q o1 => ((hM'.out.drewN q).kept ((Below.refl (H + 2) (wr.drewN q)).alloc (by first | omega | (simp; omega)) o1) (by omega))
        have hst := Lib.hid fun q o1 => starts_at (v := v) (o1 := o1) (hbb.out.drewN q) (show (wr.drewN q).heap.size = K from hK) hlen
        obtain ⟨pr, hpr⟩ : ∃ pr, pr = (uenc v).isPrefixOf m := ⟨_, rfl⟩
        rw [← hpr] at hto
        replace hpr := Lib.hid hpr
        by_cases hle : (uenc v).length = 4
        · have hle2 : (((uenc v).length : Int) == 4) = true := by rw [hle]; rfl
          have hto2 : wtest m 0 4 = pr := by rw [hto, hle]; simp
          replace hto2 := Lib.hid hto2
          clear hto hle
          cases pr with
          | true =>
            have hVv := Lib.hid ((wtest_n hto2.out).trans hcv.out)
            go_wp2_with fail
            go_quiet (fail)
            go_wp2_with fail
            refine wp_loop_rounds 4 ?_
            rw [rounds_succ]
            go_wp2_with fail
            refine wp_loop_rounds 3 ?_
            rw [rounds_succ]
            go_wp2_with fail
            rw [rounds_succ]
            go_wp2_with fail
            rw [rounds_succ]
            go_wp2_with fail
            rw [rounds_succ]
            go_wp2_with fail
            refine wp_loop_rounds 2 ?_
            rw [rounds_succ]
            go_wp2_with fail
            rw [rounds_succ]
            go_wp2_with fail
            rw [rounds_succ]
            go_wp2_with fail
            refine wp_loop_rounds 1 ?_
            rw [rounds_succ]
            go_wp2_with fail
            rw [rounds_succ]
            go_wp2_with (first | (go_at_call 93; refine (rchar_any _ _).mono ?_; rintro r w' ⟨rfl, rfl⟩) | (go_at_call 76; refine (rput_any v _ hv.out).mono ?_; rintro r w' ⟨rfl, rfl⟩) | (go_at_call 94; refine (hst.out _ _).mono ?_; rintro r w' ⟨rfl, n3, rfl⟩; rw [← hpr.out]))
            go_ret
            rw [hR.out, hVv.out]
            exact ⟨rfl, below_drewN (hBa.out _ _ _) _⟩
          | false =>
            go_wp2_with fail
            go_quiet (fail)
            go_wp2_with fail
            refine wp_loop_rounds 4 ?_
            rw [rounds_succ]
            go_wp2_with fail
            refine wp_loop_rounds 3 ?_
            rw [rounds_succ]
            go_wp2_with fail
            rw [rounds_succ]
            go_wp2_with fail
            rw [rounds_succ]
            go_wp2_with fail
            rw [rounds_succ]
            go_wp2_with fail
            refine wp_loop_rounds 2 ?_
            rw [rounds_succ]
            go_wp2_with fail
            rw [rounds_succ]
            go_wp2_with fail
            rw [rounds_succ]
            go_wp2_with fail
            refine wp_loop_rounds 1 ?_
            rw [rounds_succ]
            go_wp2_with fail
            rw [rounds_succ]
            go_wp2_with (first | (go_at_call 93; refine (rchar_any _ _).mono ?_; rintro r w' ⟨rfl, rfl⟩) | (go_at_call 76; refine (rput_any v _ hv.out).mono ?_; rintro r w' ⟨rfl, rfl⟩) | (go_at_call 94; refine (hst.out _ _).mono ?_; rintro r w' ⟨rfl, n3, rfl⟩; rw [← hpr.out]))
            go_roundw
            case rel => exact ⟨5, rfl, by omega, by omega, below_drewN (hBa.out _ _ _) _, (hSa.out _ _ _).drewN _, (hMa.out _ _ _).drewN _, notest hno'.out hto2.out⟩
            case measure => simp [intOf]
        · have hle2 : (((uenc v).length : Int) == 4) = false := by simp; omega
          have hn : wtest m 0 4 = false := by rw [hto]; simp [hle]
          replace hn := Lib.hid hn
          clear hto hle
          go_wp2_with fail
          go_quiet (fail)
          go_wp2_with fail
          refine wp_loop_rounds 4 ?_
          rw [rounds_succ]
          go_wp2_with fail
          refine wp_loop_rounds 3 ?_
          rw [rounds_succ]
          go_wp2_with fail
          rw [rounds_succ]
          go_wp2_with fail
          rw [rounds_succ]
          go_wp2_with fail
          rw [rounds_succ]
          go_wp2_with fail
          refine wp_loop_rounds 2 ?_
          rw [rounds_succ]
          go_wp2_with fail
          rw [rounds_succ]
          go_wp2_with fail
          rw [rounds_succ]
          go_wp2_with fail
          refine wp_loop_rounds 1 ?_
          rw [rounds_succ]
          go_wp2_with fail
          rw [rounds_succ]
          go_wp2_with (first | (go_at_call 93; refine (rchar_any _ _).mono ?_; rintro r w' ⟨rfl, rfl⟩) | (go_at_call 76; refine (rput_any v _ hv.out).mono ?_; rintro r w' ⟨rfl, rfl⟩) | (go_at_call 94; refine (hst.out _ _).mono ?_; rintro r w' ⟨rfl, n3, rfl⟩; rw [← hpr.out]))
          go_roundw
          case rel => exact ⟨5, rfl, by omega, by omega, hBb.out _ _, hSb.out _ _, hMb.out _ _, notest hno'.out hn.out⟩
          case measure => simp [intOf]
    · have hV : wholeV m 0 = -1 := wtest_none (hno 1 (by decide) (by decide)) (hno 2 (by decide) (by decide)) (hno 3 (by decide) (by decide)) (hno 4 (by decide) (by decide))
      replace hV := Lib.hid hV
      have hB' := Lib.hid hB
      clear hB hb hS hM
      go_wp2_with fail
      go_ret
      rw [hR.out, hV.out]
      exact ⟨rfl, hB'.out⟩

end Go.Proofs.YticfioblapjkmaaGreat

namespace Go.Proofs.YticfioblapjkmaaGreat
open Go.RowKit
set_option linter.unusedVariables false
set_option linter.unusedSimpArgs false

def fillL (j : Nat) : List UInt8 := if j = 0 then [128, 128, 128] else if j = 1 then [191, 191, 191] else if j = 2 then [160, 128, 128] else if j = 3 then [144, 128, 128] else if j = 4 then [143, 191, 191] else [159, 191, 191]
theorem fillL_len (j : Nat) : (fillL j).length = 3 := by
  unfold fillL
  repeat' split
  all_goals rfl
def fillC (H : Nat) : Array Value := #[.slice (some ⟨H, 0, none⟩) 3 3, .slice (some ⟨H + 1, 0, none⟩) 3 3, .slice (some ⟨H + 1 + 1, 0, none⟩) 3 3, .slice (some ⟨H + 1 + 1 + 1, 0, none⟩) 3 3, .slice (some ⟨H + 1 + 1 + 1 + 1, 0, none⟩) 3 3, .slice (some ⟨H + 1 + 1 + 1 + 1 + 1, 0, none⟩) 3 3]
theorem fillC_at (H j : Nat) (hj : j < 6) : (fillC H)[j]? = some (.slice (some ⟨H + j, 0, none⟩) 3 3) := by
  have h : j = 0 ∨ j = 1 ∨ j = 2 ∨ j = 3 ∨ j = 4 ∨ j = 5 := by omega
  rcases h with rfl | rfl | rfl | rfl | rfl | rfl <;> rfl
/-- The fillings in memory. -/
def Fills (wr : World) (H : Nat) : Prop := Blk wr (H + 6) (fillC H) 28 ∧ ∀ j, j < 6 → Blk wr (H + j) ((fillL j).map bv).toArray 5
theorem Fills.kept {wr w2 : World} {H B : Nat} (h : Fills wr H) (hb : Below B wr w2) (hB : H + 6 < B) : Fills w2 H :=
  ⟨h.1.kept hb hB, fun j hj => (h.2 j hj).kept hb (by omega)⟩
theorem Blk.bytes {w : World} {X : Nat} {l : List UInt8} {t : TypeId} (h : Blk w X (l.map bv).toArray t) : BytesAt w (some ⟨X, 0, none⟩) X 0 l := by
  refine ⟨fun _ => rfl, fun j hj => ?_⟩
  rw [Nat.zero_add, h.cell j]
  simp [List.getElem?_eq_getElem hj, bv]
def BegRel (w : World) (H : Nat) (t : Value) (wr : World) : Prop := ∃ i : Nat, t = .int .i64 (i : Int) ∧ i ≤ 6 ∧ Below H w wr ∧ H + 6 < wr.heap.size ∧ Fills wr H
def BegPost (w : World) (r : Ending) (w' : World) : Prop := ∃ bo : Bool, r = .returned (.bool bo) ∧ Below w.heap.size w w'

set_option maxRecDepth 100000 in
set_option maxHeartbeats 8000000 in
theorem rbegun_any {w : World} {a : Option Addr} {b off c : Nat} {m : List UInt8} (hbw : BytesAt w a b off m) (hlen : m.length ≤ c) (hbig : m.length ≤ 3) (hnil : a = none → c = 0) :
    Calls Tryz.prog 77 #[.slice a m.length c] w (BegPost w) := by
  obtain ⟨H, hH⟩ : ∃ H, w.heap.size = H := ⟨_, rfl⟩
  have h0 : BegRel w H (.int .i64 0) (((((((w.alloc (.cells #[.int .u8 128, .int .u8 128, .int .u8 128] 5)).alloc (.cells #[.int .u8 191, .int .u8 191, .int .u8 191] 5)).alloc (.cells #[.int .u8 160, .int .u8 128, .int .u8 128] 5)).alloc (.cells #[.int .u8 144, .int .u8 128, .int .u8 128] 5)).alloc (.cells #[.int .u8 143, .int .u8 191, .int .u8 191] 5)).alloc (.cells #[.int .u8 159, .int .u8 191, .int .u8 191] 5)).alloc (.cells (fillC H) 28)) := by
    generalize hw6 : ((((((w.alloc (.cells #[.int .u8 128, .int .u8 128, .int .u8 128] 5)).alloc (.cells #[.int .u8 191, .int .u8 191, .int .u8 191] 5)).alloc (.cells #[.int .u8 160, .int .u8 128, .int .u8 128] 5)).alloc (.cells #[.int .u8 144, .int .u8 128, .int .u8 128] 5)).alloc (.cells #[.int .u8 143, .int .u8 191, .int .u8 191] 5)).alloc (.cells #[.int .u8 159, .int .u8 191, .int .u8 191] 5)) = w6
    have hs6 : w6.heap.size = H + 6 := by rw [← hw6]; simp; omega
    have hB6 : Below H w w6 := by
      rw [← hw6]
      exact ((((((Below.refl H w).alloc (by omega) _).alloc (by simp; omega) _).alloc (by simp; omega) _).alloc (by simp; omega) _).alloc (by simp; omega) _).alloc (by simp; omega) _
    have hblk : ∀ j, j < 6 → Blk w6 (H + j) ((fillL j).map bv).toArray 5 := by
      intro j hj
      have h : j = 0 ∨ j = 1 ∨ j = 2 ∨ j = 3 ∨ j = 4 ∨ j = 5 := by omega
      rw [← hw6]
      unfold Blk
      rcases h with rfl | rfl | rfl | rfl | rfl | rfl
      all_goals
        simp only [World.alloc, Array.getElem?_push, Array.size_push, hH]
        repeat (first | rw [if_pos (by omega)] | rw [if_neg (by omega)])
        rfl
    have ha := (Below.refl (H + 6) w6).alloc (by omega) (.cells (fillC H) 28)
    exact ⟨0, rfl, by omega, hB6.alloc (by omega) _, by simp; omega, Blk.made w6 _ _ _ hs6, fun j hj => (hblk j hj).kept ha (by omega)⟩
  replace h0 := Lib.hid h0
  unfold fillC at h0
  have hbx := Lib.hid fun wr (h : Below H w wr) => hbw.below (hH ▸ h)
  by_cases hm0 : m = []
  · subst hm0
    have hB := Lib.hid (Below.refl H w)
    clear hbw h0 hbx
    go_enter Tryz.func77, Tryz.ntmps77
    go_wp2_with fail
    go_ret
    exact ⟨_, rfl, by rw [hH]; exact hB.out⟩
  · have hm1 : 0 < m.length := by
      rcases Nat.eq_zero_or_pos m.length with h | h
      · exact absurd (List.eq_nil_of_length_eq_zero h) hm0
      · exact h
    have hmz : ((m.length : Int) == 0) = false := by simp; omega
    clear hbw hm0
    go_enter Tryz.func77, Tryz.ntmps77
    go_wp2_with fail
    go_loopw [4] (fun t wr => BegRel w H t wr) (fun t _ => 6 - (intOf t).toNat)
    case atStart => exact h0.out
    case round =>
      obtain ⟨i, rfl, hi6, hB, hsz, hF⟩ := hrel
      have hb := hbx.out _ hB
      clear h0 hbx
      obtain ⟨K, hK⟩ : ∃ K, wr.heap.size = K := ⟨_, rfl⟩
      have hB' := Lib.hid hB
      have hF' := Lib.hid hF
      have hb' := Lib.hid hb
      rw [hK] at hsz
      have hcb : ∀ q, i < 6 → (wr.drewN q).cell? ⟨H + 1 + 1 + 1 + 1 + 1 + 1, i, none⟩ = some (.slice (some ⟨H + i, 0, none⟩) 3 3) := fun q h => ((hF.1.drewN q).cell i).trans (fillC_at H i h)
      have hca : ∀ o, i < 6 → (wr.alloc o).cell? ⟨H + 1 + 1 + 1 + 1 + 1 + 1, i, none⟩ = some (.slice (some ⟨H + i, 0, none⟩) 3 3) := fun o h => ((hF.1.kept ((Below.refl (H + 7) wr).alloc (by omega) o) (by omega)).cell i).trans (fillC_at H i h)
      have hown0 := OwnB.made wr K K #[] [] 0 hK (Nat.le_refl _) rfl rfl (by decide)
      replace hown0 := Lib.hid hown0
      have hb2 := Lib.hid fun o => hb.below ((Below.refl wr.heap.size wr).alloc (Nat.le_refl _) o)
      clear hB hF hb
      by_cases hlt : i < 6
      · have hlti : (i : Int) < 6 := by omega
        have hcw : wr.cell? ⟨H + 1 + 1 + 1 + 1 + 1 + 1, i, none⟩ = some (.slice (some ⟨H + i, 0, none⟩) 3 3) := hcb 0 hlt
        have hcb := fun q => hcb q hlt
        have hca := fun o => hca o hlt
        go_wp2_with fail
        have hne : (some (H + 1 + 1 + 1 + 1 + 1 + 1) : Option Nat) ≠ (Value.slice (some ⟨K, 0, none⟩) 0 0).ownBlock := by simp [Value.ownBlock]; omega
        have hsx : ∀ o, H + 1 + 1 + 1 + 1 + 1 + 1 < ((wr.alloc o).drew).heap.size := fun o => by simp; omega
        have hcd : ∀ o, ((wr.alloc o).drew).cell? ⟨H + 1 + 1 + 1 + 1 + 1 + 1, i, none⟩ = some (.slice (some ⟨H + i, 0, none⟩) 3 3) := fun o => hca o
        have hB0 := Lib.hid fun o => ((Below.refl K wr).alloc (by omega) o).drew
        replace hsx := Lib.hid hsx
        replace hcd := Lib.hid hcd
        go_region_law (first
          | (refine step_appendB (by rfl) _ _ (by rfl) (by rfl) K (.slice (some ⟨K, 0, none⟩) 0 0) [] m a b off m.length c (by rfl) (by rfl) (by exact hown0.out) (by rfl) (by exact hb2.out _) hnil (by simp; omega) (by simp; omega) ?_; intro a2 c2 w2 L2 hL2 hown2 hg2; have k1 := (hg2.out.cell_far ⟨H + 1 + 1 + 1 + 1 + 1 + 1, i, none⟩ (hsx.out _) hne).trans (hcd.out _); have hBw2 := below_own (w := (wr.alloc (.cells #[] 5)).drew) hown0.out hg2.out (hB0.out _) (Nat.le_refl _) (by simp; omega))
          | (refine step_appendB (by rfl) _ _ (by rfl) (by rfl) K (.slice a2 L2.length c2) L2 (fillL i) (some ⟨H + i, 0, none⟩) (H + i) 0 3 3 (by rfl) (by rfl) (by exact hown2) (by rw [fillL_len]) (by exact ((hF'.out.kept hBw2 (by omega)).2 i hlt).bytes) (by simp) (by have := congrArg List.length hL2.out; rw [fillL_len]; simp at this; omega) (by have := hBw2.size; omega) ?_; intro a3 c3 w3 L3 hL3 hown3 hg3; have hBw3 := below_own hown2 hg3.out hBw2 (Nat.le_refl _) (by have := hBw2.size; omega)))
        all_goals
          have hL3n : L3.length ≤ 6 := by
            have h1 := congrArg List.length hL2.out
            have h2 := congrArg List.length hL3.out
            simp at h1
            rw [List.length_append, fillL_len] at h2
            omega
          obtain ⟨x, bx, cx, hx, hbx3, hlc3, -, -⟩ := hown3.parts
          simp only [Value.slice.injEq] at hx
          obtain ⟨rfl, -, rfl⟩ := hx
          have hwh := Lib.hid (rwhole_any hbx3 hlc3 (by omega))
          have hBw3' := Lib.hid hBw3
          have hVV := wholeV_len (l := L3) (p := 0)
          clear hcw hL2 hL3 hown2 hown3 hg2 hg3 hBw2 hBw3 hbx3 hcb hca hcd hsx hne hown0 hb2 hB0
          obtain ⟨V, hV⟩ : ∃ V, V = wholeV L3 0 := ⟨_, rfl⟩
          rw [← hV] at hwh hVV
          go_wp2_with fail
          refine hwh.out.mono ?_
          rintro r w4 ⟨rfl, hb4⟩
          have hBw4 := Lib.hid (hBw3'.out.trans (hb4.mono (by have := hBw3'.out.size; omega)))
          have hfin := Lib.hid fun W5 (h5 : Below K wr W5) => (⟨i + 1, rfl, by omega, hB'.out.trans (h5.mono (by omega)), by have := h5.size; omega, hF'.out.kept h5 (by omega)⟩ : BegRel w H (.int .i64 ((i + 1 : Nat) : Int)) W5)
          have hBall := Lib.hid fun W5 (h5 : Below K wr W5) => hB'.out.trans (h5.mono (by omega))
          have hs4 : K ≤ w4.heap.size := by have := hBw4.out.size; omega
          clear hb4 hwh hF' hBw3' hsz hB' hb' hV
          replace hlt := Lib.hid hlt
          by_cases hV0 : 0 ≤ V
          · have hch := (hVV hV0).2.1
            obtain ⟨v, rfl⟩ : ∃ v : Nat, V = (v : Int) := ⟨V.toNat, by omega⟩
            have hv := Lib.hid (show v ≤ 1114111 from by have := isChr_iff.1 hch; omega)
            clear hVV hch hV0
            by_cases hgt : m.length < (uenc v).length
            · have hgti : (m.length : Int) < ((uenc v).length : Int) := by omega
              replace hgt := Lib.hid hgt
              go_wp2_with (go_at_call 76; refine (rput_any v _ hv.out).mono ?_; rintro r w' ⟨rfl, rfl⟩)
              go_ret
              exact ⟨_, rfl, by rw [hH]; exact hBall.out _ (hBw4.out.alloc hs4 _)⟩
            · have hgti : decide ((m.length : Int) < ((uenc v).length : Int)) = false := by simp; omega
              replace hgt := Lib.hid hgt
              go_wp2_with (go_at_call 76; refine (rput_any v _ hv.out).mono ?_; rintro r w' ⟨rfl, rfl⟩)
              go_roundw
              case rel => exact hfin.out _ (hBw4.out.alloc hs4 _)
              case measure => simp [intOf]; omega
          · have hV1 : decide (0 ≤ V) = false := by simp; omega
            replace hV0 := Lib.hid hV0
            clear hVV
            go_wp2_with fail
            go_roundw
            case rel => exact hfin.out _ hBw4.out
            case measure => simp [intOf]; omega
      · have hlti : ¬ (i : Int) < 6 := by omega
        clear hcb hca
        go_wp2_with fail
        go_ret
        exact ⟨_, rfl, by rw [hH]; exact hB'.out⟩

end Go.Proofs.YticfioblapjkmaaGreat

namespace Go.Proofs.YticfioblapjkmaaGreat
open Go.RowKit
set_option linter.unusedVariables false
set_option linter.unusedSimpArgs false

theorem byteAt_drop (l : List UInt8) (p i : Nat) : byteAt (l.drop p) i = byteAt l (p + i) := by
  unfold byteAt
  rw [List.getElem?_drop]
theorem bN_drop (l : List UInt8) (p i : Nat) : bN (l.drop p) i = bN l (p + i) := by unfold bN; rw [byteAt_drop]
theorem form_drop {l : List UInt8} {p n : Nat} : UForm (l.drop p) 0 n ↔ UForm l p n := by
  have e : ∀ k, (k < l.length - p) = (p + k < l.length) := fun k => propext (by omega)
  unfold UForm
  simp only [bN_drop, List.length_drop, Nat.zero_add, Nat.add_zero, e]
theorem cvN_drop (l : List UInt8) (p n : Nat) : cvN (l.drop p) 0 n = cvN l p n := by
  unfold cvN
  simp only [bN_drop, Nat.zero_add, Nat.add_zero]
theorem wholeV_drop (l : List UInt8) (p : Nat) : wholeV (l.drop p) 0 = wholeV l p := by
  by_cases h : uerr l p = 0
  · have hf := uerr_form h
    have h2 := form_uerr (form_drop.2 hf)
    unfold wholeV
    rw [if_pos h, if_pos h2.1, h2.2, cvN_drop]
  · have h2 : uerr (l.drop p) 0 ≠ 0 := fun e => h (form_uerr (form_drop.1 (uerr_form e))).1
    unfold wholeV
    rw [if_neg h, if_neg h2]
/-- What the reference's Take tells. -/
def RT3 (l : List UInt8) (p : Nat) (w : World) (r : Ending) (w' : World) : Prop :=
  ∃ v nx e : Int, r = .returned (.tuple #[.int .i64 v, .int .i64 nx, .int .i64 e]) ∧ Below w.heap.size w w' ∧ (uerr l p = 0 → e = 0 ∧ nx = (p : Int) + (ulen l p : Int)) ∧ (uerr l p ≠ 0 → e ≠ 0)
set_option maxRecDepth 100000 in
set_option maxHeartbeats 4000000 in
theorem rtake3_any {w : World} {a : Option Addr} {b off c : Nat} {l : List UInt8} (hb : BytesAt w a b off l) (hlen : l.length ≤ c) (hbig : l.length ≤ 1000000) (hnil : a = none → c = 0) (p : Nat) (hp : p < l.length) :
    Calls Tryz.prog 59 #[.slice a l.length c, .int .i64 (p : Int)] w (RT3 l p w) := by
  have hb1 := hb.tail hlen p
  have hwh := rwhole_any (c := c - p) hb1 (by rw [List.length_drop]; omega) (by rw [List.length_drop]; omega)
  rw [wholeV_drop, List.length_drop] at hwh
  have hsl := slice_tail a l.length c p (by omega) hlen
  have hpi : (p : Int) < (l.length : Int) := by omega
  have hpn : decide ((l.length : Int) < (p : Int)) = false := by simp; omega
  have hbg : l.length - p < 4 → ∀ w2, Below w.heap.size w w2 → Calls Tryz.prog 77 #[.slice (tl a p c) (l.length - p) (c - p)] w2 (BegPost w2) := by
    intro h4 w2 hB2
    have hb2 := (hb.below hB2).tail hlen p
    have := rbegun_any (c := c - p) hb2 (by rw [List.length_drop]; omega) (by rw [List.length_drop]; omega) (by
      unfold tl
      split
      · intro h; have := hnil h; omega
      · intro h
        cases a with
        | none => have := hnil rfl; omega
        | some x => simp at h)
    rwa [List.length_drop] at this
  have hVV := wholeV_len (l := l) (p := p)
  have hVn : wholeV l p < 0 → uerr l p ≠ 0 := by
    intro h e
    have := wtest_n (form_test (uerr_form e))
    have h2 := form_test (uerr_form e)
    unfold wtest at h2
    rw [Bool.and_eq_true] at h2
    have h3 := (isChr_iff.1 h2.1).1
    omega
  obtain ⟨V, hV⟩ : ∃ V, V = wholeV l p := ⟨_, rfl⟩
  rw [← hV] at hwh hVV hVn
  replace hwh := Lib.hid hwh
  replace hbg := Lib.hid hbg
  replace hVV := Lib.hid hVV
  replace hVn := Lib.hid hVn
  obtain ⟨K, hK⟩ : ∃ K, w.heap.size = K := ⟨_, rfl⟩
  clear hb hb1 hV
  by_cases hV0 : 0 ≤ V
  · obtain ⟨h1, hch, h3⟩ := hVV.out hV0
    obtain ⟨v, rfl⟩ : ∃ v : Nat, V = (v : Int) := ⟨V.toNat, by omega⟩
    rw [Int.toNat_natCast] at h3
    have hv := Lib.hid (show v ≤ 1114111 from by have := isChr_iff.1 hch; omega)
    have hu5 := uenc_len v
    replace h1 := Lib.hid h1
    replace h3 := Lib.hid h3
    clear hVV hVn hch hV0
    go_enter Tryz.func59, Tryz.ntmps59
    go_wp2_with (first | (go_at_call 75; refine hwh.out.mono ?_; rintro r w2 ⟨rfl, hb2⟩; replace hb2 := Lib.hid hb2) | (go_at_call 76; refine (rput_any v _ hv.out).mono ?_; rintro r w' ⟨rfl, rfl⟩))
    go_ret3
    refine ⟨_, _, _, rfl, hb2.out.alloc hb2.out.size _, fun _ => ⟨rfl, by rw [h3.out]⟩, fun h => absurd h1.out h⟩
  · have hd : decide (0 ≤ V) = false := by simp; omega
    have hun := hVn.out (by omega)
    replace hun := Lib.hid hun
    clear hVV hVn
    replace hV0 := Lib.hid hV0
    by_cases h4 : l.length - p < 4
    · have h4i : (l.length : Int) - (p : Int) < 4 := by omega
      have hbg2 := hbg.out h4
      replace hbg2 := Lib.hid hbg2
      clear hbg
      replace h4 := Lib.hid h4
      go_enter Tryz.func59, Tryz.ntmps59
      go_wp2_with (first | (go_at_call 75; refine hwh.out.mono ?_; rintro r w2 ⟨rfl, hb2⟩; replace hb2 := Lib.hid hb2))
      refine (hbg2.out _ hb2.out).mono ?_
      rintro r w3 ⟨bo, rfl, hb3⟩
      have hb4 := Lib.hid (hb2.out.trans (hb3.mono hb2.out.size))
      clear hb3 hb2 hbg2
      cases bo with
      | true =>
        go_wp2_with fail
        go_ret3
        exact ⟨_, _, _, rfl, hb4.out, fun h => absurd h hun.out, fun _ => by decide⟩
      | false =>
        go_wp2_with fail
        go_ret3
        exact ⟨_, _, _, rfl, hb4.out, fun h => absurd h hun.out, fun _ => by decide⟩
    · have h4i : decide ((l.length : Int) - (p : Int) < 4) = false := by simp; omega
      clear hbg
      replace h4 := Lib.hid h4
      go_enter Tryz.func59, Tryz.ntmps59
      go_wp2_with (first | (go_at_call 75; refine hwh.out.mono ?_; rintro r w2 ⟨rfl, hb2⟩; replace hb2 := Lib.hid hb2))
      go_ret3
      exact ⟨_, _, _, rfl, hb2.out, fun h => absurd h hun.out, fun _ => by decide⟩

end Go.Proofs.YticfioblapjkmaaGreat
