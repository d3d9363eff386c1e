/- Characters as bytes: how many bytes a character takes, and the program's Take. -/
import Derived.Test.YtmembanbemljoaaLexb
namespace Go.Proofs.Ytmembanbemljoaa
open Go.RowKit
set_option linter.unusedVariables false
set_option linter.unusedSimpArgs false

/-- How many bytes a first byte asks for. -/
def ufirst (c : UInt8) : Nat := if c.toNat < 128 then 1 else if c.toNat < 194 then 0 else if c.toNat < 224 then 2 else if c.toNat < 240 then 3 else if c.toNat < 245 then 4 else 0
def ulo (a : UInt8) : Nat := if a.toNat = 224 then 160 else if a.toNat = 240 then 144 else 128
def uhi (a : UInt8) : Nat := if a.toNat = 237 then 159 else if a.toNat = 244 then 143 else 191
def usec (a b : UInt8) : Bool := decide (ulo a ≤ b.toNat ∧ b.toNat ≤ uhi a)
def ucont (b : UInt8) : Bool := decide (128 ≤ b.toNat ∧ b.toNat < 192)
/-- What the i-th byte behind the first one does: 10: there is none; 11: it may not follow. -/
def ustep (l : List UInt8) (p i : Nat) : Nat := if p + i < l.length then (if ucont (byteAt l (p + i)) = true ∧ (i = 1 → usec (byteAt l p) (byteAt l (p + i)) = true) then 0 else 11) else 10
/-- What the bytes 1 .. k do: 0: they may follow. -/
def ustat (l : List UInt8) (p : Nat) : Nat → Nat
  | 0 => 0
  | k + 1 => if ustat l p k = 0 then ustep l p (k + 1) else ustat l p k
/-- Why there is no character at p; 0: there is one. -/
def uerr (l : List UInt8) (p : Nat) : Nat := if p < l.length then (if ufirst (byteAt l p) = 0 then 11 else ustat l p (ufirst (byteAt l p) - 1)) else 10
/-- How many bytes the character at p takes. -/
def ulen (l : List UInt8) (p : Nat) : Nat := ufirst (byteAt l p)
/-- What a first byte says itself. -/
def ufv (c : UInt8) : Nat := if c.toNat < 128 then c.toNat else if c.toNat < 194 then 0 else if c.toNat < 224 then c.toNat % 32 else if c.toNat < 240 then c.toNat % 16 else if c.toNat < 245 then c.toNat % 8 else 0
/-- What the first byte and k more say. -/
def uval (l : List UInt8) (p : Nat) : Nat → Nat
  | 0 => ufv (byteAt l p)
  | k + 1 => uval l p k * 64 + (byteAt l (p + (k + 1))).toNat % 64
theorem ustat_mono {l : List UInt8} {p k : Nat} (h : ustat l p k ≠ 0) : ∀ j, ustat l p (k + j) = ustat l p k := by
  intro j
  induction j with
  | zero => rfl
  | succ j ih => rw [show k + (j + 1) = (k + j) + 1 from by omega]; simp only [ustat]; rw [ih, if_neg h]
theorem ustat_bad {l : List UInt8} {p i n : Nat} (hi : 1 ≤ i) (hin : i < n) (h0 : ustat l p (i - 1) = 0) (h : ustep l p i ≠ 0) : ustat l p (n - 1) = ustep l p i := by
  have h1 : ustat l p i = ustep l p i := by
    cases i with
    | zero => omega
    | succ i => simp only [ustat]; rw [if_pos (by simpa using h0)]
  have := ustat_mono (l := l) (p := p) (k := i) (by rw [h1]; exact h) (n - 1 - i)
  rw [h1] at this
  rwa [show i + (n - 1 - i) = n - 1 from by omega] at this
theorem ustat_next {l : List UInt8} {p k : Nat} (h0 : ustat l p k = 0) (h : ustep l p (k + 1) = 0) : ustat l p (k + 1) = 0 := by
  simp only [ustat]; rw [if_pos h0, h]
theorem u8_low (x : Nat) (m k : Nat) (hx : x < 256) (hm : m = 2 ^ k - 1) (hk : k ≤ 8) : bits BinOp.and IntKind.u8 (x : Int) (m : Int) = ((x % 2 ^ k : Nat) : Int) := by
  have hm2 : m < 256 := by
    have := Nat.pow_le_pow_right (n := 2) (by omega) hk
    omega
  rw [u8_and_nat x m hx hm2, hm, Nat.and_two_pow_sub_one_eq_mod]

set_option maxRecDepth 100000 in
set_option maxHeartbeats 800000 in
theorem first_any (c : UInt8) (w : World) :
    Calls Try.prog 86 #[.int .u8 (c.toNat : Int)] w fun r w' => r = .returned (.tuple #[.int .i64 (ufirst c : Int), .int .i32 (ufv c : Int)]) ∧ w = w' := by
  have hc : c.toNat < 256 := c.toNat_lt
  have hu : ufirst c = if c.toNat < 128 then 1 else if c.toNat < 194 then 0 else if c.toNat < 224 then 2 else if c.toNat < 240 then 3 else if c.toNat < 245 then 4 else 0 := rfl
  have hv : ufv c = if c.toNat < 128 then c.toNat else if c.toNat < 194 then 0 else if c.toNat < 224 then c.toNat % 32 else if c.toNat < 240 then c.toNat % 16 else if c.toNat < 245 then c.toNat % 8 else 0 := rfl
  obtain ⟨x, hx⟩ : ∃ x, x = c.toNat := ⟨_, rfl⟩
  rw [← hx] at hc hu hv ⊢
  clear hx
  have b1 := u8_low x 31 5 hc rfl (by omega)
  have b2 := u8_low x 15 4 hc rfl (by omega)
  have b3 := u8_low x 7 3 hc rfl (by omega)
  rw [show (2 : Nat) ^ 5 = 32 from rfl] at b1
  rw [show (2 : Nat) ^ 4 = 16 from rfl] at b2
  rw [show (2 : Nat) ^ 3 = 8 from rfl] at b3
  rw [show ((31 : Nat) : Int) = 31 from rfl, show ((x % 32 : Nat) : Int) = (x : Int) % 32 from by omega] at b1
  rw [show ((15 : Nat) : Int) = 15 from rfl, show ((x % 16 : Nat) : Int) = (x : Int) % 16 from by omega] at b2
  rw [show ((7 : Nat) : Int) = 7 from rfl, show ((x % 8 : Nat) : Int) = (x : Int) % 8 from by omega] at b3
  by_cases h1 : x < 128
  · rw [if_pos h1] at hu hv
    rw [hu, hv]
    clear hu hv
    go_enter Try.func86, Try.ntmps86
    go_wp2
    go_ret2
    exact ⟨rfl, rfl⟩
  rw [if_neg h1] at hu hv
  by_cases h2 : x < 194
  · rw [if_pos h2] at hu hv
    rw [hu, hv]
    clear hu hv
    go_enter Try.func86, Try.ntmps86
    go_wp2
    go_ret2
    exact ⟨rfl, rfl⟩
  rw [if_neg h2] at hu hv
  by_cases h3 : x < 224
  · rw [if_pos h3] at hu hv
    rw [hu, hv]
    clear hu hv
    go_enter Try.func86, Try.ntmps86
    go_wp2
    go_ret2
    exact ⟨rfl, rfl⟩
  rw [if_neg h3] at hu hv
  by_cases h4 : x < 240
  · rw [if_pos h4] at hu hv
    rw [hu, hv]
    clear hu hv
    go_enter Try.func86, Try.ntmps86
    go_wp2
    go_ret2
    exact ⟨rfl, rfl⟩
  rw [if_neg h4] at hu hv
  by_cases h5 : x < 245
  · rw [if_pos h5] at hu hv
    rw [hu, hv]
    clear hu hv
    go_enter Try.func86, Try.ntmps86
    go_wp2
    go_ret2
    exact ⟨rfl, rfl⟩
  rw [if_neg h5] at hu hv
  rw [hu, hv]
  clear hu hv
  go_enter Try.func86, Try.ntmps86
  go_wp2
  go_ret2
  exact ⟨rfl, rfl⟩

set_option maxRecDepth 100000 in
set_option maxHeartbeats 800000 in
theorem second_any (a b : UInt8) (w : World) :
    Calls Try.prog 87 #[.int .u8 (a.toNat : Int), .int .u8 (b.toNat : Int)] w fun r w' => r = .returned (.bool (usec a b)) ∧ w = w' := by
  have ha : a.toNat < 256 := a.toNat_lt
  have hb : b.toNat < 256 := b.toNat_lt
  have hu : usec a b = decide ((if a.toNat = 224 then 160 else if a.toNat = 240 then 144 else 128) ≤ b.toNat ∧ b.toNat ≤ (if a.toNat = 237 then 159 else if a.toNat = 244 then 143 else 191)) := rfl
  obtain ⟨x, hx⟩ : ∃ x, x = a.toNat := ⟨_, rfl⟩
  obtain ⟨y, hy⟩ : ∃ y, y = b.toNat := ⟨_, rfl⟩
  rw [← hx, ← hy] at hu ⊢
  rw [← hx] at ha
  rw [← hy] at hb
  clear hx hy
  have fin : ∀ (lo hi : Nat), decide ((if x = 224 then 160 else if x = 240 then 144 else 128) ≤ y ∧ y ≤ (if x = 237 then 159 else if x = 244 then 143 else 191)) = decide (lo ≤ y ∧ y ≤ hi) → lo ≤ hi →
      ((lo ≤ y ∧ y ≤ hi ∧ usec a b = true) ∨ (lo ≤ y ∧ hi < y ∧ decide ((y : Int) ≤ (hi : Int)) = false ∧ usec a b = false) ∨ (y < lo ∧ decide ((lo : Int) ≤ (y : Int)) = false ∧ usec a b = false)) := by
    intro lo hi h hle
    rw [hu, h]
    by_cases h1 : lo ≤ y
    · by_cases h2 : y ≤ hi
      · exact .inl ⟨h1, h2, by simp; omega⟩
      · exact .inr (.inl ⟨h1, by omega, by simp; omega, by simp; omega⟩)
    · exact .inr (.inr ⟨by omega, by simp; omega, by simp; omega⟩)
  have t1 : ((x : Int) == 224) = decide (x = 224) := by rw [Bool.eq_iff_iff]; simp; omega
  have t2 : ((x : Int) == 237) = decide (x = 237) := by rw [Bool.eq_iff_iff]; simp; omega
  have t3 : ((x : Int) == 240) = decide (x = 240) := by rw [Bool.eq_iff_iff]; simp; omega
  have t4 : ((x : Int) == 244) = decide (x = 244) := by rw [Bool.eq_iff_iff]; simp; omega
  by_cases c1 : x = 224
  · have := fin 160 191 (by subst c1; rfl) (by omega)
    subst c1
    clear fin hu t1 t2 t3 t4
    rcases this with ⟨q1, q2, hv⟩ | ⟨q1, q2, q3, hv⟩ | ⟨q1, q2, hv⟩
    all_goals
      replace hv := Lib.hid hv
      go_enter Try.func87, Try.ntmps87
      go_wp2
      all_goals (go_ret; rw [hv.out]; exact ⟨by first | rfl | (congr 2; simp; omega), rfl⟩)
  by_cases c2 : x = 237
  · have := fin 128 159 (by subst c2; rfl) (by omega)
    subst c2
    clear fin hu t1 t2 t3 t4 c1
    rcases this with ⟨q1, q2, hv⟩ | ⟨q1, q2, q3, hv⟩ | ⟨q1, q2, hv⟩
    all_goals
      replace hv := Lib.hid hv
      go_enter Try.func87, Try.ntmps87
      go_wp2
      all_goals (go_ret; rw [hv.out]; exact ⟨by first | rfl | (congr 2; simp; omega), rfl⟩)
  by_cases c3 : x = 240
  · have := fin 144 191 (by subst c3; rfl) (by omega)
    subst c3
    clear fin hu t1 t2 t3 t4 c1 c2
    rcases this with ⟨q1, q2, hv⟩ | ⟨q1, q2, q3, hv⟩ | ⟨q1, q2, hv⟩
    all_goals
      replace hv := Lib.hid hv
      go_enter Try.func87, Try.ntmps87
      go_wp2
      all_goals (go_ret; rw [hv.out]; exact ⟨by first | rfl | (congr 2; simp; omega), rfl⟩)
  by_cases c4 : x = 244
  · have := fin 128 143 (by subst c4; rfl) (by omega)
    subst c4
    clear fin hu t1 t2 t3 t4 c1 c2 c3
    rcases this with ⟨q1, q2, hv⟩ | ⟨q1, q2, q3, hv⟩ | ⟨q1, q2, hv⟩
    all_goals
      replace hv := Lib.hid hv
      go_enter Try.func87, Try.ntmps87
      go_wp2
      all_goals (go_ret; rw [hv.out]; exact ⟨by first | rfl | (congr 2; simp; omega), rfl⟩)
  have := fin 128 191 (by rw [if_neg c1, if_neg c3, if_neg c2, if_neg c4]) (by omega)
  rw [decide_eq_false c1] at t1
  rw [decide_eq_false c2] at t2
  rw [decide_eq_false c3] at t3
  rw [decide_eq_false c4] at t4
  clear fin hu c1 c2 c3 c4
  rcases this with ⟨q1, q2, hv⟩ | ⟨q1, q2, q3, hv⟩ | ⟨q1, q2, hv⟩
  all_goals
    replace hv := Lib.hid hv
    go_enter Try.func87, Try.ntmps87
    go_wp2
    all_goals (go_ret; rw [hv.out]; exact ⟨by first | rfl | (congr 2; simp; omega), rfl⟩)

end Go.Proofs.Ytmembanbemljoaa
