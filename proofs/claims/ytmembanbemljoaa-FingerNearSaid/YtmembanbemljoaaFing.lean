/- The contracts of the fingerprint's inner functions: what one step and More compute. -/
import Derived.Test.YtmembanbemljoaaBase
namespace Go.Proofs.Ytmembanbemljoaa
open Go.RowKit

/-- One step, as numbers. -/
def fstep (h : Nat) : Nat := if h % 2 = 1 then h / 2 ^^^ 13933329357911598997 else h / 2
theorem fstep_lt (h : Nat) (hh : h < 18446744073709551616) : fstep h < 18446744073709551616 := by
  unfold fstep
  split
  · exact Nat.xor_lt_two_pow (n := 64) (by omega) (by omega)
  · omega
theorem fstep_odd (h : Nat) (hh : h < 18446744073709551616) (o : h % 2 = 1) : bits BinOp.xor IntKind.u64 ((h : Int) / 2) 13933329357911598997 = (fstep h : Int) := by
  have := bits_xor_u64_nat (h / 2) 13933329357911598997 (by omega) (by omega)
  unfold fstep; rw [if_pos o]; exact this

set_option maxHeartbeats 400000 in
theorem step_any (h : Nat) (w : World) (hh : h < 18446744073709551616) :
    Calls Try.prog 43 #[.int .u64 h] w fun e w' => e = .returned (.int .u64 (fstep h)) ∧ w = w' := by
  have ha := and_one_u64 (h : Int) (by omega) (by omega)
  by_cases o : h % 2 = 1
  · have hb : ((bits BinOp.and IntKind.u64 h 1) == 1) = true := by rw [ha]; simp; omega
    have hc := fstep_odd h hh o
    clear ha
    go_enter Try.func43, Try.ntmps43
    go_wp2
    go_ret
    exact ⟨rfl, rfl⟩
  · have hb : ((bits BinOp.and IntKind.u64 h 1) == 1) = false := by rw [ha]; simp; omega
    have hc : (h : Int) / 2 = (fstep h : Int) := by unfold fstep; rw [if_neg o]; omega
    clear ha
    go_enter Try.func43, Try.ntmps43
    go_wp2
    go_ret
    exact ⟨rfl, rfl⟩

def fsteps : Nat → Nat → Nat
  | 0, x => x
  | n + 1, x => fstep (fsteps n x)
theorem fsteps_lt (n x : Nat) (hx : x < 18446744073709551616) : fsteps n x < 18446744073709551616 := by
  induction n with
  | zero => exact hx
  | succ n ih => exact fstep_lt _ ih
/-- A byte, then eight steps. -/
def fbyte (h : Nat) (c : UInt8) : Nat := fsteps 8 (h ^^^ c.toNat)
theorem fbyte_lt (h : Nat) (c : UInt8) (hh : h < 18446744073709551616) : fbyte h c < 18446744073709551616 := by
  have := c.toNat_lt
  exact fsteps_lt _ _ (Nat.xor_lt_two_pow (n := 64) (by omega) (by omega))
def fmore (h : Nat) (l : List UInt8) : Nat := l.foldl fbyte h
theorem fmore_lt (l : List UInt8) : ∀ h, h < 18446744073709551616 → fmore h l < 18446744073709551616 := by
  induction l with
  | nil => exact fun h hh => hh
  | cons c l ih => exact fun h hh => ih _ (fbyte_lt h c hh)
theorem fmore_snoc (h : Nat) (l : List UInt8) (k : Nat) (hk : k < l.length) : fmore h (l.take (k + 1)) = fbyte (fmore h (l.take k)) (l[k]?.getD 0) := by
  unfold fmore
  rw [List.take_succ_eq_append_getElem hk, List.getElem?_eq_getElem hk, List.foldl_append]
  rfl

set_option maxHeartbeats 800000 in
theorem more_any (h : Nat) (a : Option Addr) (b off c : Nat) (l : List UInt8) (w : World) (hh : h < 18446744073709551616) (hl : l.length ≤ 140737488351232) (hb : BytesAt w a b off l) :
    Calls Try.prog 19 #[.int .u64 h, .slice a l.length c] w fun e w' => e = .returned (.int .u64 (fmore h l)) ∧ w = w' := by
  have hi := fun (i : Int) (W : World) => hb.idx l.length c rfl i W
  have hx := fun (x y : Nat) => bits_xor_u64_nat x y
  go_enter Try.func19, Try.ntmps19
  go_wp2
  go_loop [6, 12] (fun s i => ∃ k : Nat, k ≤ l.length ∧ i = .int .i64 k ∧ s = .int .u64 (fmore h (l.take k))) (fun _ i => l.length - (intOf i).toNat)
  case atStart => exact ⟨0, Nat.zero_le _, rfl, by simp [fmore]⟩
  case round =>
    obtain ⟨k, hk, rfl, rfl⟩ := hrel
    have hf := fmore_lt (l.take k) h hh
    have hc : k < l.length → w.cell? ⟨b, off + k, none⟩ = some (.int .u8 ((l[k]?.getD 0).toNat : Int)) := hb.2 k
    have hu : (l[k]?.getD 0).toNat < 256 := (l[k]?.getD 0).toNat_lt
    by_cases hlt : k < l.length
    · have hs := Lib.hid (fmore_snoc h l k hlt)
      obtain ⟨x, hx⟩ : ∃ x, x = l[k]?.getD 0 := ⟨_, rfl⟩
      rw [← hx] at hc hu hs
      obtain ⟨y, hy⟩ : ∃ y, y = fmore h (l.take k) := ⟨_, rfl⟩
      rw [← hy] at hf hs ⊢
      have hz := fbyte_lt y x hf
      have hxx := bits_xor_u64_nat y x.toNat hf (by omega)
      have hlo : y ^^^ x.toNat < 18446744073709551616 := Nat.xor_lt_two_pow (n := 64) (by omega) (by omega)
      have hc' := hc hlt
      clear hx hy hc hb
      go_wp2
      go_loop [6, 20] (fun s i => ∃ m : Nat, m ≤ 8 ∧ i = .int .i64 m ∧ s = .int .u64 (fsteps m (y ^^^ x.toNat))) (fun _ i => 8 - (intOf i).toNat)
      case atStart => exact ⟨0, by omega, rfl, rfl⟩
      case round =>
        obtain ⟨m, hm, rfl, rfl⟩ := hrel
        have hst := fsteps_lt m _ hlo
        by_cases hlt8 : m < 8
        · go_wp2_with (go_at_call 43; refine (step_any _ _ hst).mono ?_; rintro e w' ⟨rfl, rfl⟩)
          go_round
          case rel => exact ⟨m + 1, by omega, by go_num, rfl⟩
          case measure => simp [intOf]; omega
        · obtain rfl : m = 8 := by omega
          go_wp2
          go_round
          case rel => exact ⟨k + 1, by omega, by go_num, by rw [hs.out]; rfl⟩
          case measure => simp [intOf]; omega
    · obtain rfl : k = l.length := by omega
      go_wp2
      go_ret
      exact ⟨rfl, rfl⟩

theorem half_odd (x : Nat) (o : x % 2 = 1) : fstep x = x / 2 ^^^ 13933329357911598997 := by unfold fstep; rw [if_pos o]
theorem half_even (x : Nat) (o : ¬ x % 2 = 1) : fstep x = x / 2 := by unfold fstep; rw [if_neg o]

set_option maxHeartbeats 800000 in
theorem refMore_any (h : Nat) (a : Option Addr) (b off c : Nat) (l : List UInt8) (w : World) (hh : h < 18446744073709551616) (hl : l.length ≤ 140737488351232) (hb : BytesAt w a b off l) :
    Calls Try.prog 20 #[.int .u64 h, .slice a l.length c] w fun e w' => e = .returned (.int .u64 (fmore h l)) ∧ w = w' := by
  have hi := fun (i : Int) (W : World) => hb.idx l.length c rfl i W
  go_enter Try.func20, Try.ntmps20
  go_wp2
  go_loop [0, 5] (fun s i => ∃ k : Nat, k ≤ l.length ∧ i = .int .i64 k ∧ s = .int .u64 (fmore h (l.take k))) (fun _ i => l.length - (intOf i).toNat)
  case atStart => exact ⟨0, Nat.zero_le _, rfl, by simp [fmore]⟩
  case round =>
    obtain ⟨k, hk, rfl, rfl⟩ := hrel
    have hf := fmore_lt (l.take k) h hh
    have hc : k < l.length → w.cell? ⟨b, off + k, none⟩ = some (.int .u8 ((l[k]?.getD 0).toNat : Int)) := hb.2 k
    have hu : (l[k]?.getD 0).toNat < 256 := (l[k]?.getD 0).toNat_lt
    by_cases hlt : k < l.length
    · have hs := Lib.hid (fmore_snoc h l k hlt)
      obtain ⟨x, hx⟩ : ∃ x, x = l[k]?.getD 0 := ⟨_, rfl⟩
      rw [← hx] at hc hu hs
      obtain ⟨y, hy⟩ : ∃ y, y = fmore h (l.take k) := ⟨_, rfl⟩
      rw [← hy] at hf hs ⊢
      have hxx := bits_xor_u64_nat y x.toNat hf (by omega)
      have hlo : y ^^^ x.toNat < 18446744073709551616 := Nat.xor_lt_two_pow (n := 64) (by omega) (by omega)
      have hc' := hc hlt
      clear hx hy hc hb
      go_wp2
      go_loop [0, 6] (fun s i => ∃ m : Nat, m ≤ 8 ∧ i = .int .i64 m ∧ s = .int .u64 (fsteps m (y ^^^ x.toNat))) (fun _ i => 8 - (intOf i).toNat)
      case atStart => exact ⟨0, by omega, rfl, rfl⟩
      case round =>
        obtain ⟨m, hm, rfl, rfl⟩ := hrel
        have hst := fsteps_lt m _ hlo
        by_cases hlt8 : m < 8
        · have hss : Hid (fsteps (m + 1) (y ^^^ x.toNat) = fstep (fsteps m (y ^^^ x.toNat))) := rfl
          obtain ⟨z, hz⟩ : ∃ z, z = fsteps m (y ^^^ x.toNat) := ⟨_, rfl⟩
          rw [← hz] at hst hss ⊢
          clear hz hxx
          have hq := bits_xor_u64_nat (z / 2) 13933329357911598997 (by omega) (by omega)
          have hodd := Lib.hid (half_odd z)
          have heven := Lib.hid (half_even z)
          by_cases o : z % 2 = 1
          · have hb : (((z : Int) % 2) == 1) = true := by simp; omega
            go_wp2
            go_round
            case rel => exact ⟨m + 1, by omega, by go_num, by rw [hss.out, hodd.out o, ← hq]; rfl⟩
            case measure => simp [intOf]; omega
          · have hb : (((z : Int) % 2) == 1) = false := by simp; omega
            go_wp2
            go_round
            case rel => exact ⟨m + 1, by omega, by go_num, by rw [hss.out, heven.out o]; rfl⟩
            case measure => simp [intOf]; omega
        · obtain rfl : m = 8 := by omega
          go_wp2
          go_round
          case rel => exact ⟨k + 1, by omega, by go_num, by rw [hs.out]; rfl⟩
          case measure => simp [intOf]; omega
    · obtain rfl : k = l.length := by omega
      go_wp2
      go_ret
      exact ⟨rfl, rfl⟩

/-- The fingerprint of nothing. -/
def fempty : Nat := 13933329357911598997
def fsum (l : List UInt8) : Nat := fmore fempty l
theorem fempty_lt : fempty < 18446744073709551616 := by unfold fempty; omega

set_option maxHeartbeats 400000 in
theorem sum_any (a : Option Addr) (b off c : Nat) (l : List UInt8) (w : World) (hl : l.length ≤ 140737488351232) (hb : BytesAt w a b off l) :
    Calls Try.prog 17 #[.slice a l.length c] w fun e w' => e = .returned (.int .u64 (fsum l)) ∧ w = w' := by
  go_enter Try.func17, Try.ntmps17
  go_wp2_with (go_at_call 19; refine (more_any fempty a b off c l _ fempty_lt hl hb).mono ?_; rintro e w' ⟨rfl, rfl⟩)
  go_ret
  exact ⟨rfl, rfl⟩

set_option maxHeartbeats 400000 in
theorem refSum_any (a : Option Addr) (b off c : Nat) (l : List UInt8) (w : World) (hl : l.length ≤ 140737488351232) (hb : BytesAt w a b off l) :
    Calls Try.prog 18 #[.slice a l.length c] w fun e w' => e = .returned (.int .u64 (fsum l)) ∧ w = w' := by
  go_enter Try.func18, Try.ntmps18
  go_wp2_with (go_at_call 20; refine (refMore_any fempty a b off c l _ fempty_lt hl hb).mono ?_; rintro e w' ⟨rfl, rfl⟩)
  go_ret
  exact ⟨rfl, rfl⟩

end Go.Proofs.Ytmembanbemljoaa
