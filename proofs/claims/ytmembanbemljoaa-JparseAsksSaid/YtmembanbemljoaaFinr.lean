/- The contracts of the fingerprint's digits: Read, of the program and of the document. -/
import Derived.Test.YtmembanbemljoaaBase
import Derived.Lib.Bytealg
import Derived.BigCall
set_option linter.unusedVariables false
set_option linter.unusedSimpArgs false
namespace Go.Proofs.Ytmembanbemljoaa
open Go.RowKit

set_option maxHeartbeats 400000 in
theorem slIndexByte_any (s : ByteArray) (c : Int) (w : World) :
    Calls Try.prog 60 #[.string s, .int .u8 c] w fun e w' => e = .returned (.int .i64 (Lib.indexByte s.data.toList c.toNat.toUInt8)) ∧ w = w' := by
  go_enter Try.func60, Try.ntmps60
  go_wp2_with fail
  rw [run_callFunc_extern Try.func81 (by kernel_rfl) (by kernel_rfl) (by kernel_rfl) (e := Extern.BytealgIndexByte.indexByte) (by kernel_rfl), Lib.run_indexByteString]
  simp only [Result.andThen]
  rw [Oper.upon_value]
  go_wp2
  go_ret
  exact ⟨rfl, rfl⟩

set_option maxHeartbeats 400000 in
theorem indexByte_any (s : ByteArray) (c : Int) (w : World) :
    Calls Try.prog 42 #[.string s, .int .u8 c] w fun e w' => e = .returned (.int .i64 (Lib.indexByte s.data.toList c.toNat.toUInt8)) ∧ w = w' := by
  go_enter Try.func42, Try.ntmps42
  go_wp2_with (go_at_call 60; refine (slIndexByte_any s c _).mono ?_; rintro e w' ⟨rfl, rfl⟩)
  go_ret
  exact ⟨rfl, rfl⟩

/-- The sixteen digits. -/
def hexs : List UInt8 := [48, 49, 50, 51, 52, 53, 54, 55, 56, 57, 97, 98, 99, 100, 101, 102]
/-- What a digit says. -/
def nib (c : UInt8) : Option Nat := if 48 ≤ c.toNat ∧ c.toNat ≤ 57 then some (c.toNat - 48) else if 97 ≤ c.toNat ∧ c.toNat ≤ 102 then some (c.toNat - 87) else none
theorem nib_lt {c : UInt8} {d : Nat} (h : nib c = some d) : d < 16 := by
  unfold nib at h
  split at h
  · simp at h; omega
  · split at h
    · simp at h; omega
    · simp at h
theorem nib_index_all : ∀ n : Nat, n < 256 → Lib.indexByte hexs n.toUInt8 = match nib n.toUInt8 with | some d => (d : Int) | none => -1 := by decide +kernel
theorem nib_index (c : UInt8) : Lib.indexByte hexs c = match nib c with | some d => (d : Int) | none => -1 := by
  have h := nib_index_all c.toNat c.toNat_lt
  have e : c.toNat.toUInt8 = c := by simp
  rw [e] at h; exact h
/-- The digits read, one behind the other. -/
def rdh : List UInt8 → Nat → Option Nat
  | [], h => some h
  | c :: l, h => match nib c with
    | none => none
    | some d => rdh l (h * 16 + d)
/-- What Read answers. -/
def readh (l : List UInt8) : Nat × Bool := if l.length = 16 then (match rdh l 0 with | some h => (h, true) | none => (0, false)) else (0, false)
theorem rdh_append (l m : List UInt8) : ∀ h, rdh (l ++ m) h = (rdh l h).bind (rdh m) := by
  induction l with
  | nil => intro h; rfl
  | cons c l ih =>
    intro h
    simp only [List.cons_append, rdh]
    cases nib c with
    | none => rfl
    | some d => exact ih _
theorem rdh_snoc (l : List UInt8) (k h : Nat) (hk : k < l.length) (hr : rdh (l.take k) 0 = some h) :
    rdh (l.take (k + 1)) 0 = (nib (l[k]?.getD 0)).map (fun d => h * 16 + d) := by
  rw [List.take_succ_eq_append_getElem hk, rdh_append, hr, List.getElem?_eq_getElem hk]
  simp only [Option.bind_some, Option.getD_some, rdh]
  cases nib l[k] <;> rfl
theorem rdh_none (l : List UInt8) (k : Nat) (h : rdh (l.take k) 0 = none) : rdh l 0 = none := by
  have e := rdh_append (l.take k) (l.drop k) 0
  rw [List.take_append_drop, h] at e
  exact e
theorem readh_none (l : List UInt8) (k h : Nat) (hk : k < l.length) (hr : rdh (l.take k) 0 = some h) (hn : nib (l[k]?.getD 0) = none) : readh l = (0, false) := by
  have := rdh_snoc l k h hk hr
  rw [hn] at this
  have e := rdh_none l (k + 1) this
  unfold readh
  rw [e]
  simp
theorem readh_some (l : List UInt8) (h : Nat) (hl : l.length = 16) (hr : rdh (l.take 16) 0 = some h) : readh l = (h, true) := by
  rw [List.take_of_length_le (by omega)] at hr
  unfold readh
  rw [if_pos hl, hr]
theorem shl4 (h : Nat) (hh : h < 1152921504606846976) : (h : Int) * 16 % 18446744073709551616 = ((h * 16 : Nat) : Int) := by omega
theorem or4 (h d : Nat) (hh : h < 1152921504606846976) (hd : d < 16) : bits .or .u64 ((h * 16 : Nat) : Int) (d : Int) = ((h * 16 + d : Nat) : Int) := by
  rw [bits_or_u64_nat _ _ (by omega) (by omega)]
  have := Nat.shiftLeft_add_eq_or_of_lt (i := 4) (b := d) hd h
  rw [Nat.shiftLeft_eq] at this
  simp at this
  rw [this]
theorem pow16 (k : Nat) (hk : k < 16) : 16 ^ k ≤ 1152921504606846976 := by
  have := Nat.pow_le_pow_right (n := 16) (by omega) (show k ≤ 15 from by omega)
  exact this

set_option maxHeartbeats 800000 in
theorem read_any (s : ByteArray) (w : World) (hs : s.size ≤ 140737488351232) :
    Calls Try.prog 15 #[.string s] w fun e w' => e = .returned (.tuple #[.int .u64 (readh s.data.toList).1, .bool (readh s.data.toList).2]) ∧ w = w' := by
  by_cases h16 : s.size = 16
  · have hq : ((s.size : Int) != 16) = false := by simp; omega
    have hlen : s.data.toList.length = 16 := h16
    go_enter Try.func15, Try.ntmps15
    go_wp2
    go_loop [4, 10] (fun v i => ∃ k h : Nat, k ≤ 16 ∧ h < 16 ^ k ∧ rdh (s.data.toList.take k) 0 = some h ∧ i = .int .i64 k ∧ v = .int .u64 h) (fun _ i => 16 - (intOf i).toNat)
    case atStart => exact ⟨0, 0, by omega, by omega, rfl, rfl, rfl⟩
    case round =>
      obtain ⟨k, h, hk, hh, hr, rfl, rfl⟩ := hrel
      by_cases hlt : k < 16
      · have hidx := fun W => idxStr s k (by omega) W
        have hp := pow16 k hlt
        have hx := rdh_snoc s.data.toList k h (by omega) hr
        have hno := Lib.hid (readh_none s.data.toList k h (by omega) hr)
        obtain ⟨c, hc⟩ : ∃ c, c = s.data.toList[k]?.getD 0 := ⟨_, rfl⟩
        rw [← hc] at hidx hno hx
        replace hx := Lib.hid hx
        have hi := nib_index c
        have hcc : c.toNat.toUInt8 = c := by simp
        have hr' := Lib.hid hr
        clear hc hr
        cases hn : nib c with
        | none =>
          rw [hn] at hi hx
          have hhn := Lib.hid hn; clear hn
          have hi' := Lib.hid hi; clear hi
          have hcc' := Lib.hid hcc; clear hcc
          go_wp2_with (go_at_call 42; refine (indexByte_any _ _ _).mono ?_; rintro e w' ⟨rfl, rfl⟩; rw [Int.toNat_natCast, hcc'.out, show (ByteArray.mk #[48, 49, 50, 51, 52, 53, 54, 55, 56, 57, 97, 98, 99, 100, 101, 102]).data.toList = hexs from rfl, hi'.out])
          go_ret2
          rw [hno.out hhn.out]
          exact ⟨rfl, rfl⟩
        | some d =>
          rw [hn] at hi hx
          have hd := nib_lt hn
          clear hn
          have hi' := Lib.hid hi; clear hi
          have hcc' := Lib.hid hcc; clear hcc
          have hor := or4 h d (by omega) hd
          have hsh := shl4 h (by omega)
          go_wp2_with (go_at_call 42; refine (indexByte_any _ _ _).mono ?_; rintro e w' ⟨rfl, rfl⟩; rw [Int.toNat_natCast, hcc'.out, show (ByteArray.mk #[48, 49, 50, 51, 52, 53, 54, 55, 56, 57, 97, 98, 99, 100, 101, 102]).data.toList = hexs from rfl, hi'.out])
          go_round
          case rel => exact ⟨k + 1, h * 16 + d, by omega, by rw [Nat.pow_succ]; omega, hx.out, by go_num, by rw [← hor]; congr 2⟩
          case measure => simp [intOf]; omega
      · obtain rfl : k = 16 := by omega
        have e := Lib.hid (readh_some _ h hlen hr)
        go_wp2
        go_ret2
        rw [e.out]
        exact ⟨rfl, rfl⟩
  · have hq : ((s.size : Int) != 16) = true := by simp; omega
    have e : readh s.data.toList = (0, false) := by unfold readh; exact if_neg h16
    replace e := Lib.hid e
    go_enter Try.func15, Try.ntmps15
    go_wp2
    go_ret2
    rw [e.out]
    exact ⟨rfl, rfl⟩

theorem sub48 (c : UInt8) (h1 : 48 ≤ c.toNat) : IntKind.u8.wrap ((c.toNat : Int) - 48) = ((c.toNat - 48 : Nat) : Int) := by
  have := c.toNat_lt
  simp [IntKind.wrap, IntKind.bits, IntKind.signed]; omega

set_option maxHeartbeats 800000 in
theorem refRead_any (s : ByteArray) (w : World) (hs : s.size ≤ 140737488351232) :
    Calls Try.prog 16 #[.string s] w fun e w' => e = .returned (.tuple #[.int .u64 (readh s.data.toList).1, .bool (readh s.data.toList).2]) ∧ w = w' := by
  have hlen : s.data.toList.length = s.size := rfl
  go_enter Try.func16, Try.ntmps16
  go_wp2
  go_loop [4, 5] (fun v i => ∃ k h : Nat, k ≤ 16 ∧ k ≤ s.size ∧ h < 16 ^ k ∧ rdh (s.data.toList.take k) 0 = some h ∧ i = .int .i64 k ∧ v = .int .u64 h) (fun _ i => 16 - (intOf i).toNat)
  case atStart => exact ⟨0, 0, by omega, by omega, by omega, rfl, rfl, rfl⟩
  case round =>
    obtain ⟨k, h, hk, hks, hh, hr, rfl, rfl⟩ := hrel
    by_cases hlt : k < 16 ∧ k < s.size
    · obtain ⟨hlt, hls⟩ := hlt
      have hidx := fun W => idxStr s k (by omega) W
      have hp := pow16 k hlt
      have hx := rdh_snoc s.data.toList k h (by omega) hr
      have hno := Lib.hid (readh_none s.data.toList k h (by omega) hr)
      obtain ⟨c, hc⟩ : ∃ c, c = s.data.toList[k]?.getD 0 := ⟨_, rfl⟩
      rw [← hc] at hidx hno hx
      replace hx := Lib.hid hx
      have hr' := Lib.hid hr
      have hlen' := Lib.hid hlen
      have hcl := c.toNat_lt
      clear hc hr hlen
      obtain ⟨x, hxc⟩ : ∃ x, x = c.toNat := ⟨_, rfl⟩
      have hnib : nib c = if 48 ≤ x ∧ x ≤ 57 then some (x - 48) else if 97 ≤ x ∧ x ≤ 102 then some (x - 87) else none := by rw [hxc]; rfl
      replace hnib := Lib.hid hnib
      rw [← hxc] at hidx hcl
      clear hxc
      have hcl : x < 256 := hcl
      by_cases c1 : 48 ≤ x ∧ x ≤ 57
      · have hn : nib c = some (x - 48) := by rw [hnib.out]; exact if_pos c1
        replace hn := Lib.hid hn
        obtain ⟨c1a, c1b⟩ := c1
        go_wp2
        go_round
        case rel => exact ⟨k + 1, h * 16 + (x - 48), by omega, by omega, by rw [Nat.pow_succ]; omega, by rw [hx.out, hn.out]; rfl, by go_num, by go_num⟩
        case measure => simp [intOf]; omega
      · by_cases c2 : 97 ≤ x ∧ x ≤ 102
        · have hn : nib c = some (x - 87) := by rw [hnib.out]; exact (if_neg c1).trans (if_pos c2)
          replace hn := Lib.hid hn
          obtain ⟨c2a, c2b⟩ := c2
          clear c1
          go_wp2
          go_round
          case rel => exact ⟨k + 1, h * 16 + (x - 87), by omega, by omega, by rw [Nat.pow_succ]; omega, by rw [hx.out, hn.out]; rfl, by go_num, by go_num⟩
          case measure => simp [intOf]; omega
        · have hn : nib c = none := by rw [hnib.out]; exact (if_neg c1).trans (if_neg c2)
          have hn := hno.out hn
          replace hn := Lib.hid hn
          clear hno hx
          go_wp2
          all_goals (go_ret2; first | exact ⟨rfl, rfl⟩ | (rw [hn.out]; exact ⟨rfl, rfl⟩))
    · by_cases h16 : s.size = 16
      · obtain rfl : k = 16 := by omega
        have e := Lib.hid (readh_some _ h (by omega) hr)
        have hq : ((s.size : Int) != 16) = false := by simp; omega
        clear hr hlen
        have h16' := Lib.hid h16
        clear h16
        go_wp2
        all_goals (go_ret2; first | exact ⟨rfl, rfl⟩ | (rw [e.out]; exact ⟨rfl, rfl⟩))
      · have e : readh s.data.toList = (0, false) := by unfold readh; exact if_neg h16
        replace e := Lib.hid e
        have hq : ((s.size : Int) != 16) = true := by simp; omega
        clear hr hlen
        by_cases hls : k < s.size
        · obtain rfl : k = 16 := by omega
          clear hlt h16
          go_wp2
          all_goals (go_ret2; first | exact ⟨rfl, rfl⟩ | (rw [e.out]; exact ⟨rfl, rfl⟩))
        · clear hlt h16
          go_wp2
          all_goals (go_ret2; first | exact ⟨rfl, rfl⟩ | (rw [e.out]; exact ⟨rfl, rfl⟩))

/-- The digit of a number below 16. -/
def dig (d : Nat) : UInt8 := hexs[d]?.getD 0
/-- The last i digits of a number. -/
def hexd : Nat → Nat → List UInt8
  | 0, _ => []
  | i + 1, h => dig (h / 16 ^ i % 16) :: hexd i h

end Go.Proofs.Ytmembanbemljoaa
