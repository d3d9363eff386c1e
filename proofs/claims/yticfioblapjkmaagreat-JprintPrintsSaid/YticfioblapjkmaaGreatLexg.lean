/- The lexer: hexadecimal digits, utf.Take, utf.Put. -/
import Derived.Test.YticfioblapjkmaaGreatBase
import Derived.Lib.Bytealg
import Derived.BigCall
import Derived.Test.YticfioblapjkmaaGreatLexb
set_option linter.unusedVariables false
set_option linter.unusedSimpArgs false
namespace Go.Proofs.YticfioblapjkmaaGreat
open Go.RowKit

set_option maxRecDepth 100000 in
set_option maxHeartbeats 400000 in
theorem slIndexByte_any (s : ByteArray) (c : Int) (w : World) :
    Calls Tryz.prog 53 #[.string s, .int .u8 c] w fun e w' => e = .returned (.int .i64 (Lib.indexByte s.data.toList c.toNat.toUInt8)) ∧ w = w' := by
  go_enter Tryz.func53, Tryz.ntmps53
  go_wp2_with fail
  rw [run_callFunc_extern Tryz.func70 (by kernel_rfl) (by kernel_rfl) (by kernel_rfl) (e := Extern.BytealgIndexByte.indexByte) (by kernel_rfl), Lib.run_indexByteString]
  simp only [Result.andThen]
  rw [Oper.upon_value]
  go_wp2
  go_ret
  exact ⟨rfl, rfl⟩

set_option maxRecDepth 100000 in
set_option maxHeartbeats 400000 in
theorem indexByte_any (s : ByteArray) (c : Int) (w : World) :
    Calls Tryz.prog 41 #[.string s, .int .u8 c] w fun e w' => e = .returned (.int .i64 (Lib.indexByte s.data.toList c.toNat.toUInt8)) ∧ w = w' := by
  go_enter Tryz.func41, Tryz.ntmps41
  go_wp2_with (go_at_call 53; refine (slIndexByte_any s c _).mono ?_; rintro e w' ⟨rfl, rfl⟩)
  go_ret
  exact ⟨rfl, rfl⟩

/-- The sixteen digits. -/
def hexs : List UInt8 := [48, 49, 50, 51, 52, 53, 54, 55, 56, 57, 97, 98, 99, 100, 101, 102]
/-- What a digit says. -/
def nib (c : UInt8) : Option Nat := if 48 ≤ c.toNat ∧ c.toNat ≤ 57 then some (c.toNat - 48) else if 97 ≤ c.toNat ∧ c.toNat ≤ 102 then some (c.toNat - 87) else none
theorem nib_lt {c : UInt8} {d : Nat} (h : nib c = some d) : d < 16 := by
  unfold nib at h
  split at h
  · simp at h; omega
  · split at h
    · simp at h; omega
    · simp at h
theorem nib_index_all : ∀ n : Nat, n < 256 → Lib.indexByte hexs n.toUInt8 = match nib n.toUInt8 with | some d => (d : Int) | none => -1 := by decide +kernel
theorem nib_index (c : UInt8) : Lib.indexByte hexs c = match nib c with | some d => (d : Int) | none => -1 := by
  have h := nib_index_all c.toNat c.toNat_lt
  have e : c.toNat.toUInt8 = c := by simp
  rw [e] at h; exact h
/-- The digits read, one behind the other. -/
def rdh : List UInt8 → Nat → Option Nat
  | [], h => some h
  | c :: l, h => match nib c with
    | none => none
    | some d => rdh l (h * 16 + d)
/-- What Read answers. -/
def readh (l : List UInt8) : Nat × Bool := if l.length = 16 then (match rdh l 0 with | some h => (h, true) | none => (0, false)) else (0, false)
theorem rdh_append (l m : List UInt8) : ∀ h, rdh (l ++ m) h = (rdh l h).bind (rdh m) := by
  induction l with
  | nil => intro h; rfl
  | cons c l ih =>
    intro h
    simp only [List.cons_append, rdh]
    cases nib c with
    | none => rfl
    | some d => exact ih _
theorem rdh_snoc (l : List UInt8) (k h : Nat) (hk : k < l.length) (hr : rdh (l.take k) 0 = some h) :
    rdh (l.take (k + 1)) 0 = (nib (l[k]?.getD 0)).map (fun d => h * 16 + d) := by
  rw [List.take_succ_eq_append_getElem hk, rdh_append, hr, List.getElem?_eq_getElem hk]
  simp only [Option.bind_some, Option.getD_some, rdh]
  cases nib l[k] <;> rfl
theorem rdh_none (l : List UInt8) (k : Nat) (h : rdh (l.take k) 0 = none) : rdh l 0 = none := by
  have e := rdh_append (l.take k) (l.drop k) 0
  rw [List.take_append_drop, h] at e
  exact e
theorem readh_none (l : List UInt8) (k h : Nat) (hk : k < l.length) (hr : rdh (l.take k) 0 = some h) (hn : nib (l[k]?.getD 0) = none) : readh l = (0, false) := by
  have := rdh_snoc l k h hk hr
  rw [hn] at this
  have e := rdh_none l (k + 1) this
  unfold readh
  rw [e]
  simp
theorem readh_some (l : List UInt8) (h : Nat) (hl : l.length = 16) (hr : rdh (l.take 16) 0 = some h) : readh l = (h, true) := by
  rw [List.take_of_length_le (by omega)] at hr
  unfold readh
  rw [if_pos hl, hr]
theorem shl4 (h : Nat) (hh : h < 1152921504606846976) : (h : Int) * 16 % 18446744073709551616 = ((h * 16 : Nat) : Int) := by omega
theorem or4 (h d : Nat) (hh : h < 1152921504606846976) (hd : d < 16) : bits .or .u64 ((h * 16 : Nat) : Int) (d : Int) = ((h * 16 + d : Nat) : Int) := by
  rw [bits_or_u64_nat _ _ (by omega) (by omega)]
  have := Nat.shiftLeft_add_eq_or_of_lt (i := 4) (b := d) hd h
  rw [Nat.shiftLeft_eq] at this
  simp at this
  rw [this]
theorem pow16 (k : Nat) (hk : k < 16) : 16 ^ k ≤ 1152921504606846976 := by
  have := Nat.pow_le_pow_right (n := 16) (by omega) (show k ≤ 15 from by omega)
  exact this


end Go.Proofs.YticfioblapjkmaaGreat

namespace Go.Proofs.YticfioblapjkmaaGreat
open Go.RowKit
set_option linter.unusedVariables false
set_option linter.unusedSimpArgs false

/-- What IndexByte finds among the sixteen digits. -/
def hexIdx (y : Int) : Int := Lib.indexByte hexs y.toNat.toUInt8
theorem hexIdx_all : ∀ y : Nat, y < 256 → hexIdx (y : Int) = if 48 ≤ y ∧ y ≤ 57 then (y : Int) - 48 else if 97 ≤ y ∧ y ≤ 102 then (y : Int) - 87 else -1 := by decide +kernel
theorem hexIdx_any (y : Int) (w : World) :
    Calls Tryz.prog 41 #[.string ⟨#[48, 49, 50, 51, 52, 53, 54, 55, 56, 57, 97, 98, 99, 100, 101, 102]⟩, .int .u8 y] w fun r w' => r = .returned (.int .i64 (hexIdx y)) ∧ w = w' :=
  indexByte_any _ y w
/-- A hexadecimal digit, great or small. -/
def nibU (c : UInt8) : Option Nat := if 48 ≤ c.toNat ∧ c.toNat ≤ 57 then some (c.toNat - 48) else if 97 ≤ c.toNat ∧ c.toNat ≤ 102 then some (c.toNat - 87) else if 65 ≤ c.toNat ∧ c.toNat ≤ 70 then some (c.toNat - 55) else none
/-- The first k digits from p on. -/
def hxs (l : List UInt8) (p : Nat) : Nat → Option Nat
  | 0 => some 0
  | k + 1 => (hxs l p k).bind fun n => (nibU (byteAt l (p + k))).map fun d => n * 16 + d
theorem nibU_lt {c : UInt8} {d : Nat} (h : nibU c = some d) : d < 16 := by
  unfold nibU at h
  split at h
  · simp at h; omega
  · split at h
    · simp at h; omega
    · split at h
      · simp at h; omega
      · simp at h
theorem hxs_lt {l : List UInt8} {p : Nat} : ∀ {k n : Nat}, hxs l p k = some n → n < 16 ^ k := by
  intro k
  induction k with
  | zero => intro n h; simp [hxs] at h; omega
  | succ k ih =>
    intro n h
    simp only [hxs, Option.bind_eq_some_iff, Option.map_eq_some_iff] at h
    obtain ⟨m, hm, d, hd, rfl⟩ := h
    have := ih hm
    have := nibU_lt hd
    rw [Nat.pow_succ]
    omega
theorem hxs_none {l : List UInt8} {p k : Nat} (h : hxs l p k = none) : ∀ j, hxs l p (k + j) = none := by
  intro j
  induction j with
  | zero => exact h
  | succ j ih => rw [show k + (j + 1) = (k + j) + 1 from by omega]; simp only [hxs]; rw [ih]; rfl
theorem hxs_stop {l : List UInt8} {p k n : Nat} (hk : k < 4) (h : hxs l p k = some n) (hn : nibU (byteAt l (p + k)) = none) : hxs l p 4 = none := by
  have h1 : hxs l p (k + 1) = none := by simp only [hxs]; rw [h, hn]; rfl
  have := hxs_none h1 (3 - k)
  rwa [show k + 1 + (3 - k) = 4 from by omega] at this
theorem hxs_next {l : List UInt8} {p k n d : Nat} (h : hxs l p k = some n) (hn : nibU (byteAt l (p + k)) = some d) : hxs l p (k + 1) = some (n * 16 + d) := by
  simp only [hxs]; rw [h, hn]; rfl
theorem nibU_pos {l : List UInt8} {i d : Nat} (h : nibU (byteAt l i) = some d) : i < l.length := by
  rcases Nat.lt_or_ge i l.length with h' | h'
  · exact h'
  · unfold byteAt at h
    rw [List.getElem?_eq_none h'] at h
    simp [nibU] at h
/-- What the digit looked up is. -/
theorem nibU_none {c : UInt8} (h : nibU c = none) : ¬ (65 ≤ c.toNat ∧ c.toNat ≤ 70) ∧ hexIdx (c.toNat : Int) = -1 := by
  have hc := hexIdx_all c.toNat c.toNat_lt
  unfold nibU at h
  split at h
  · simp at h
  · split at h
    · simp at h
    · split at h
      · simp at h
      · rename_i h1 h2 h3
        rw [if_neg h1, if_neg h2] at hc
        exact ⟨h3, hc⟩
theorem nibU_some {c : UInt8} {d : Nat} (h : nibU c = some d) :
    (65 ≤ c.toNat ∧ c.toNat ≤ 70 ∧ hexIdx ((c.toNat : Int) + 32) = (d : Int)) ∨ (¬ (65 ≤ c.toNat ∧ c.toNat ≤ 70) ∧ hexIdx (c.toNat : Int) = (d : Int)) := by
  have hc := hexIdx_all c.toNat c.toNat_lt
  unfold nibU at h
  split at h
  · rename_i h1
    rw [if_pos h1] at hc
    simp at h
    exact .inr ⟨by omega, by rw [hc]; omega⟩
  · split at h
    · rename_i h1 h2
      rw [if_neg h1, if_pos h2] at hc
      simp at h
      exact .inr ⟨by omega, by rw [hc]; omega⟩
    · split at h
      · rename_i h1 h2 h3
        have hc2 := hexIdx_all (c.toNat + 32) (by omega)
        rw [if_neg (by omega), if_pos (by omega)] at hc2
        simp at h
        refine .inl ⟨h3.1, h3.2, ?_⟩
        rw [show ((c.toNat : Int) + 32) = ((c.toNat + 32 : Nat) : Int) from by omega, hc2]
        omega
      · simp at h
theorem i32_or_nat (a b : Nat) (ha : a < 2147483648) (hb : b < 2147483648) : bits .or .i32 (a : Int) (b : Int) = ((a ||| b : Nat) : Int) := by
  have hx : a ||| b < 2 ^ 31 := Nat.or_lt_two_pow (by omega) (by omega)
  have h1 : (BitVec.ofInt 32 (a : Int)).toNat = a := by
    rw [BitVec.ofInt_natCast, BitVec.toNat_ofNat]; exact Nat.mod_eq_of_lt (by omega)
  have h2 : (BitVec.ofInt 32 (b : Int)).toNat = b := by
    rw [BitVec.ofInt_natCast, BitVec.toNat_ofNat]; exact Nat.mod_eq_of_lt (by omega)
  show IntKind.i32.wrap ((BitVec.ofInt 32 (a : Int) ||| BitVec.ofInt 32 (b : Int)).toNat : Int) = _
  rw [BitVec.toNat_or, h1, h2, IntKind.wrap_i32]
  omega
theorem or16 (n d : Nat) (hn : n < 4096) (hd : d < 16) : bits .or .i32 ((n : Int) * 16) (d : Int) = ((n * 16 + d : Nat) : Int) := by
  have h := i32_or_nat (n * 16) d (by omega) (by omega)
  have := Nat.shiftLeft_add_eq_or_of_lt (i := 4) (b := d) hd n
  rw [Nat.shiftLeft_eq] at this
  simp at this
  rw [← this] at h
  rw [← h]
  congr 1

/-- The value that hexes answers. -/
def hexR (o : Option Nat) : Int := match o with | some n => (n : Int) | none => -1

variable {w : World} {X B : Nat} {a : Option Addr} {b off c : Nat} {l : List UInt8} {p : Nat} {e : Int} {tv : Value} {T : List UInt8}
set_option maxRecDepth 100000 in
set_option maxHeartbeats 1000000 in
theorem hexes_any (h : Lex w X B a b off c l p e tv T) :
    Calls Tryz.prog 95 #[.pointer (some ⟨X, 0, none⟩)] w fun r w' => r = .returned (.int .i32 (hexR (hxs l p 4))) ∧ Near X B w w' ∧ ∃ p', Lex w' X B a b off c l p' e tv T ∧ (hxs l p 4 ≠ none → p' = p + 4) := by
  go_enter Tryz.func95, Tryz.ntmps95
  go_wp2
  go_loopw [3, 6] (fun v i wr => ∃ k n : Nat, k ≤ 4 ∧ hxs l p k = some n ∧ i = .int .i64 k ∧ v = .int .i32 n ∧ Lex wr X B a b off c l (p + k) e tv T ∧ Near X B w wr) (fun _ i _ => 4 - (intOf i).toNat)
  case atStart => exact ⟨0, 0, by omega, rfl, rfl, rfl, h, Near.refl _ _ _⟩
  case round =>
    obtain ⟨k, n, hk, hx, rfl, rfl, hL, hbel⟩ := hrel
    clear h
    have hnk := hxs_lt hx
    by_cases hlt : k < 4
    · have hn : n < 4096 := by
        have := Nat.pow_le_pow_right (n := 16) (by omega) (show k ≤ 3 from by omega)
        omega
      cases hd : nibU (byteAt l (p + k)) with
      | none =>
        obtain ⟨hu, hi⟩ := nibU_none hd
        have hstop := Lib.hid (hxs_stop hlt hx hd)
        clear hd hx
        have hpk := fun W (hW : W = wr) => peek_any (w := wr) hL
        obtain ⟨x, hxx⟩ : ∃ x, x = (byteAt l (p + k)).toNat := ⟨_, rfl⟩
        have hpeek := peek_any hL
        rw [← hxx] at hu hi hpeek
        have hxl : x < 256 := by rw [hxx]; exact UInt8.toNat_lt _
        clear hxx hpk
        replace hpeek := Lib.hid hpeek
        replace hi := Lib.hid hi
        have hbel' := Lib.hid hbel
        have hL' := Lib.hid hL
        clear hL hbel
        by_cases h65 : 65 ≤ x
        · have h70 : ¬ x ≤ 70 := by omega
          clear hu
          go_wp2_with (first | (go_at_call 67; refine hpeek.out.mono ?_; rintro r w' ⟨rfl, nq, rfl⟩) | (go_at_call 41; refine (hexIdx_any _ _).mono ?_; rintro r w' ⟨rfl, rfl⟩; rw [hi.out]))
          go_quiet (fail)
          go_wp2
          go_ret
          exact ⟨by rw [hstop.out]; rfl, near_drewN (near_drewN hbel'.out _) _, _, (hL'.out.drewN _).drewN _, fun h => absurd hstop.out h⟩
        · clear hu
          go_wp2_with (first | (go_at_call 67; refine hpeek.out.mono ?_; rintro r w' ⟨rfl, nq, rfl⟩) | (go_at_call 41; refine (hexIdx_any _ _).mono ?_; rintro r w' ⟨rfl, rfl⟩; rw [hi.out]))
          go_quiet (fail)
          go_wp2
          go_ret
          exact ⟨by rw [hstop.out]; rfl, near_drewN (near_drewN hbel'.out _) _, _, (hL'.out.drewN _).drewN _, fun h => absurd hstop.out h⟩
      | some d =>
        have hdl := nibU_lt hd
        have hpos := nibU_pos hd
        have hnext := Lib.hid (hxs_next hx hd)
        have hcase := nibU_some hd
        have hor := or16 n d hn hdl
        have hpeek := peek_any hL
        obtain ⟨x, hxx⟩ : ∃ x, x = (byteAt l (p + k)).toNat := ⟨_, rfl⟩
        rw [← hxx] at hcase hpeek
        have hxl : x < 256 := by rw [hxx]; exact UInt8.toNat_lt _
        clear hxx hd hx
        have d1 : decide ((l.length : Int) ≤ (p : Int) + (k : Int)) = false := by simp; omega
        have d2 : ((d : Int) < 0) = False := by simp
        have c0 := hL.c0
        have c1 := hL.c1
        have f1 := hL.f 1
        have hset := fun n => (hL.drewN n).setAt (p + k + 1) (by omega)
        have hbel' := fun n => (near_drewN hbel n).setX 1 (.int .i64 ((p + k + 1 : Nat) : Int))
        rw [show ((p + k + 1 : Nat) : Int) = (p : Int) + (k : Int) + 1 from by omega] at hset hbel'
        replace hset := Lib.hid hset
        replace hbel' := Lib.hid hbel'
        have hbig := hL.big
        replace hpeek := Lib.hid hpeek
        have e1 : ((p + k : Nat) : Int) = (p : Int) + (k : Int) := by omega
        rw [e1] at c1
        clear hL hbel
        rcases hcase with ⟨h65, h70, hi⟩ | ⟨h67, hi⟩
        · replace hi := Lib.hid hi
          go_wp2_with (first | (go_at_call 67; refine hpeek.out.mono ?_; rintro r w' ⟨rfl, nq, rfl⟩) | (go_at_call 41; refine (hexIdx_any _ _).mono ?_; rintro r w' ⟨rfl, rfl⟩; rw [hi.out]))
          go_quiet (fail)
          go_wp2
          go_roundw
          case rel => exact ⟨k + 1, n * 16 + d, by omega, hnext.out, by go_num, by go_num, hset.out _, hbel'.out _⟩
          case measure => simp [intOf]; omega
        · replace hi := Lib.hid hi
          by_cases h65 : 65 ≤ x
          · have h70 : ¬ x ≤ 70 := by omega
            clear h67
            go_wp2_with (first | (go_at_call 67; refine hpeek.out.mono ?_; rintro r w' ⟨rfl, nq, rfl⟩) | (go_at_call 41; refine (hexIdx_any _ _).mono ?_; rintro r w' ⟨rfl, rfl⟩; rw [hi.out]))
            go_quiet (fail)
            go_wp2
            go_roundw
            case rel => exact ⟨k + 1, n * 16 + d, by omega, hnext.out, by go_num, by go_num, hset.out _, hbel'.out _⟩
            case measure => simp [intOf]; omega
          · clear h67
            go_wp2_with (first | (go_at_call 67; refine hpeek.out.mono ?_; rintro r w' ⟨rfl, nq, rfl⟩) | (go_at_call 41; refine (hexIdx_any _ _).mono ?_; rintro r w' ⟨rfl, rfl⟩; rw [hi.out]))
            go_quiet (fail)
            go_wp2
            go_roundw
            case rel => exact ⟨k + 1, n * 16 + d, by omega, hnext.out, by go_num, by go_num, hset.out _, hbel'.out _⟩
            case measure => simp [intOf]; omega
    · obtain rfl : k = 4 := by omega
      have hx := Lib.hid hx
      clear hlt
      go_wp2
      go_ret
      exact ⟨by rw [hx.out]; rfl, hbel, _, hL, fun _ => rfl⟩

end Go.Proofs.YticfioblapjkmaaGreat

namespace Go.Proofs.YticfioblapjkmaaGreat
open Go.RowKit
set_option linter.unusedVariables false
set_option linter.unusedSimpArgs false

theorem u8_low (x : Nat) (m k : Nat) (hx : x < 256) (hm : m = 2 ^ k - 1) (hk : k ≤ 8) : bits BinOp.and IntKind.u8 (x : Int) (m : Int) = ((x % 2 ^ k : Nat) : Int) := by
  have hm2 : m < 256 := by
    have := Nat.pow_le_pow_right (n := 2) (by omega) hk
    omega
  rw [u8_and_nat x m hx hm2, hm, Nat.and_two_pow_sub_one_eq_mod]

set_option maxRecDepth 100000 in
set_option maxHeartbeats 800000 in
theorem first_any (c : UInt8) (w : World) :
    Calls Tryz.prog 80 #[.int .u8 (c.toNat : Int)] w fun r w' => r = .returned (.tuple #[.int .i64 (ufirst c : Int), .int .i32 (ufv c : Int)]) ∧ w = w' := by
  have hc : c.toNat < 256 := c.toNat_lt
  have hu : ufirst c = if c.toNat < 128 then 1 else if c.toNat < 194 then 0 else if c.toNat < 224 then 2 else if c.toNat < 240 then 3 else if c.toNat < 245 then 4 else 0 := rfl
  have hv : ufv c = if c.toNat < 128 then c.toNat else if c.toNat < 194 then 0 else if c.toNat < 224 then c.toNat % 32 else if c.toNat < 240 then c.toNat % 16 else if c.toNat < 245 then c.toNat % 8 else 0 := rfl
  obtain ⟨x, hx⟩ : ∃ x, x = c.toNat := ⟨_, rfl⟩
  rw [← hx] at hc hu hv ⊢
  clear hx
  have b1 := u8_low x 31 5 hc rfl (by omega)
  have b2 := u8_low x 15 4 hc rfl (by omega)
  have b3 := u8_low x 7 3 hc rfl (by omega)
  rw [show (2 : Nat) ^ 5 = 32 from rfl] at b1
  rw [show (2 : Nat) ^ 4 = 16 from rfl] at b2
  rw [show (2 : Nat) ^ 3 = 8 from rfl] at b3
  rw [show ((31 : Nat) : Int) = 31 from rfl, show ((x % 32 : Nat) : Int) = (x : Int) % 32 from by omega] at b1
  rw [show ((15 : Nat) : Int) = 15 from rfl, show ((x % 16 : Nat) : Int) = (x : Int) % 16 from by omega] at b2
  rw [show ((7 : Nat) : Int) = 7 from rfl, show ((x % 8 : Nat) : Int) = (x : Int) % 8 from by omega] at b3
  by_cases h1 : x < 128
  · rw [if_pos h1] at hu hv
    rw [hu, hv]
    clear hu hv
    go_enter Tryz.func80, Tryz.ntmps80
    go_wp2
    go_ret2
    exact ⟨rfl, rfl⟩
  rw [if_neg h1] at hu hv
  by_cases h2 : x < 194
  · rw [if_pos h2] at hu hv
    rw [hu, hv]
    clear hu hv
    go_enter Tryz.func80, Tryz.ntmps80
    go_wp2
    go_ret2
    exact ⟨rfl, rfl⟩
  rw [if_neg h2] at hu hv
  by_cases h3 : x < 224
  · rw [if_pos h3] at hu hv
    rw [hu, hv]
    clear hu hv
    go_enter Tryz.func80, Tryz.ntmps80
    go_wp2
    go_ret2
    exact ⟨rfl, rfl⟩
  rw [if_neg h3] at hu hv
  by_cases h4 : x < 240
  · rw [if_pos h4] at hu hv
    rw [hu, hv]
    clear hu hv
    go_enter Tryz.func80, Tryz.ntmps80
    go_wp2
    go_ret2
    exact ⟨rfl, rfl⟩
  rw [if_neg h4] at hu hv
  by_cases h5 : x < 245
  · rw [if_pos h5] at hu hv
    rw [hu, hv]
    clear hu hv
    go_enter Tryz.func80, Tryz.ntmps80
    go_wp2
    go_ret2
    exact ⟨rfl, rfl⟩
  rw [if_neg h5] at hu hv
  rw [hu, hv]
  clear hu hv
  go_enter Tryz.func80, Tryz.ntmps80
  go_wp2
  go_ret2
  exact ⟨rfl, rfl⟩

set_option maxRecDepth 100000 in
set_option maxHeartbeats 800000 in
theorem second_any (a b : UInt8) (w : World) :
    Calls Tryz.prog 81 #[.int .u8 (a.toNat : Int), .int .u8 (b.toNat : Int)] w fun r w' => r = .returned (.bool (usec a b)) ∧ w = w' := by
  have ha : a.toNat < 256 := a.toNat_lt
  have hb : b.toNat < 256 := b.toNat_lt
  have hu : usec a b = decide ((if a.toNat = 224 then 160 else if a.toNat = 240 then 144 else 128) ≤ b.toNat ∧ b.toNat ≤ (if a.toNat = 237 then 159 else if a.toNat = 244 then 143 else 191)) := rfl
  obtain ⟨x, hx⟩ : ∃ x, x = a.toNat := ⟨_, rfl⟩
  obtain ⟨y, hy⟩ : ∃ y, y = b.toNat := ⟨_, rfl⟩
  rw [← hx, ← hy] at hu ⊢
  rw [← hx] at ha
  rw [← hy] at hb
  clear hx hy
  have fin : ∀ (lo hi : Nat), decide ((if x = 224 then 160 else if x = 240 then 144 else 128) ≤ y ∧ y ≤ (if x = 237 then 159 else if x = 244 then 143 else 191)) = decide (lo ≤ y ∧ y ≤ hi) → lo ≤ hi →
      ((lo ≤ y ∧ y ≤ hi ∧ usec a b = true) ∨ (lo ≤ y ∧ hi < y ∧ decide ((y : Int) ≤ (hi : Int)) = false ∧ usec a b = false) ∨ (y < lo ∧ decide ((lo : Int) ≤ (y : Int)) = false ∧ usec a b = false)) := by
    intro lo hi h hle
    rw [hu, h]
    by_cases h1 : lo ≤ y
    · by_cases h2 : y ≤ hi
      · exact .inl ⟨h1, h2, by simp; omega⟩
      · exact .inr (.inl ⟨h1, by omega, by simp; omega, by simp; omega⟩)
    · exact .inr (.inr ⟨by omega, by simp; omega, by simp; omega⟩)
  have t1 : ((x : Int) == 224) = decide (x = 224) := by rw [Bool.eq_iff_iff]; simp; omega
  have t2 : ((x : Int) == 237) = decide (x = 237) := by rw [Bool.eq_iff_iff]; simp; omega
  have t3 : ((x : Int) == 240) = decide (x = 240) := by rw [Bool.eq_iff_iff]; simp; omega
  have t4 : ((x : Int) == 244) = decide (x = 244) := by rw [Bool.eq_iff_iff]; simp; omega
  by_cases c1 : x = 224
  · have := fin 160 191 (by subst c1; rfl) (by omega)
    subst c1
    clear fin hu t1 t2 t3 t4
    rcases this with ⟨q1, q2, hv⟩ | ⟨q1, q2, q3, hv⟩ | ⟨q1, q2, hv⟩
    all_goals
      replace hv := Lib.hid hv
      go_enter Tryz.func81, Tryz.ntmps81
      go_wp2
      all_goals (go_ret; rw [hv.out]; exact ⟨by first | rfl | (congr 2; simp; omega), rfl⟩)
  by_cases c2 : x = 237
  · have := fin 128 159 (by subst c2; rfl) (by omega)
    subst c2
    clear fin hu t1 t2 t3 t4 c1
    rcases this with ⟨q1, q2, hv⟩ | ⟨q1, q2, q3, hv⟩ | ⟨q1, q2, hv⟩
    all_goals
      replace hv := Lib.hid hv
      go_enter Tryz.func81, Tryz.ntmps81
      go_wp2
      all_goals (go_ret; rw [hv.out]; exact ⟨by first | rfl | (congr 2; simp; omega), rfl⟩)
  by_cases c3 : x = 240
  · have := fin 144 191 (by subst c3; rfl) (by omega)
    subst c3
    clear fin hu t1 t2 t3 t4 c1 c2
    rcases this with ⟨q1, q2, hv⟩ | ⟨q1, q2, q3, hv⟩ | ⟨q1, q2, hv⟩
    all_goals
      replace hv := Lib.hid hv
      go_enter Tryz.func81, Tryz.ntmps81
      go_wp2
      all_goals (go_ret; rw [hv.out]; exact ⟨by first | rfl | (congr 2; simp; omega), rfl⟩)
  by_cases c4 : x = 244
  · have := fin 128 143 (by subst c4; rfl) (by omega)
    subst c4
    clear fin hu t1 t2 t3 t4 c1 c2 c3
    rcases this with ⟨q1, q2, hv⟩ | ⟨q1, q2, q3, hv⟩ | ⟨q1, q2, hv⟩
    all_goals
      replace hv := Lib.hid hv
      go_enter Tryz.func81, Tryz.ntmps81
      go_wp2
      all_goals (go_ret; rw [hv.out]; exact ⟨by first | rfl | (congr 2; simp; omega), rfl⟩)
  have := fin 128 191 (by rw [if_neg c1, if_neg c3, if_neg c2, if_neg c4]) (by omega)
  rw [decide_eq_false c1] at t1
  rw [decide_eq_false c2] at t2
  rw [decide_eq_false c3] at t3
  rw [decide_eq_false c4] at t4
  clear fin hu c1 c2 c3 c4
  rcases this with ⟨q1, q2, hv⟩ | ⟨q1, q2, q3, hv⟩ | ⟨q1, q2, hv⟩
  all_goals
    replace hv := Lib.hid hv
    go_enter Tryz.func81, Tryz.ntmps81
    go_wp2
    all_goals (go_ret; rw [hv.out]; exact ⟨by first | rfl | (congr 2; simp; omega), rfl⟩)

end Go.Proofs.YticfioblapjkmaaGreat

namespace Go.Proofs.YticfioblapjkmaaGreat
open Go.RowKit
set_option linter.unusedVariables false
set_option linter.unusedSimpArgs false

/-- What Take answers. -/
def utv (l : List UInt8) (p : Nat) : Value :=
  if uerr l p = 0 then .tuple #[.int .i32 (uval l p (ulen l p - 1) : Int), .int .i64 ((p : Int) + (ulen l p : Int)), .int .i64 0] else .tuple #[.int .i32 0, .int .i64 (p : Int), .int .i64 (uerr l p : Int)]
theorem utv_bad {l : List UInt8} {p e : Nat} (h : uerr l p = e) (he : e ≠ 0) : utv l p = .tuple #[.int .i32 0, .int .i64 (p : Int), .int .i64 (e : Int)] := by
  unfold utv
  rw [if_neg (by omega), h]
theorem utv_good {l : List UInt8} {p : Nat} (h : uerr l p = 0) : utv l p = .tuple #[.int .i32 (uval l p (ulen l p - 1) : Int), .int .i64 ((p : Int) + (ulen l p : Int)), .int .i64 0] := by
  unfold utv
  rw [if_pos h]
theorem ufv_lt (c : UInt8) : ufv c < 128 := by
  unfold ufv
  split
  · assumption
  · split
    · omega
    · split
      · omega
      · split
        · omega
        · split <;> omega
theorem uval_lt (l : List UInt8) (p : Nat) : ∀ k, uval l p k < 128 * 64 ^ k := by
  intro k
  induction k with
  | zero => simpa [uval] using ufv_lt _
  | succ k ih => simp only [uval]; rw [Nat.pow_succ]; omega
theorem ufirst_le (c : UInt8) : ufirst c ≤ 4 := by
  unfold ufirst
  split
  · omega
  · split
    · omega
    · split
      · omega
      · split
        · omega
        · split <;> omega
theorem cont_all : ∀ x : Nat, x < 256 → (bits BinOp.and IntKind.u8 (x : Int) 192 != 128) = !decide (128 ≤ x ∧ x < 192) := by decide +kernel
theorem cont_test (x : UInt8) : (bits BinOp.and IntKind.u8 (x.toNat : Int) 192 != 128) = !ucont x := cont_all x.toNat x.toNat_lt
theorem or64 (n d : Nat) (hn : n < 524288) (hd : d < 64) : bits .or .i32 ((n : Int) * 64) (d : Int) = ((n * 64 + d : Nat) : Int) := by
  have h := i32_or_nat (n * 64) d (by omega) (by omega)
  have := Nat.shiftLeft_add_eq_or_of_lt (i := 6) (b := d) hd n
  rw [Nat.shiftLeft_eq] at this
  simp at this
  rw [← this] at h
  rw [← h]
  congr 1

set_option maxRecDepth 100000 in
set_option maxHeartbeats 2000000 in
theorem utake_any (a : Option Addr) (b off c : Nat) (l : List UInt8) (p : Nat) (w : World) (hb : BytesAt w a b off l) (hl : l.length ≤ 140737488351232) (hp : p ≤ l.length) :
    Calls Tryz.prog 71 #[.slice a l.length c, .int .i64 (p : Int)] w fun r w' => r = .returned (utv l p) ∧ w = w' := by
  by_cases hlt : p < l.length
  · have hidx := fun (i : Nat) (W : World) (hi : i < l.length) => hb.idx l.length c rfl (i : Int) W (by omega) (by omega)
    have hcl := fun (i : Nat) (hi : i < l.length) => hb.2 i hi
    have i0 := fun W => hidx p W hlt
    have c0 := hcl p hlt
    rw [Int.toNat_natCast] at i0
    have e0 : l[p]?.getD 0 = byteAt l p := rfl
    rw [e0] at c0
    have hfirst := Lib.hid (first_any (byteAt l p) w)
    have hsec := Lib.hid (second_any (byteAt l p))
    have hlt' : (p : Int) < (l.length : Int) := by omega
    have hne : ((p : Int) == (l.length : Int)) = false := by simp; omega
    by_cases hn : ufirst (byteAt l p) = 0
    · have hu := utv_bad (l := l) (p := p) (e := 11) (by unfold uerr; rw [if_pos hlt, if_pos hn]) (by omega)
      rw [hu]
      rw [hn] at hfirst
      clear hu hn hidx hcl hsec hb e0 hlt
      go_enter Tryz.func71, Tryz.ntmps71
      go_wp2_with (go_at_call 80; refine hfirst.out.mono ?_; rintro r w' ⟨rfl, rfl⟩)
      go_ret3
      exact ⟨rfl, rfl⟩
    · have hu : uerr l p = ustat l p (ufirst (byteAt l p) - 1) := by unfold uerr; rw [if_pos hlt, if_neg hn]
      have hlen : ulen l p = ufirst (byteAt l p) := rfl
      have hle := ufirst_le (byteAt l p)
      obtain ⟨n, hnn⟩ : ∃ n, n = ufirst (byteAt l p) := ⟨_, rfl⟩
      rw [← hnn] at hn hu hlen hle hfirst
      have hn0 : ((n : Int) == 0) = false := by simp; omega
      have hv0 : (ufv (byteAt l p) : Int) = (uval l p 0 : Int) := rfl
      rw [hv0] at hfirst
      replace hu := Lib.hid hu
      replace hlen := Lib.hid hlen
      have hbh := Lib.hid hb
      have hidx' := Lib.hid hidx
      have hcl' := Lib.hid hcl
      clear hnn hv0 hidx hcl hb e0
      go_enter Tryz.func71, Tryz.ntmps71
      go_wp2_with (go_at_call 80; refine hfirst.out.mono ?_; rintro r w' ⟨rfl, rfl⟩)
      go_loop [4, 8, 9] (fun v i x => ∃ k : Nat, k ≤ n - 1 ∧ p + k < l.length ∧ i = .int .i64 ((k : Int) + 1) ∧ v = .int .i32 (uval l p k : Int) ∧ Hid (ustat l p k = 0)) (fun _ i _ => 4 - (intOf i).toNat)
      case atStart => exact ⟨0, by omega, by omega, rfl, rfl, rfl⟩
      case round =>
        obtain ⟨k, hk, hpk, rfl, rfl, hst⟩ := hrel
        clear hfirst
        by_cases hkn : k < n - 1
        · have hk2 : (k : Int) + 1 < (n : Int) := by omega
          by_cases hend : p + (k + 1) = l.length
          · have hs : ustep l p (k + 1) = 10 := by unfold ustep; rw [if_neg (by omega)]
            have hbad := ustat_bad (l := l) (p := p) (i := k + 1) (n := n) (by omega) (by omega) hst.out (by omega)
            have huv := Lib.hid (utv_bad (hu.out.trans (hbad.trans hs)) (by omega))
            have ht : ((p : Int) + ((k : Int) + 1) == (l.length : Int)) = true := by simp; omega
            clear hbad hs hst hend hn
            go_wp2
            go_ret3
            rw [huv.out]
            exact ⟨rfl, rfl⟩
          · have hin : p + (k + 1) < l.length := by omega
            have hin' : (p : Int) + ((k : Int) + 1) < (l.length : Int) := by omega
            have ht : ((p : Int) + ((k : Int) + 1) == (l.length : Int)) = false := by simp; omega
            have i1 := fun W => hidx'.out (p + (k + 1)) W hin
            have c1 := hcl'.out (p + (k + 1)) hin
            rw [show ((p + (k + 1) : Nat) : Int) = (p : Int) + ((k : Int) + 1) from by omega, show ((p : Int) + ((k : Int) + 1)).toNat = p + (k + 1) from by omega] at i1
            have e1 : l[p + (k + 1)]?.getD 0 = byteAt l (p + (k + 1)) := rfl
            rw [e1] at c1
            have hct := cont_test (byteAt l (p + (k + 1)))
            have hsec' := Lib.hid (hsec.out (byteAt l (p + (k + 1))))
            have hss : ustep l p (k + 1) = if ucont (byteAt l (p + (k + 1))) = true ∧ (k + 1 = 1 → usec (byteAt l p) (byteAt l (p + (k + 1))) = true) then 0 else 11 := by unfold ustep; rw [if_pos hin]
            have huv1 : uval l p (k + 1) = uval l p k * 64 + (byteAt l (p + (k + 1))).toNat % 64 := rfl
            have hlow := u8_low (byteAt l (p + (k + 1))).toNat 63 6 (UInt8.toNat_lt _) rfl (by omega)
            rw [show (2 : Nat) ^ 6 = 64 from rfl, show ((63 : Nat) : Int) = 63 from rfl] at hlow
            obtain ⟨y, hy⟩ : ∃ y, y = byteAt l (p + (k + 1)) := ⟨_, rfl⟩
            rw [← hy] at c1 hct hsec' hss huv1 hlow
            clear e1 hy
            by_cases hcy : ucont y = true
            · rw [hcy] at hct
              have hct' : (bits BinOp.and IntKind.u8 (y.toNat : Int) 192 != 128) = false := hct
              clear hct
              have good : ustep l p (k + 1) = 0 → uval l p k < 524288 → True := fun _ _ => trivial
              have hvlt : uval l p k < 524288 := by
                have h1 := uval_lt l p k
                have h2 : (64 : Nat) ^ k ≤ 64 ^ 2 := Nat.pow_le_pow_right (by omega) (by omega)
                omega
              have hor := or64 (uval l p k) (y.toNat % 64) hvlt (Nat.mod_lt _ (by omega))
              rw [← huv1] at hor
              obtain ⟨v0, hv0⟩ : ∃ v, v = uval l p k := ⟨_, rfl⟩
              obtain ⟨v1, hv1⟩ : ∃ v, v = uval l p (k + 1) := ⟨_, rfl⟩
              obtain ⟨yl, hyl⟩ : ∃ v, v = y.toNat % 64 := ⟨_, rfl⟩
              have hyb : yl < 64 := by omega
              rw [← hyl] at hlow hor
              rw [← hv0, ← hv1] at hor
              rw [← hv0] at hvlt
              rw [← hv0]
              replace hv1 := Lib.hid hv1
              clear good huv1 hv0 hyl
              have fin : ustep l p (k + 1) = 0 → Hid (ustat l p (k + 1) = 0) := fun h => ustat_next hst.out h
              by_cases hk0 : k = 0
              · subst hk0
                rw [show (((0 : Nat) : Int) + 1) = 1 from rfl] at i1 ht hin' hk2
                rw [show (0 : Nat) + 1 = 1 from rfl] at i1 c1
                by_cases hus : usec (byteAt l p) y = true
                · have hfin := fin (by rw [hss, if_pos ⟨hcy, fun _ => hus⟩])
                  rw [hus] at hsec'
                  clear fin hss hcy hus
                  go_wp2_with (go_at_call 81; refine (hsec'.out _).mono ?_; rintro r w' ⟨rfl, rfl⟩)
                  go_round
                  case rel => exact ⟨0 + 1, by omega, by omega, by go_num, by rw [← hv1.out], hfin⟩
                  case measure => simp [intOf]
                · have hs : ustep l p (0 + 1) = 11 := by rw [hss, if_neg (fun h => hus (h.2 rfl))]
                  have hbad := ustat_bad (l := l) (p := p) (i := 0 + 1) (n := n) (by omega) (by omega) hst.out (by omega)
                  have huv := Lib.hid (utv_bad (hu.out.trans (hbad.trans hs)) (by omega))
                  have hus' : usec (byteAt l p) y = false := by simpa using hus
                  rw [hus'] at hsec'
                  clear fin hss hcy hus hbad hs hus' hst
                  go_wp2_with (go_at_call 81; refine (hsec'.out _).mono ?_; rintro r w' ⟨rfl, rfl⟩)
                  go_ret3
                  rw [huv.out]
                  exact ⟨rfl, rfl⟩
              · have hk1 : ((k : Int) + 1 == 1) = false := by simp; omega
                have hfin := fin (by rw [hss, if_pos ⟨hcy, fun h => by omega⟩])
                clear fin hss hcy
                go_wp2_with (go_at_call 81; refine (hsec'.out _).mono ?_; rintro r w' ⟨rfl, rfl⟩)
                go_round
                case rel => exact ⟨k + 1, by omega, by omega, by go_num, by rw [← hv1.out], hfin⟩
                case measure => simp [intOf]; omega
            · have hs : ustep l p (k + 1) = 11 := by rw [hss, if_neg (fun h => hcy h.1)]
              have hbad := ustat_bad (l := l) (p := p) (i := k + 1) (n := n) (by omega) (by omega) hst.out (by omega)
              have huv := Lib.hid (utv_bad (hu.out.trans (hbad.trans hs)) (by omega))
              have hcy' : ucont y = false := by simpa using hcy
              rw [hcy'] at hct
              have hct' : (bits BinOp.and IntKind.u8 (y.toNat : Int) 192 != 128) = true := hct
              clear hss hcy hbad hs hcy' hst hct huv1 hlow hsec'
              go_wp2
              go_ret3
              rw [huv.out]
              exact ⟨rfl, rfl⟩
        · obtain rfl : k = n - 1 := by omega
          have hge : ¬ ((n - 1 : Nat) : Int) + 1 < (n : Int) := by omega
          have huv := Lib.hid (utv_good (hu.out.trans hst.out))
          go_wp2
          go_ret3
          rw [huv.out, hlen.out]
          exact ⟨rfl, rfl⟩
  · obtain rfl : p = l.length := by omega
    have hu := utv_bad (l := l) (p := l.length) (e := 10) (by unfold uerr; rw [if_neg hlt]) (by omega)
    rw [hu]
    clear hu hb
    go_enter Tryz.func71, Tryz.ntmps71
    go_wp2
    go_ret3
    exact ⟨rfl, rfl⟩

end Go.Proofs.YticfioblapjkmaaGreat

namespace Go.Proofs.YticfioblapjkmaaGreat
open Go.RowKit
set_option linter.unusedVariables false
set_option linter.unusedSimpArgs false

theorem ret_int {k : IntKind} {a b : Int} (h : a = b) : Ending.returned (.int k a) = .returned (.int k b) := by rw [h]
theorem quiet_add_same {P : Program} {f : FuncId} {args : Array Value} {w : World} {a n : Nat} {v : Value}
    (h : Calls P f args (w.drewN (a + n)) fun e w' => e = .returned v ∧ w' = w.drewN (a + n)) :
    Calls P f args (w.drewN (a + n)) fun e w'' => e = .returned v ∧ ∃ m, w'' = w.drewN (a + m) :=
  h.mono fun _ _ ⟨he, hm⟩ => ⟨he, n, hm⟩
/-- Is a number a character? -/
def isChr (c : Int) : Bool := decide (0 ≤ c ∧ c ≤ 1114111 ∧ (c < 55296 ∨ 57344 ≤ c))
set_option maxRecDepth 100000 in
set_option maxHeartbeats 800000 in
theorem character_any (c : Int) (w : World) :
    Calls Tryz.prog 104 #[.int .i32 c] w fun r w' => r = .returned (.bool (isChr c)) ∧ w = w' := by
  by_cases h0 : 0 ≤ c
  · by_cases h1 : c ≤ 1114111
    · by_cases h2 : c < 55296
      · have hv : isChr c = true := by unfold isChr; simp; omega
        rw [hv]
        clear hv
        go_enter Tryz.func104, Tryz.ntmps104
        go_wp2
        go_ret
        exact ⟨rfl, rfl⟩
      · by_cases h3 : 57344 ≤ c
        · have hv : isChr c = true := by unfold isChr; simp; omega
          have d1 : decide (c < 55296) = false := by simpa using h2
          have d2 : decide (57344 ≤ c) = true := by simpa using h3
          rw [hv]
          clear hv
          go_enter Tryz.func104, Tryz.ntmps104
          go_wp2
          go_ret
          exact ⟨rfl, rfl⟩
        · have hv : isChr c = false := by unfold isChr; simp; omega
          have d1 : decide (c < 55296) = false := by simpa using h2
          have d2 : decide (57344 ≤ c) = false := by simpa using h3
          rw [hv]
          clear hv
          go_enter Tryz.func104, Tryz.ntmps104
          go_wp2
          go_ret
          exact ⟨rfl, rfl⟩
    · have hv : isChr c = false := by unfold isChr; simp; omega
      have d1 : decide (c ≤ 1114111) = false := by simpa using h1
      rw [hv]
      clear hv
      go_enter Tryz.func104, Tryz.ntmps104
      go_wp2
      go_ret
      exact ⟨rfl, rfl⟩
  · have hv : isChr c = false := by unfold isChr; simp; omega
    have d1 : decide (0 ≤ c) = false := by simpa using h0
    rw [hv]
    clear hv
    go_enter Tryz.func104, Tryz.ntmps104
    go_wp2
    go_ret
    exact ⟨rfl, rfl⟩

def uleast (n : Int) : Int := if n = 2 then 128 else if n = 3 then 2048 else if n = 4 then 65536 else 0
set_option maxRecDepth 100000 in
set_option maxHeartbeats 800000 in
theorem least_any (n : Int) (w : World) (hn : n = 2 ∨ n = 3 ∨ n = 4) :
    Calls Tryz.prog 105 #[.int .i64 n] w fun r w' => r = .returned (.int .i32 (uleast n)) ∧ w' = w := by
  rcases hn with rfl | rfl | rfl
  all_goals
    go_enter Tryz.func105, Tryz.ntmps105
    go_wp2
    go_ret
    exact ⟨rfl, rfl⟩

/-- The character of two surrogates; 0: they are none. -/
def pairv (h l : Int) : Int := if 55296 ≤ h ∧ h < 56320 ∧ 56320 ≤ l ∧ l < 57344 then 65536 + (h - 55296) * 1024 + l - 56320 else 0
def pairok (h l : Int) : Bool := decide (55296 ≤ h ∧ h < 56320 ∧ 56320 ≤ l ∧ l < 57344)
set_option maxRecDepth 100000 in
set_option maxHeartbeats 800000 in
theorem pair_any (h l : Int) (w : World) (h0 : 55296 ≤ h) (h1 : h < 56320) :
    Calls Tryz.prog 96 #[.int .i32 h, .int .i32 l] w fun r w' => r = .returned (.tuple #[.int .i32 (pairv h l), .bool (pairok h l)]) ∧ w = w' := by
  by_cases h2 : 56320 ≤ l
  · by_cases h3 : l < 57344
    · have hv : pairv h l = 65536 + (h - 55296) * 1024 + l - 56320 := by unfold pairv; exact if_pos ⟨h0, h1, h2, h3⟩
      have ho : pairok h l = true := by unfold pairok; simp; omega
      rw [hv, ho]
      clear hv ho
      have d1 : decide (57344 ≤ l) = false := by simp; omega
      have d2 : decide (l < 56320) = false := by simp; omega
      have d3 : decide (56320 ≤ h) = false := by simp; omega
      have d4 : decide (h < 55296) = false := by simp; omega
      go_enter Tryz.func96, Tryz.ntmps96
      go_wp2
      go_ret2
      exact ⟨rfl, rfl⟩
    · have hv : pairv h l = 0 := by unfold pairv; rw [if_neg (by omega)]
      have ho : pairok h l = false := by unfold pairok; simp; omega
      rw [hv, ho]
      clear hv ho
      have d1 : decide (57344 ≤ l) = true := by simp; omega
      have d2 : decide (l < 56320) = false := by simp; omega
      have d3 : decide (56320 ≤ h) = false := by simp; omega
      have d4 : decide (h < 55296) = false := by simp; omega
      go_enter Tryz.func96, Tryz.ntmps96
      go_wp2
      go_ret2
      exact ⟨rfl, rfl⟩
  · have hv : pairv h l = 0 := by unfold pairv; rw [if_neg (by omega)]
    have ho : pairok h l = false := by unfold pairok; simp; omega
    rw [hv, ho]
    clear hv ho
    have d2 : decide (l < 56320) = true := by simp; omega
    have d3 : decide (56320 ≤ h) = false := by simp; omega
    have d4 : decide (h < 55296) = false := by simp; omega
    go_enter Tryz.func96, Tryz.ntmps96
    go_wp2
    go_ret2
    exact ⟨rfl, rfl⟩

set_option maxRecDepth 100000 in
set_option maxHeartbeats 800000 in
theorem part_any (i : Nat) (hi : i ≤ 2) (B c : Nat) (hc : c < 1114112) (w : World) (hB : w.cell? ⟨B, 0, none⟩ = some (.int .i32 (c : Int))) :
    Calls Tryz.prog 106 #[.int .i64 (i : Int), .pointer (some ⟨B, 0, none⟩)] w fun r w' => r = .returned (.int .u8 ((128 + c / 64 ^ i % 64 : Nat) : Int)) ∧ w = w' := by
  go_enter Tryz.func106, Tryz.ntmps106
  go_wp2
  go_ret
  refine ⟨?_, rfl⟩
  have e : (2 : Nat) ^ (6 * i) = 64 ^ i := by rw [Nat.pow_mul]
  have h1 : ((c : Int) / 2 ^ (6 * i)) = ((c / 64 ^ i : Nat) : Int) := by
    rw [← e]; simp
  refine ret_int ?_
  rw [h1]
  omega

/-- A character's bytes. -/
def uenc (c : Nat) : List UInt8 :=
  if c < 128 then [c.toUInt8] else if c < 2048 then [(192 + c / 64).toUInt8, (128 + c % 64).toUInt8]
  else if c < 65536 then [(224 + c / 4096).toUInt8, (128 + c / 64 % 64).toUInt8, (128 + c % 64).toUInt8]
  else [(240 + c / 262144).toUInt8, (128 + c / 4096 % 64).toUInt8, (128 + c / 64 % 64).toUInt8, (128 + c % 64).toUInt8]
theorem uenc_len (c : Nat) : (uenc c).length ≤ 4 := by
  unfold uenc
  split
  · simp
  · split
    · simp
    · split <;> simp
theorem OwnB.drewN {w : World} {base : Nat} {v : Value} {l : List UInt8} (h : OwnB w base v l) (n : Nat) : OwnB (w.drewN n) base v l := h
theorem OwnB.ne_blk {w : World} {base : Nat} {v : Value} {l : List UInt8} (h : OwnB w base v l) {B : Nat} {C : Array Value} {T : TypeId} (hb : Blk w B C T) (hT : T ≠ 5) : some B ≠ v.ownBlock := by
  rcases h.2 with ⟨rfl, _⟩ | ⟨g, cap, cur, rfl, _, hg, _⟩
  · simp [Value.ownBlock]
  · simp [Value.ownBlock]
    intro e
    subst e
    unfold Blk at hb
    rw [hb] at hg
    simp at hg
    exact hT hg.2
theorem BytesAt.one (w : World) (v : Int) (h0 : 0 ≤ v) (h1 : v < 256) (t : TypeId) (B : Nat) (hB : w.heap.size = B) : BytesAt (w.alloc (.cells #[.int .u8 v] t)) (some ⟨B, 0, none⟩) B 0 [v.toNat.toUInt8] := by
  refine BytesAt.made w _ _ t (0, 0) B hB ?_
  have : ((v.toNat % 256 : Nat) : Int) = v := by omega
  simp [this]

end Go.Proofs.YticfioblapjkmaaGreat

namespace Go.Proofs.YticfioblapjkmaaGreat
open Go.RowKit
set_option linter.unusedVariables false
set_option linter.unusedSimpArgs false

theorem leastq (n : Int) (w : World) (m : Nat) (hn : n = 2 ∨ n = 3 ∨ n = 4) :
    Calls Tryz.prog 105 #[.int .i64 n] (w.drewN m) fun r w' => r = .returned (.int .i32 (uleast n)) ∧ w' = w.drewN m := least_any n _ hn

set_option maxRecDepth 100000 in
set_option maxHeartbeats 2000000 in
theorem put_bad (v : Value) (c : Int) (w : World) (hc : isChr c = false) :
    Calls Tryz.prog 97 #[v, .int .i32 c] w fun r w' => r = .returned (.tuple #[v, .int .i64 2]) ∧ w' = w.alloc (.cells #[.int .i32 c] 21) := by
  have hch := Lib.hid fun w => character_any c w
  rw [hc] at hch
  clear hc
  go_enter Tryz.func97, Tryz.ntmps97
  go_wp2_with (go_at_call 104; refine (hch.out _).mono ?_; rintro r w' ⟨rfl, rfl⟩)
  go_ret2
  exact ⟨rfl, rfl⟩

theorem part0 (B c : Nat) (hc : c < 1114112) (w : World) (hB : w.cell? ⟨B, 0, none⟩ = some (.int .i32 (c : Int))) :
    Calls Tryz.prog 106 #[.int .i64 0, .pointer (some ⟨B, 0, none⟩)] w fun r w' => r = .returned (.int .u8 ((128 + c % 64 : Nat) : Int)) ∧ w = w' := by
  have h := part_any 0 (by omega) B c hc w hB
  rw [Nat.pow_zero, Nat.div_one] at h
  exact h
theorem part1 (B c : Nat) (hc : c < 1114112) (w : World) (hB : w.cell? ⟨B, 0, none⟩ = some (.int .i32 (c : Int))) :
    Calls Tryz.prog 106 #[.int .i64 1, .pointer (some ⟨B, 0, none⟩)] w fun r w' => r = .returned (.int .u8 ((128 + c / 64 % 64 : Nat) : Int)) ∧ w = w' := by
  have h := part_any 1 (by omega) B c hc w hB
  rw [Nat.pow_one] at h
  exact h
theorem part2 (B c : Nat) (hc : c < 1114112) (w : World) (hB : w.cell? ⟨B, 0, none⟩ = some (.int .i32 (c : Int))) :
    Calls Tryz.prog 106 #[.int .i64 2, .pointer (some ⟨B, 0, none⟩)] w fun r w' => r = .returned (.int .u8 ((128 + c / 4096 % 64 : Nat) : Int)) ∧ w = w' := by
  have h := part_any 2 (by omega) B c hc w hB
  rw [show (64 : Nat) ^ 2 = 4096 from rfl] at h
  exact h
theorem newByte (x : UInt8) (v : Int) (hv : v = (x.toNat : Int)) (W : World) (B : Nat) (hB : W.heap.size = B) : BytesAt (W.alloc (.cells #[.int .u8 v] 5)) (some ⟨B, 0, none⟩) B 0 [x] :=
  BytesAt.made W [x] _ _ (0, 0) B hB (by simp [hv])

set_option maxRecDepth 100000 in
set_option maxHeartbeats 2000000 in
theorem put_one (v : Value) (T : List UInt8) (base c : Nat) (w : World) (h2 : c < 128) (hch0 : isChr (c : Int) = true) (ho : OwnB w base v T) (hb : base ≤ w.heap.size) (hT : T.length ≤ 140737488351232) :
    Calls Tryz.prog 97 #[v, .int .i32 (c : Int)] w fun r w' => ∃ a' c' L, r = .returned (.tuple #[.slice a' L.length c', .int .i64 0]) ∧ L = T ++ uenc c ∧ OwnB w' base (.slice a' L.length c') L ∧ Below base w w' := by
  have hcc : c < 1114112 := by omega
  have hch := Lib.hid fun w => character_any c w
  rw [hch0] at hch
  clear hch0
  obtain ⟨x0, hx0⟩ : ∃ x : UInt8, x = c.toUInt8 := ⟨_, rfl⟩
  have hu : uenc c = [x0] := by rw [hx0]; unfold uenc; rw [if_pos h2]
  replace hu := Lib.hid hu
  have q0 : (c : Int) = (x0.toNat : Int) := by
    rw [hx0]; simp; omega
  have n0 := newByte x0 _ q0
  clear hx0 q0
  replace n0 := Lib.hid n0
  have t2 : decide (uleast 2 ≤ (c : Int)) = false := by unfold uleast; simp; omega
  have hbk := Lib.hid (Blk.made w #[.int .i32 (c : Int)] 21 w.heap.size rfl)
  have hho := Lib.hid ho
  have hbel := Lib.hid ((Below.refl base w).alloc hb (.cells #[.int .i32 (c : Int)] 21))
  clear ho
  go_enter Tryz.func97, Tryz.ntmps97
  go_wp2_with (first | (go_at_call 104; refine (hch.out _).mono ?_; rintro r w' ⟨rfl, rfl⟩))
  refine wp_loop_rounds 1 ?_
  rw [rounds_succ]
  go_wp2_with fail
  go_quiet ((go_at_call 105; first | with_reducible exact Calls.quiet_of_same (leastq _ _ _ (.inl rfl)) | with_reducible exact quiet_add_same (leastq _ _ _ (.inl rfl))))
  clear hch
  go_wp2_with (at_builtin; refine wpList_appendB _ _ rfl rfl rfl base v T [x0] (some ⟨w.heap.size + 1, 0, none⟩) (w.heap.size + 1) 0 1 1 rfl rfl (by exact (hho.out.alloc _).alloc _) rfl (n0.out _ _ (by simp)) (by simp) (by simp; omega) (by simp; omega) ?_)
  intro a1 c1 w1 L1 hL1 ho1 hg1
  have hlen1 : L1.length ≤ 140737488351233 := by rw [hL1.out]; simp; omega
  have hbel1 := Lib.hid (below_own (w := (World.alloc (World.drewN (w.alloc _) _) _)) (((hho.out.alloc _).drewN _).alloc _) hg1.out (((below_drewN hbel.out _).alloc (by simp; omega) _)) (Nat.le_refl _) (by simp; omega))
  have hbk1 := Lib.hid (Blk.other (w := (World.alloc (World.drewN (w.alloc _) _) _)) (Blk.kept (B := w.heap.size + 1) hbk.out ((below_drewN (Below.refl _ _) _).alloc (by simp) _) (by simp)) hg1.out (OwnB.ne_blk (w := w.alloc _) (hho.out.alloc _) hbk.out (by decide)))
  clear hho hbel hbk hg1
  go_wp2
  go_ret2
  exact ⟨_, _, L1, rfl, by rw [hL1.out, hu.out]; first | done | simp, ho1, hbel1.out⟩

set_option maxRecDepth 100000 in
set_option maxHeartbeats 2000000 in
theorem put_two (v : Value) (T : List UInt8) (base c : Nat) (w : World) (h1 : 128 ≤ c) (h2 : c < 2048) (hch0 : isChr (c : Int) = true) (ho : OwnB w base v T) (hb : base ≤ w.heap.size) (hT : T.length ≤ 140737488351232) :
    Calls Tryz.prog 97 #[v, .int .i32 (c : Int)] w fun r w' => ∃ a' c' L, r = .returned (.tuple #[.slice a' L.length c', .int .i64 0]) ∧ L = T ++ uenc c ∧ OwnB w' base (.slice a' L.length c') L ∧ Below base w w' := by
  have hcc : c < 1114112 := by omega
  have hch := Lib.hid fun w => character_any c w
  rw [hch0] at hch
  clear hch0
  obtain ⟨x0, hx0⟩ : ∃ x : UInt8, x = (192 + c / 64).toUInt8 := ⟨_, rfl⟩
  obtain ⟨x1, hx1⟩ : ∃ x : UInt8, x = (128 + c % 64).toUInt8 := ⟨_, rfl⟩
  have hu : uenc c = [x0, x1] := by rw [hx0, hx1]; unfold uenc; rw [if_neg (by omega), if_pos h2]
  replace hu := Lib.hid hu
  have q0 : (192 + (c : Int) / 64) = (x0.toNat : Int) := by
    rw [hx0]; simp; omega
  have q1 : ((128 + c % 64 : Nat) : Int) = (x1.toNat : Int) := by
    rw [hx1]; simp; omega
  have n0 := newByte x0 _ q0
  have n1 := newByte x1 _ q1
  clear hx0 q0 hx1 q1
  replace n0 := Lib.hid n0
  replace n1 := Lib.hid n1
  have t2 : decide (uleast 2 ≤ (c : Int)) = true := by unfold uleast; simp; omega
  have t3 : decide (uleast 3 ≤ (c : Int)) = false := by unfold uleast; simp; omega
  have hbk := Lib.hid (Blk.made w #[.int .i32 (c : Int)] 21 w.heap.size rfl)
  have hho := Lib.hid ho
  have hbel := Lib.hid ((Below.refl base w).alloc hb (.cells #[.int .i32 (c : Int)] 21))
  clear ho
  go_enter Tryz.func97, Tryz.ntmps97
  go_wp2_with (first | (go_at_call 104; refine (hch.out _).mono ?_; rintro r w' ⟨rfl, rfl⟩))
  refine wp_loop_rounds 2 ?_
  rw [rounds_succ]
  go_wp2_with fail
  go_quiet ((go_at_call 105; first | with_reducible exact Calls.quiet_of_same (leastq _ _ _ (.inl rfl)) | with_reducible exact quiet_add_same (leastq _ _ _ (.inl rfl))))
  go_wp2_with fail
  rw [rounds_succ]
  go_wp2_with fail
  go_quiet ((go_at_call 105; first | with_reducible exact Calls.quiet_of_same (leastq _ _ _ (.inr (.inl rfl))) | with_reducible exact quiet_add_same (leastq _ _ _ (.inr (.inl rfl)))))
  clear hch
  go_wp2_with (at_builtin; refine wpList_appendB _ _ rfl rfl rfl base v T [x0] (some ⟨w.heap.size + 1, 0, none⟩) (w.heap.size + 1) 0 1 1 rfl rfl (by exact (hho.out.alloc _).alloc _) rfl (n0.out _ _ (by simp)) (by simp) (by simp; omega) (by simp; omega) ?_)
  intro a1 c1 w1 L1 hL1 ho1 hg1
  have hlen1 : L1.length ≤ 140737488351233 := by rw [hL1.out]; simp; omega
  have hbel1 := Lib.hid (below_own (w := (World.alloc (World.drewN (w.alloc _) _) _)) (((hho.out.alloc _).drewN _).alloc _) hg1.out (((below_drewN hbel.out _).alloc (by simp; omega) _)) (Nat.le_refl _) (by simp; omega))
  have hbk1 := Lib.hid (Blk.other (w := (World.alloc (World.drewN (w.alloc _) _) _)) (Blk.kept (B := w.heap.size + 1) hbk.out ((below_drewN (Below.refl _ _) _).alloc (by simp) _) (by simp)) hg1.out (OwnB.ne_blk (w := w.alloc _) (hho.out.alloc _) hbk.out (by decide)))
  clear hho hbel hbk hg1
  have cell1 := hbk1.out.cell 0
  have size1 := hbel1.out.size
  go_wp2_with (first | (go_at_call 106; refine (part0 w.heap.size c hcc _ cell1).mono ?_; rintro r w' ⟨rfl, rfl⟩) | (at_builtin; refine wpList_appendB _ _ rfl rfl rfl base (.slice a1 L1.length c1) L1 [x1] (some ⟨w1.heap.size, 0, none⟩) w1.heap.size 0 1 1 rfl rfl (by exact ho1.alloc _) rfl (n1.out _ _ rfl) (by simp) (by simp; omega) (by simp; omega) ?_))
  intro a2 c2 w2 L2 hL2 ho2 hg2
  have hlen2 : L2.length ≤ 140737488351234 := by rw [hL2.out]; simp; omega
  have hbel2 := Lib.hid (below_own (w := w1.alloc _) (ho1.alloc _) hg2.out (hbel1.out.alloc (by omega) _) (Nat.le_refl _) (by simp; omega))
  have hbk2 := Lib.hid (Blk.other (w := w1.alloc _) (Blk.kept hbk1.out ((Below.refl _ _).alloc (Nat.le_refl _) _) hbk1.out.lt) hg2.out (OwnB.ne_blk (w := w1) ho1 hbk1.out (by decide)))
  clear ho1 hg2 cell1 size1
  go_wp2
  go_ret2
  exact ⟨_, _, L2, rfl, by rw [hL2.out, hL1.out, hu.out]; first | done | simp, ho2, hbel2.out⟩

set_option maxRecDepth 100000 in
set_option maxHeartbeats 2000000 in
theorem put_three (v : Value) (T : List UInt8) (base c : Nat) (w : World) (h1 : 2048 ≤ c) (h2 : c < 65536) (hch0 : isChr (c : Int) = true) (ho : OwnB w base v T) (hb : base ≤ w.heap.size) (hT : T.length ≤ 140737488351232) :
    Calls Tryz.prog 97 #[v, .int .i32 (c : Int)] w fun r w' => ∃ a' c' L, r = .returned (.tuple #[.slice a' L.length c', .int .i64 0]) ∧ L = T ++ uenc c ∧ OwnB w' base (.slice a' L.length c') L ∧ Below base w w' := by
  have hcc : c < 1114112 := by omega
  have hch := Lib.hid fun w => character_any c w
  rw [hch0] at hch
  clear hch0
  obtain ⟨x0, hx0⟩ : ∃ x : UInt8, x = (224 + c / 4096).toUInt8 := ⟨_, rfl⟩
  obtain ⟨x1, hx1⟩ : ∃ x : UInt8, x = (128 + c / 64 % 64).toUInt8 := ⟨_, rfl⟩
  obtain ⟨x2, hx2⟩ : ∃ x : UInt8, x = (128 + c % 64).toUInt8 := ⟨_, rfl⟩
  have hu : uenc c = [x0, x1, x2] := by rw [hx0, hx1, hx2]; unfold uenc; rw [if_neg (by omega), if_neg (by omega), if_pos h2]
  replace hu := Lib.hid hu
  have q0 : (224 + (c : Int) / 4096) = (x0.toNat : Int) := by
    rw [hx0]; simp; omega
  have q1 : ((128 + c / 64 % 64 : Nat) : Int) = (x1.toNat : Int) := by
    rw [hx1]; simp; omega
  have q2 : ((128 + c % 64 : Nat) : Int) = (x2.toNat : Int) := by
    rw [hx2]; simp; omega
  have n0 := newByte x0 _ q0
  have n1 := newByte x1 _ q1
  have n2 := newByte x2 _ q2
  clear hx0 q0 hx1 q1 hx2 q2
  replace n0 := Lib.hid n0
  replace n1 := Lib.hid n1
  replace n2 := Lib.hid n2
  have t2 : decide (uleast 2 ≤ (c : Int)) = true := by unfold uleast; simp; omega
  have t3 : decide (uleast 3 ≤ (c : Int)) = true := by unfold uleast; simp; omega
  have t4 : decide (uleast 4 ≤ (c : Int)) = false := by unfold uleast; simp; omega
  have hbk := Lib.hid (Blk.made w #[.int .i32 (c : Int)] 21 w.heap.size rfl)
  have hho := Lib.hid ho
  have hbel := Lib.hid ((Below.refl base w).alloc hb (.cells #[.int .i32 (c : Int)] 21))
  clear ho
  go_enter Tryz.func97, Tryz.ntmps97
  go_wp2_with (first | (go_at_call 104; refine (hch.out _).mono ?_; rintro r w' ⟨rfl, rfl⟩))
  refine wp_loop_rounds 3 ?_
  rw [rounds_succ]
  go_wp2_with fail
  go_quiet ((go_at_call 105; first | with_reducible exact Calls.quiet_of_same (leastq _ _ _ (.inl rfl)) | with_reducible exact quiet_add_same (leastq _ _ _ (.inl rfl))))
  go_wp2_with fail
  rw [rounds_succ]
  go_wp2_with fail
  go_quiet ((go_at_call 105; first | with_reducible exact Calls.quiet_of_same (leastq _ _ _ (.inr (.inl rfl))) | with_reducible exact quiet_add_same (leastq _ _ _ (.inr (.inl rfl)))))
  go_wp2_with fail
  rw [rounds_succ]
  go_wp2_with fail
  go_quiet ((go_at_call 105; first | with_reducible exact Calls.quiet_of_same (leastq _ _ _ (.inr (.inr rfl))) | with_reducible exact quiet_add_same (leastq _ _ _ (.inr (.inr rfl)))))
  clear hch
  go_wp2_with (at_builtin; refine wpList_appendB _ _ rfl rfl rfl base v T [x0] (some ⟨w.heap.size + 1, 0, none⟩) (w.heap.size + 1) 0 1 1 rfl rfl (by exact (hho.out.alloc _).alloc _) rfl (n0.out _ _ (by simp)) (by simp) (by simp; omega) (by simp; omega) ?_)
  intro a1 c1 w1 L1 hL1 ho1 hg1
  have hlen1 : L1.length ≤ 140737488351233 := by rw [hL1.out]; simp; omega
  have hbel1 := Lib.hid (below_own (w := (World.alloc (World.drewN (w.alloc _) _) _)) (((hho.out.alloc _).drewN _).alloc _) hg1.out (((below_drewN hbel.out _).alloc (by simp; omega) _)) (Nat.le_refl _) (by simp; omega))
  have hbk1 := Lib.hid (Blk.other (w := (World.alloc (World.drewN (w.alloc _) _) _)) (Blk.kept (B := w.heap.size + 1) hbk.out ((below_drewN (Below.refl _ _) _).alloc (by simp) _) (by simp)) hg1.out (OwnB.ne_blk (w := w.alloc _) (hho.out.alloc _) hbk.out (by decide)))
  clear hho hbel hbk hg1
  have cell1 := hbk1.out.cell 0
  have size1 := hbel1.out.size
  go_wp2_with (first | (go_at_call 106; refine (part1 w.heap.size c hcc _ cell1).mono ?_; rintro r w' ⟨rfl, rfl⟩) | (at_builtin; refine wpList_appendB _ _ rfl rfl rfl base (.slice a1 L1.length c1) L1 [x1] (some ⟨w1.heap.size, 0, none⟩) w1.heap.size 0 1 1 rfl rfl (by exact ho1.alloc _) rfl (n1.out _ _ rfl) (by simp) (by simp; omega) (by simp; omega) ?_))
  intro a2 c2 w2 L2 hL2 ho2 hg2
  have hlen2 : L2.length ≤ 140737488351234 := by rw [hL2.out]; simp; omega
  have hbel2 := Lib.hid (below_own (w := w1.alloc _) (ho1.alloc _) hg2.out (hbel1.out.alloc (by omega) _) (Nat.le_refl _) (by simp; omega))
  have hbk2 := Lib.hid (Blk.other (w := w1.alloc _) (Blk.kept hbk1.out ((Below.refl _ _).alloc (Nat.le_refl _) _) hbk1.out.lt) hg2.out (OwnB.ne_blk (w := w1) ho1 hbk1.out (by decide)))
  clear ho1 hg2 cell1 size1
  have cell2 := hbk2.out.cell 0
  have size2 := hbel2.out.size
  go_wp2_with (first | (go_at_call 106; refine (part0 w.heap.size c hcc _ cell2).mono ?_; rintro r w' ⟨rfl, rfl⟩) | (at_builtin; refine wpList_appendB _ _ rfl rfl rfl base (.slice a2 L2.length c2) L2 [x2] (some ⟨w2.heap.size, 0, none⟩) w2.heap.size 0 1 1 rfl rfl (by exact ho2.alloc _) rfl (n2.out _ _ rfl) (by simp) (by simp; omega) (by simp; omega) ?_))
  intro a3 c3 w3 L3 hL3 ho3 hg3
  have hlen3 : L3.length ≤ 140737488351235 := by rw [hL3.out]; simp; omega
  have hbel3 := Lib.hid (below_own (w := w2.alloc _) (ho2.alloc _) hg3.out (hbel2.out.alloc (by omega) _) (Nat.le_refl _) (by simp; omega))
  have hbk3 := Lib.hid (Blk.other (w := w2.alloc _) (Blk.kept hbk2.out ((Below.refl _ _).alloc (Nat.le_refl _) _) hbk2.out.lt) hg3.out (OwnB.ne_blk (w := w2) ho2 hbk2.out (by decide)))
  clear ho2 hg3 cell2 size2
  go_wp2
  go_ret2
  exact ⟨_, _, L3, rfl, by rw [hL3.out, hL2.out, hL1.out, hu.out]; first | done | simp, ho3, hbel3.out⟩

set_option maxRecDepth 100000 in
set_option maxHeartbeats 2000000 in
theorem put_four (v : Value) (T : List UInt8) (base c : Nat) (w : World) (h1 : 65536 ≤ c) (h2 : c < 1114112) (hch0 : isChr (c : Int) = true) (ho : OwnB w base v T) (hb : base ≤ w.heap.size) (hT : T.length ≤ 140737488351232) :
    Calls Tryz.prog 97 #[v, .int .i32 (c : Int)] w fun r w' => ∃ a' c' L, r = .returned (.tuple #[.slice a' L.length c', .int .i64 0]) ∧ L = T ++ uenc c ∧ OwnB w' base (.slice a' L.length c') L ∧ Below base w w' := by
  have hcc : c < 1114112 := by omega
  have hch := Lib.hid fun w => character_any c w
  rw [hch0] at hch
  clear hch0
  obtain ⟨x0, hx0⟩ : ∃ x : UInt8, x = (240 + c / 262144).toUInt8 := ⟨_, rfl⟩
  obtain ⟨x1, hx1⟩ : ∃ x : UInt8, x = (128 + c / 4096 % 64).toUInt8 := ⟨_, rfl⟩
  obtain ⟨x2, hx2⟩ : ∃ x : UInt8, x = (128 + c / 64 % 64).toUInt8 := ⟨_, rfl⟩
  obtain ⟨x3, hx3⟩ : ∃ x : UInt8, x = (128 + c % 64).toUInt8 := ⟨_, rfl⟩
  have hu : uenc c = [x0, x1, x2, x3] := by rw [hx0, hx1, hx2, hx3]; unfold uenc; rw [if_neg (by omega), if_neg (by omega), if_neg (by omega)]
  replace hu := Lib.hid hu
  have q0 : (240 + (c : Int) / 262144) = (x0.toNat : Int) := by
    rw [hx0]; simp; omega
  have q1 : ((128 + c / 4096 % 64 : Nat) : Int) = (x1.toNat : Int) := by
    rw [hx1]; simp; omega
  have q2 : ((128 + c / 64 % 64 : Nat) : Int) = (x2.toNat : Int) := by
    rw [hx2]; simp; omega
  have q3 : ((128 + c % 64 : Nat) : Int) = (x3.toNat : Int) := by
    rw [hx3]; simp; omega
  have n0 := newByte x0 _ q0
  have n1 := newByte x1 _ q1
  have n2 := newByte x2 _ q2
  have n3 := newByte x3 _ q3
  clear hx0 q0 hx1 q1 hx2 q2 hx3 q3
  replace n0 := Lib.hid n0
  replace n1 := Lib.hid n1
  replace n2 := Lib.hid n2
  replace n3 := Lib.hid n3
  have t2 : decide (uleast 2 ≤ (c : Int)) = true := by unfold uleast; simp; omega
  have t3 : decide (uleast 3 ≤ (c : Int)) = true := by unfold uleast; simp; omega
  have t4 : decide (uleast 4 ≤ (c : Int)) = true := by unfold uleast; simp; omega
  have hbk := Lib.hid (Blk.made w #[.int .i32 (c : Int)] 21 w.heap.size rfl)
  have hho := Lib.hid ho
  have hbel := Lib.hid ((Below.refl base w).alloc hb (.cells #[.int .i32 (c : Int)] 21))
  clear ho
  go_enter Tryz.func97, Tryz.ntmps97
  go_wp2_with (first | (go_at_call 104; refine (hch.out _).mono ?_; rintro r w' ⟨rfl, rfl⟩))
  refine wp_loop_rounds 4 ?_
  rw [rounds_succ]
  go_wp2_with fail
  go_quiet ((go_at_call 105; first | with_reducible exact Calls.quiet_of_same (leastq _ _ _ (.inl rfl)) | with_reducible exact quiet_add_same (leastq _ _ _ (.inl rfl))))
  go_wp2_with fail
  rw [rounds_succ]
  go_wp2_with fail
  go_quiet ((go_at_call 105; first | with_reducible exact Calls.quiet_of_same (leastq _ _ _ (.inr (.inl rfl))) | with_reducible exact quiet_add_same (leastq _ _ _ (.inr (.inl rfl)))))
  go_wp2_with fail
  rw [rounds_succ]
  go_wp2_with fail
  go_quiet ((go_at_call 105; first | with_reducible exact Calls.quiet_of_same (leastq _ _ _ (.inr (.inr rfl))) | with_reducible exact quiet_add_same (leastq _ _ _ (.inr (.inr rfl)))))
  go_wp2_with fail
  rw [rounds_succ]
  go_wp2_with fail
  go_quiet (fail)
  clear hch
  go_wp2_with (at_builtin; refine wpList_appendB _ _ rfl rfl rfl base v T [x0] (some ⟨w.heap.size + 1, 0, none⟩) (w.heap.size + 1) 0 1 1 rfl rfl (by exact (hho.out.alloc _).alloc _) rfl (n0.out _ _ (by simp)) (by simp) (by simp; omega) (by simp; omega) ?_)
  intro a1 c1 w1 L1 hL1 ho1 hg1
  have hlen1 : L1.length ≤ 140737488351233 := by rw [hL1.out]; simp; omega
  have hbel1 := Lib.hid (below_own (w := (World.alloc (World.drewN (w.alloc _) _) _)) (((hho.out.alloc _).drewN _).alloc _) hg1.out (((below_drewN hbel.out _).alloc (by simp; omega) _)) (Nat.le_refl _) (by simp; omega))
  have hbk1 := Lib.hid (Blk.other (w := (World.alloc (World.drewN (w.alloc _) _) _)) (Blk.kept (B := w.heap.size + 1) hbk.out ((below_drewN (Below.refl _ _) _).alloc (by simp) _) (by simp)) hg1.out (OwnB.ne_blk (w := w.alloc _) (hho.out.alloc _) hbk.out (by decide)))
  clear hho hbel hbk hg1
  have cell1 := hbk1.out.cell 0
  have size1 := hbel1.out.size
  go_wp2_with (first | (go_at_call 106; refine (part2 w.heap.size c hcc _ cell1).mono ?_; rintro r w' ⟨rfl, rfl⟩) | (at_builtin; refine wpList_appendB _ _ rfl rfl rfl base (.slice a1 L1.length c1) L1 [x1] (some ⟨w1.heap.size, 0, none⟩) w1.heap.size 0 1 1 rfl rfl (by exact ho1.alloc _) rfl (n1.out _ _ rfl) (by simp) (by simp; omega) (by simp; omega) ?_))
  intro a2 c2 w2 L2 hL2 ho2 hg2
  have hlen2 : L2.length ≤ 140737488351234 := by rw [hL2.out]; simp; omega
  have hbel2 := Lib.hid (below_own (w := w1.alloc _) (ho1.alloc _) hg2.out (hbel1.out.alloc (by omega) _) (Nat.le_refl _) (by simp; omega))
  have hbk2 := Lib.hid (Blk.other (w := w1.alloc _) (Blk.kept hbk1.out ((Below.refl _ _).alloc (Nat.le_refl _) _) hbk1.out.lt) hg2.out (OwnB.ne_blk (w := w1) ho1 hbk1.out (by decide)))
  clear ho1 hg2 cell1 size1
  have cell2 := hbk2.out.cell 0
  have size2 := hbel2.out.size
  go_wp2_with (first | (go_at_call 106; refine (part1 w.heap.size c hcc _ cell2).mono ?_; rintro r w' ⟨rfl, rfl⟩) | (at_builtin; refine wpList_appendB _ _ rfl rfl rfl base (.slice a2 L2.length c2) L2 [x2] (some ⟨w2.heap.size, 0, none⟩) w2.heap.size 0 1 1 rfl rfl (by exact ho2.alloc _) rfl (n2.out _ _ rfl) (by simp) (by simp; omega) (by simp; omega) ?_))
  intro a3 c3 w3 L3 hL3 ho3 hg3
  have hlen3 : L3.length ≤ 140737488351235 := by rw [hL3.out]; simp; omega
  have hbel3 := Lib.hid (below_own (w := w2.alloc _) (ho2.alloc _) hg3.out (hbel2.out.alloc (by omega) _) (Nat.le_refl _) (by simp; omega))
  have hbk3 := Lib.hid (Blk.other (w := w2.alloc _) (Blk.kept hbk2.out ((Below.refl _ _).alloc (Nat.le_refl _) _) hbk2.out.lt) hg3.out (OwnB.ne_blk (w := w2) ho2 hbk2.out (by decide)))
  clear ho2 hg3 cell2 size2
  have cell3 := hbk3.out.cell 0
  have size3 := hbel3.out.size
  go_wp2_with (first | (go_at_call 106; refine (part0 w.heap.size c hcc _ cell3).mono ?_; rintro r w' ⟨rfl, rfl⟩) | (at_builtin; refine wpList_appendB _ _ rfl rfl rfl base (.slice a3 L3.length c3) L3 [x3] (some ⟨w3.heap.size, 0, none⟩) w3.heap.size 0 1 1 rfl rfl (by exact ho3.alloc _) rfl (n3.out _ _ rfl) (by simp) (by simp; omega) (by simp; omega) ?_))
  intro a4 c4 w4 L4 hL4 ho4 hg4
  have hlen4 : L4.length ≤ 140737488351236 := by rw [hL4.out]; simp; omega
  have hbel4 := Lib.hid (below_own (w := w3.alloc _) (ho3.alloc _) hg4.out (hbel3.out.alloc (by omega) _) (Nat.le_refl _) (by simp; omega))
  have hbk4 := Lib.hid (Blk.other (w := w3.alloc _) (Blk.kept hbk3.out ((Below.refl _ _).alloc (Nat.le_refl _) _) hbk3.out.lt) hg4.out (OwnB.ne_blk (w := w3) ho3 hbk3.out (by decide)))
  clear ho3 hg4 cell3 size3
  go_wp2
  go_ret2
  exact ⟨_, _, L4, rfl, by rw [hL4.out, hL3.out, hL2.out, hL1.out, hu.out]; first | done | simp, ho4, hbel4.out⟩

end Go.Proofs.YticfioblapjkmaaGreat
