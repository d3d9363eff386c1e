/- The lexer's method hexes: four hexadecimal digits. -/
import Derived.Test.YtmembanbemljoaaLexb
import Derived.Test.YtmembanbemljoaaFinr
namespace Go.Proofs.Ytmembanbemljoaa
open Go.RowKit
set_option linter.unusedVariables false
set_option linter.unusedSimpArgs false

/-- What IndexByte finds among the sixteen digits. -/
def hexIdx (y : Int) : Int := Lib.indexByte hexs y.toNat.toUInt8
theorem hexIdx_all : ∀ y : Nat, y < 256 → hexIdx (y : Int) = if 48 ≤ y ∧ y ≤ 57 then (y : Int) - 48 else if 97 ≤ y ∧ y ≤ 102 then (y : Int) - 87 else -1 := by decide +kernel
theorem hexIdx_any (y : Int) (w : World) :
    Calls Try.prog 42 #[.string ⟨#[48, 49, 50, 51, 52, 53, 54, 55, 56, 57, 97, 98, 99, 100, 101, 102]⟩, .int .u8 y] w fun r w' => r = .returned (.int .i64 (hexIdx y)) ∧ w = w' :=
  indexByte_any _ y w
/-- A hexadecimal digit, great or small. -/
def nibU (c : UInt8) : Option Nat := if 48 ≤ c.toNat ∧ c.toNat ≤ 57 then some (c.toNat - 48) else if 97 ≤ c.toNat ∧ c.toNat ≤ 102 then some (c.toNat - 87) else if 65 ≤ c.toNat ∧ c.toNat ≤ 70 then some (c.toNat - 55) else none
/-- The first k digits from p on. -/
def hxs (l : List UInt8) (p : Nat) : Nat → Option Nat
  | 0 => some 0
  | k + 1 => (hxs l p k).bind fun n => (nibU (byteAt l (p + k))).map fun d => n * 16 + d
theorem nibU_lt {c : UInt8} {d : Nat} (h : nibU c = some d) : d < 16 := by
  unfold nibU at h
  split at h
  · simp at h; omega
  · split at h
    · simp at h; omega
    · split at h
      · simp at h; omega
      · simp at h
theorem hxs_lt {l : List UInt8} {p : Nat} : ∀ {k n : Nat}, hxs l p k = some n → n < 16 ^ k := by
  intro k
  induction k with
  | zero => intro n h; simp [hxs] at h; omega
  | succ k ih =>
    intro n h
    simp only [hxs, Option.bind_eq_some_iff, Option.map_eq_some_iff] at h
    obtain ⟨m, hm, d, hd, rfl⟩ := h
    have := ih hm
    have := nibU_lt hd
    rw [Nat.pow_succ]
    omega
theorem hxs_none {l : List UInt8} {p k : Nat} (h : hxs l p k = none) : ∀ j, hxs l p (k + j) = none := by
  intro j
  induction j with
  | zero => exact h
  | succ j ih => rw [show k + (j + 1) = (k + j) + 1 from by omega]; simp only [hxs]; rw [ih]; rfl
theorem hxs_stop {l : List UInt8} {p k n : Nat} (hk : k < 4) (h : hxs l p k = some n) (hn : nibU (byteAt l (p + k)) = none) : hxs l p 4 = none := by
  have h1 : hxs l p (k + 1) = none := by simp only [hxs]; rw [h, hn]; rfl
  have := hxs_none h1 (3 - k)
  rwa [show k + 1 + (3 - k) = 4 from by omega] at this
theorem hxs_next {l : List UInt8} {p k n d : Nat} (h : hxs l p k = some n) (hn : nibU (byteAt l (p + k)) = some d) : hxs l p (k + 1) = some (n * 16 + d) := by
  simp only [hxs]; rw [h, hn]; rfl
theorem nibU_pos {l : List UInt8} {i d : Nat} (h : nibU (byteAt l i) = some d) : i < l.length := by
  rcases Nat.lt_or_ge i l.length with h' | h'
  · exact h'
  · unfold byteAt at h
    rw [List.getElem?_eq_none h'] at h
    simp [nibU] at h
/-- What the digit looked up is. -/
theorem nibU_none {c : UInt8} (h : nibU c = none) : ¬ (65 ≤ c.toNat ∧ c.toNat ≤ 70) ∧ hexIdx (c.toNat : Int) = -1 := by
  have hc := hexIdx_all c.toNat c.toNat_lt
  unfold nibU at h
  split at h
  · simp at h
  · split at h
    · simp at h
    · split at h
      · simp at h
      · rename_i h1 h2 h3
        rw [if_neg h1, if_neg h2] at hc
        exact ⟨h3, hc⟩
theorem nibU_some {c : UInt8} {d : Nat} (h : nibU c = some d) :
    (65 ≤ c.toNat ∧ c.toNat ≤ 70 ∧ hexIdx ((c.toNat : Int) + 32) = (d : Int)) ∨ (¬ (65 ≤ c.toNat ∧ c.toNat ≤ 70) ∧ hexIdx (c.toNat : Int) = (d : Int)) := by
  have hc := hexIdx_all c.toNat c.toNat_lt
  unfold nibU at h
  split at h
  · rename_i h1
    rw [if_pos h1] at hc
    simp at h
    exact .inr ⟨by omega, by rw [hc]; omega⟩
  · split at h
    · rename_i h1 h2
      rw [if_neg h1, if_pos h2] at hc
      simp at h
      exact .inr ⟨by omega, by rw [hc]; omega⟩
    · split at h
      · rename_i h1 h2 h3
        have hc2 := hexIdx_all (c.toNat + 32) (by omega)
        rw [if_neg (by omega), if_pos (by omega)] at hc2
        simp at h
        refine .inl ⟨h3.1, h3.2, ?_⟩
        rw [show ((c.toNat : Int) + 32) = ((c.toNat + 32 : Nat) : Int) from by omega, hc2]
        omega
      · simp at h
theorem i32_or_nat (a b : Nat) (ha : a < 2147483648) (hb : b < 2147483648) : bits .or .i32 (a : Int) (b : Int) = ((a ||| b : Nat) : Int) := by
  have hx : a ||| b < 2 ^ 31 := Nat.or_lt_two_pow (by omega) (by omega)
  have h1 : (BitVec.ofInt 32 (a : Int)).toNat = a := by
    rw [BitVec.ofInt_natCast, BitVec.toNat_ofNat]; exact Nat.mod_eq_of_lt (by omega)
  have h2 : (BitVec.ofInt 32 (b : Int)).toNat = b := by
    rw [BitVec.ofInt_natCast, BitVec.toNat_ofNat]; exact Nat.mod_eq_of_lt (by omega)
  show IntKind.i32.wrap ((BitVec.ofInt 32 (a : Int) ||| BitVec.ofInt 32 (b : Int)).toNat : Int) = _
  rw [BitVec.toNat_or, h1, h2, IntKind.wrap_i32]
  omega
theorem or16 (n d : Nat) (hn : n < 4096) (hd : d < 16) : bits .or .i32 ((n : Int) * 16) (d : Int) = ((n * 16 + d : Nat) : Int) := by
  have h := i32_or_nat (n * 16) d (by omega) (by omega)
  have := Nat.shiftLeft_add_eq_or_of_lt (i := 4) (b := d) hd n
  rw [Nat.shiftLeft_eq] at this
  simp at this
  rw [← this] at h
  rw [← h]
  congr 1

/-- The value that hexes answers. -/
def hexR (o : Option Nat) : Int := match o with | some n => (n : Int) | none => -1

variable {w : World} {X B : Nat} {a : Option Addr} {b off c : Nat} {l : List UInt8} {p : Nat} {e : Int} {tv : Value} {T : List UInt8}
set_option maxRecDepth 100000 in
set_option maxHeartbeats 1000000 in
theorem hexes_any (h : Lex w X B a b off c l p e tv T) :
    Calls Try.prog 89 #[.pointer (some ⟨X, 0, none⟩)] w fun r w' => r = .returned (.int .i32 (hexR (hxs l p 4))) ∧ Near X B w w' ∧ ∃ p', Lex w' X B a b off c l p' e tv T ∧ (hxs l p 4 ≠ none → p' = p + 4) := by
  go_enter Try.func89, Try.ntmps89
  go_wp2
  go_loopw [3, 6] (fun v i wr => ∃ k n : Nat, k ≤ 4 ∧ hxs l p k = some n ∧ i = .int .i64 k ∧ v = .int .i32 n ∧ Lex wr X B a b off c l (p + k) e tv T ∧ Near X B w wr) (fun _ i _ => 4 - (intOf i).toNat)
  case atStart => exact ⟨0, 0, by omega, rfl, rfl, rfl, h, Near.refl _ _ _⟩
  case round =>
    obtain ⟨k, n, hk, hx, rfl, rfl, hL, hbel⟩ := hrel
    clear h
    have hnk := hxs_lt hx
    by_cases hlt : k < 4
    · have hn : n < 4096 := by
        have := Nat.pow_le_pow_right (n := 16) (by omega) (show k ≤ 3 from by omega)
        omega
      cases hd : nibU (byteAt l (p + k)) with
      | none =>
        obtain ⟨hu, hi⟩ := nibU_none hd
        have hstop := Lib.hid (hxs_stop hlt hx hd)
        clear hd hx
        have hpk := fun W (hW : W = wr) => peek_any (w := wr) hL
        obtain ⟨x, hxx⟩ : ∃ x, x = (byteAt l (p + k)).toNat := ⟨_, rfl⟩
        have hpeek := peek_any hL
        rw [← hxx] at hu hi hpeek
        have hxl : x < 256 := by rw [hxx]; exact UInt8.toNat_lt _
        clear hxx hpk
        replace hpeek := Lib.hid hpeek
        replace hi := Lib.hid hi
        have hbel' := Lib.hid hbel
        have hL' := Lib.hid hL
        clear hL hbel
        by_cases h65 : 65 ≤ x
        · have h70 : ¬ x ≤ 70 := by omega
          clear hu
          go_wp2_with (first | (go_at_call 67; refine hpeek.out.mono ?_; rintro r w' ⟨rfl, nq, rfl⟩) | (go_at_call 42; refine (hexIdx_any _ _).mono ?_; rintro r w' ⟨rfl, rfl⟩; rw [hi.out]))
          go_quiet (fail)
          go_wp2
          go_ret
          exact ⟨by rw [hstop.out]; rfl, near_drewN (near_drewN hbel'.out _) _, _, (hL'.out.drewN _).drewN _, fun h => absurd hstop.out h⟩
        · clear hu
          go_wp2_with (first | (go_at_call 67; refine hpeek.out.mono ?_; rintro r w' ⟨rfl, nq, rfl⟩) | (go_at_call 42; refine (hexIdx_any _ _).mono ?_; rintro r w' ⟨rfl, rfl⟩; rw [hi.out]))
          go_quiet (fail)
          go_wp2
          go_ret
          exact ⟨by rw [hstop.out]; rfl, near_drewN (near_drewN hbel'.out _) _, _, (hL'.out.drewN _).drewN _, fun h => absurd hstop.out h⟩
      | some d =>
        have hdl := nibU_lt hd
        have hpos := nibU_pos hd
        have hnext := Lib.hid (hxs_next hx hd)
        have hcase := nibU_some hd
        have hor := or16 n d hn hdl
        have hpeek := peek_any hL
        obtain ⟨x, hxx⟩ : ∃ x, x = (byteAt l (p + k)).toNat := ⟨_, rfl⟩
        rw [← hxx] at hcase hpeek
        have hxl : x < 256 := by rw [hxx]; exact UInt8.toNat_lt _
        clear hxx hd hx
        have d1 : decide ((l.length : Int) ≤ (p : Int) + (k : Int)) = false := by simp; omega
        have d2 : ((d : Int) < 0) = False := by simp
        have c0 := hL.c0
        have c1 := hL.c1
        have f1 := hL.f 1
        have hset := fun n => (hL.drewN n).setAt (p + k + 1) (by omega)
        have hbel' := fun n => (near_drewN hbel n).setX 1 (.int .i64 ((p + k + 1 : Nat) : Int))
        rw [show ((p + k + 1 : Nat) : Int) = (p : Int) + (k : Int) + 1 from by omega] at hset hbel'
        replace hset := Lib.hid hset
        replace hbel' := Lib.hid hbel'
        have hbig := hL.big
        replace hpeek := Lib.hid hpeek
        have e1 : ((p + k : Nat) : Int) = (p : Int) + (k : Int) := by omega
        rw [e1] at c1
        clear hL hbel
        rcases hcase with ⟨h65, h70, hi⟩ | ⟨h67, hi⟩
        · replace hi := Lib.hid hi
          go_wp2_with (first | (go_at_call 67; refine hpeek.out.mono ?_; rintro r w' ⟨rfl, nq, rfl⟩) | (go_at_call 42; refine (hexIdx_any _ _).mono ?_; rintro r w' ⟨rfl, rfl⟩; rw [hi.out]))
          go_quiet (fail)
          go_wp2
          go_roundw
          case rel => exact ⟨k + 1, n * 16 + d, by omega, hnext.out, by go_num, by go_num, hset.out _, hbel'.out _⟩
          case measure => simp [intOf]; omega
        · replace hi := Lib.hid hi
          by_cases h65 : 65 ≤ x
          · have h70 : ¬ x ≤ 70 := by omega
            clear h67
            go_wp2_with (first | (go_at_call 67; refine hpeek.out.mono ?_; rintro r w' ⟨rfl, nq, rfl⟩) | (go_at_call 42; refine (hexIdx_any _ _).mono ?_; rintro r w' ⟨rfl, rfl⟩; rw [hi.out]))
            go_quiet (fail)
            go_wp2
            go_roundw
            case rel => exact ⟨k + 1, n * 16 + d, by omega, hnext.out, by go_num, by go_num, hset.out _, hbel'.out _⟩
            case measure => simp [intOf]; omega
          · clear h67
            go_wp2_with (first | (go_at_call 67; refine hpeek.out.mono ?_; rintro r w' ⟨rfl, nq, rfl⟩) | (go_at_call 42; refine (hexIdx_any _ _).mono ?_; rintro r w' ⟨rfl, rfl⟩; rw [hi.out]))
            go_quiet (fail)
            go_wp2
            go_roundw
            case rel => exact ⟨k + 1, n * 16 + d, by omega, hnext.out, by go_num, by go_num, hset.out _, hbel'.out _⟩
            case measure => simp [intOf]; omega
    · obtain rfl : k = 4 := by omega
      have hx := Lib.hid hx
      clear hlt
      go_wp2
      go_ret
      exact ⟨by rw [hx.out]; rfl, hbel, _, hL, fun _ => rfl⟩

end Go.Proofs.Ytmembanbemljoaa
