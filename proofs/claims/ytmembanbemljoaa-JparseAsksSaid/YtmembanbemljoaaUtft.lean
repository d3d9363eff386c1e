/- The program's Take of a character. -/
import Derived.Test.YtmembanbemljoaaUtf
import Derived.Test.YtmembanbemljoaaLexh
namespace Go.Proofs.Ytmembanbemljoaa
open Go.RowKit
set_option linter.unusedVariables false
set_option linter.unusedSimpArgs false

/-- What Take answers. -/
def utv (l : List UInt8) (p : Nat) : Value :=
  if uerr l p = 0 then .tuple #[.int .i32 (uval l p (ulen l p - 1) : Int), .int .i64 ((p : Int) + (ulen l p : Int)), .int .i64 0] else .tuple #[.int .i32 0, .int .i64 (p : Int), .int .i64 (uerr l p : Int)]
theorem utv_bad {l : List UInt8} {p e : Nat} (h : uerr l p = e) (he : e ≠ 0) : utv l p = .tuple #[.int .i32 0, .int .i64 (p : Int), .int .i64 (e : Int)] := by
  unfold utv
  rw [if_neg (by omega), h]
theorem utv_good {l : List UInt8} {p : Nat} (h : uerr l p = 0) : utv l p = .tuple #[.int .i32 (uval l p (ulen l p - 1) : Int), .int .i64 ((p : Int) + (ulen l p : Int)), .int .i64 0] := by
  unfold utv
  rw [if_pos h]
theorem ufv_lt (c : UInt8) : ufv c < 128 := by
  unfold ufv
  split
  · assumption
  · split
    · omega
    · split
      · omega
      · split
        · omega
        · split <;> omega
theorem uval_lt (l : List UInt8) (p : Nat) : ∀ k, uval l p k < 128 * 64 ^ k := by
  intro k
  induction k with
  | zero => simpa [uval] using ufv_lt _
  | succ k ih => simp only [uval]; rw [Nat.pow_succ]; omega
theorem ufirst_le (c : UInt8) : ufirst c ≤ 4 := by
  unfold ufirst
  split
  · omega
  · split
    · omega
    · split
      · omega
      · split
        · omega
        · split <;> omega
theorem cont_all : ∀ x : Nat, x < 256 → (bits BinOp.and IntKind.u8 (x : Int) 192 != 128) = !decide (128 ≤ x ∧ x < 192) := by decide +kernel
theorem cont_test (x : UInt8) : (bits BinOp.and IntKind.u8 (x.toNat : Int) 192 != 128) = !ucont x := cont_all x.toNat x.toNat_lt
theorem or64 (n d : Nat) (hn : n < 524288) (hd : d < 64) : bits .or .i32 ((n : Int) * 64) (d : Int) = ((n * 64 + d : Nat) : Int) := by
  have h := i32_or_nat (n * 64) d (by omega) (by omega)
  have := Nat.shiftLeft_add_eq_or_of_lt (i := 6) (b := d) hd n
  rw [Nat.shiftLeft_eq] at this
  simp at this
  rw [← this] at h
  rw [← h]
  congr 1

set_option maxRecDepth 100000 in
set_option maxHeartbeats 2000000 in
theorem utake_any (a : Option Addr) (b off c : Nat) (l : List UInt8) (p : Nat) (w : World) (hb : BytesAt w a b off l) (hl : l.length ≤ 140737488351232) (hp : p ≤ l.length) :
    Calls Try.prog 76 #[.slice a l.length c, .int .i64 (p : Int)] w fun r w' => r = .returned (utv l p) ∧ w = w' := by
  by_cases hlt : p < l.length
  · have hidx := fun (i : Nat) (W : World) (hi : i < l.length) => hb.idx l.length c rfl (i : Int) W (by omega) (by omega)
    have hcl := fun (i : Nat) (hi : i < l.length) => hb.2 i hi
    have i0 := fun W => hidx p W hlt
    have c0 := hcl p hlt
    rw [Int.toNat_natCast] at i0
    have e0 : l[p]?.getD 0 = byteAt l p := rfl
    rw [e0] at c0
    have hfirst := Lib.hid (first_any (byteAt l p) w)
    have hsec := Lib.hid (second_any (byteAt l p))
    have hlt' : (p : Int) < (l.length : Int) := by omega
    have hne : ((p : Int) == (l.length : Int)) = false := by simp; omega
    by_cases hn : ufirst (byteAt l p) = 0
    · have hu := utv_bad (l := l) (p := p) (e := 11) (by unfold uerr; rw [if_pos hlt, if_pos hn]) (by omega)
      rw [hu]
      rw [hn] at hfirst
      clear hu hn hidx hcl hsec hb e0 hlt
      go_enter Try.func76, Try.ntmps76
      go_wp2_with (go_at_call 86; refine hfirst.out.mono ?_; rintro r w' ⟨rfl, rfl⟩)
      go_ret3
      exact ⟨rfl, rfl⟩
    · have hu : uerr l p = ustat l p (ufirst (byteAt l p) - 1) := by unfold uerr; rw [if_pos hlt, if_neg hn]
      have hlen : ulen l p = ufirst (byteAt l p) := rfl
      have hle := ufirst_le (byteAt l p)
      obtain ⟨n, hnn⟩ : ∃ n, n = ufirst (byteAt l p) := ⟨_, rfl⟩
      rw [← hnn] at hn hu hlen hle hfirst
      have hn0 : ((n : Int) == 0) = false := by simp; omega
      have hv0 : (ufv (byteAt l p) : Int) = (uval l p 0 : Int) := rfl
      rw [hv0] at hfirst
      replace hu := Lib.hid hu
      replace hlen := Lib.hid hlen
      have hbh := Lib.hid hb
      have hidx' := Lib.hid hidx
      have hcl' := Lib.hid hcl
      clear hnn hv0 hidx hcl hb e0
      go_enter Try.func76, Try.ntmps76
      go_wp2_with (go_at_call 86; refine hfirst.out.mono ?_; rintro r w' ⟨rfl, rfl⟩)
      go_loop [4, 8, 9] (fun v i x => ∃ k : Nat, k ≤ n - 1 ∧ p + k < l.length ∧ i = .int .i64 ((k : Int) + 1) ∧ v = .int .i32 (uval l p k : Int) ∧ Hid (ustat l p k = 0)) (fun _ i _ => 4 - (intOf i).toNat)
      case atStart => exact ⟨0, by omega, by omega, rfl, rfl, rfl⟩
      case round =>
        obtain ⟨k, hk, hpk, rfl, rfl, hst⟩ := hrel
        clear hfirst
        by_cases hkn : k < n - 1
        · have hk2 : (k : Int) + 1 < (n : Int) := by omega
          by_cases hend : p + (k + 1) = l.length
          · have hs : ustep l p (k + 1) = 10 := by unfold ustep; rw [if_neg (by omega)]
            have hbad := ustat_bad (l := l) (p := p) (i := k + 1) (n := n) (by omega) (by omega) hst.out (by omega)
            have huv := Lib.hid (utv_bad (hu.out.trans (hbad.trans hs)) (by omega))
            have ht : ((p : Int) + ((k : Int) + 1) == (l.length : Int)) = true := by simp; omega
            clear hbad hs hst hend hn
            go_wp2
            go_ret3
            rw [huv.out]
            exact ⟨rfl, rfl⟩
          · have hin : p + (k + 1) < l.length := by omega
            have hin' : (p : Int) + ((k : Int) + 1) < (l.length : Int) := by omega
            have ht : ((p : Int) + ((k : Int) + 1) == (l.length : Int)) = false := by simp; omega
            have i1 := fun W => hidx'.out (p + (k + 1)) W hin
            have c1 := hcl'.out (p + (k + 1)) hin
            rw [show ((p + (k + 1) : Nat) : Int) = (p : Int) + ((k : Int) + 1) from by omega, show ((p : Int) + ((k : Int) + 1)).toNat = p + (k + 1) from by omega] at i1
            have e1 : l[p + (k + 1)]?.getD 0 = byteAt l (p + (k + 1)) := rfl
            rw [e1] at c1
            have hct := cont_test (byteAt l (p + (k + 1)))
            have hsec' := Lib.hid (hsec.out (byteAt l (p + (k + 1))))
            have hss : ustep l p (k + 1) = if ucont (byteAt l (p + (k + 1))) = true ∧ (k + 1 = 1 → usec (byteAt l p) (byteAt l (p + (k + 1))) = true) then 0 else 11 := by unfold ustep; rw [if_pos hin]
            have huv1 : uval l p (k + 1) = uval l p k * 64 + (byteAt l (p + (k + 1))).toNat % 64 := rfl
            have hlow := u8_low (byteAt l (p + (k + 1))).toNat 63 6 (UInt8.toNat_lt _) rfl (by omega)
            rw [show (2 : Nat) ^ 6 = 64 from rfl, show ((63 : Nat) : Int) = 63 from rfl] at hlow
            obtain ⟨y, hy⟩ : ∃ y, y = byteAt l (p + (k + 1)) := ⟨_, rfl⟩
            rw [← hy] at c1 hct hsec' hss huv1 hlow
            clear e1 hy
            by_cases hcy : ucont y = true
            · rw [hcy] at hct
              have hct' : (bits BinOp.and IntKind.u8 (y.toNat : Int) 192 != 128) = false := hct
              clear hct
              have good : ustep l p (k + 1) = 0 → uval l p k < 524288 → True := fun _ _ => trivial
              have hvlt : uval l p k < 524288 := by
                have h1 := uval_lt l p k
                have h2 : (64 : Nat) ^ k ≤ 64 ^ 2 := Nat.pow_le_pow_right (by omega) (by omega)
                omega
              have hor := or64 (uval l p k) (y.toNat % 64) hvlt (Nat.mod_lt _ (by omega))
              rw [← huv1] at hor
              obtain ⟨v0, hv0⟩ : ∃ v, v = uval l p k := ⟨_, rfl⟩
              obtain ⟨v1, hv1⟩ : ∃ v, v = uval l p (k + 1) := ⟨_, rfl⟩
              obtain ⟨yl, hyl⟩ : ∃ v, v = y.toNat % 64 := ⟨_, rfl⟩
              have hyb : yl < 64 := by omega
              rw [← hyl] at hlow hor
              rw [← hv0, ← hv1] at hor
              rw [← hv0] at hvlt
              rw [← hv0]
              replace hv1 := Lib.hid hv1
              clear good huv1 hv0 hyl
              have fin : ustep l p (k + 1) = 0 → Hid (ustat l p (k + 1) = 0) := fun h => ustat_next hst.out h
              by_cases hk0 : k = 0
              · subst hk0
                rw [show (((0 : Nat) : Int) + 1) = 1 from rfl] at i1 ht hin' hk2
                rw [show (0 : Nat) + 1 = 1 from rfl] at i1 c1
                by_cases hus : usec (byteAt l p) y = true
                · have hfin := fin (by rw [hss, if_pos ⟨hcy, fun _ => hus⟩])
                  rw [hus] at hsec'
                  clear fin hss hcy hus
                  go_wp2_with (go_at_call 87; refine (hsec'.out _).mono ?_; rintro r w' ⟨rfl, rfl⟩)
                  go_round
                  case rel => exact ⟨0 + 1, by omega, by omega, by go_num, by rw [← hv1.out], hfin⟩
                  case measure => simp [intOf]
                · have hs : ustep l p (0 + 1) = 11 := by rw [hss, if_neg (fun h => hus (h.2 rfl))]
                  have hbad := ustat_bad (l := l) (p := p) (i := 0 + 1) (n := n) (by omega) (by omega) hst.out (by omega)
                  have huv := Lib.hid (utv_bad (hu.out.trans (hbad.trans hs)) (by omega))
                  have hus' : usec (byteAt l p) y = false := by simpa using hus
                  rw [hus'] at hsec'
                  clear fin hss hcy hus hbad hs hus' hst
                  go_wp2_with (go_at_call 87; refine (hsec'.out _).mono ?_; rintro r w' ⟨rfl, rfl⟩)
                  go_ret3
                  rw [huv.out]
                  exact ⟨rfl, rfl⟩
              · have hk1 : ((k : Int) + 1 == 1) = false := by simp; omega
                have hfin := fin (by rw [hss, if_pos ⟨hcy, fun h => by omega⟩])
                clear fin hss hcy
                go_wp2_with (go_at_call 87; refine (hsec'.out _).mono ?_; rintro r w' ⟨rfl, rfl⟩)
                go_round
                case rel => exact ⟨k + 1, by omega, by omega, by go_num, by rw [← hv1.out], hfin⟩
                case measure => simp [intOf]; omega
            · have hs : ustep l p (k + 1) = 11 := by rw [hss, if_neg (fun h => hcy h.1)]
              have hbad := ustat_bad (l := l) (p := p) (i := k + 1) (n := n) (by omega) (by omega) hst.out (by omega)
              have huv := Lib.hid (utv_bad (hu.out.trans (hbad.trans hs)) (by omega))
              have hcy' : ucont y = false := by simpa using hcy
              rw [hcy'] at hct
              have hct' : (bits BinOp.and IntKind.u8 (y.toNat : Int) 192 != 128) = true := hct
              clear hss hcy hbad hs hcy' hst hct huv1 hlow hsec'
              go_wp2
              go_ret3
              rw [huv.out]
              exact ⟨rfl, rfl⟩
        · obtain rfl : k = n - 1 := by omega
          have hge : ¬ ((n - 1 : Nat) : Int) + 1 < (n : Int) := by omega
          have huv := Lib.hid (utv_good (hu.out.trans hst.out))
          go_wp2
          go_ret3
          rw [huv.out, hlen.out]
          exact ⟨rfl, rfl⟩
  · obtain rfl : p = l.length := by omega
    have hu := utv_bad (l := l) (p := l.length) (e := 10) (by unfold uerr; rw [if_neg hlt]) (by omega)
    rw [hu]
    clear hu hb
    go_enter Try.func76, Try.ntmps76
    go_wp2
    go_ret3
    exact ⟨rfl, rfl⟩

end Go.Proofs.Ytmembanbemljoaa
