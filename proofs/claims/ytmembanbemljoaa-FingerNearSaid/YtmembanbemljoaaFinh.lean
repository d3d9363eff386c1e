/- The contracts of the fingerprint's digits: Hex, of the program and of the document. -/
import Derived.Test.YtmembanbemljoaaFinr
namespace Go.Proofs.Ytmembanbemljoaa
open Go.RowKit
set_option linter.unusedVariables false
set_option linter.unusedSimpArgs false

theorem and15 (x : Nat) (hx : x < 18446744073709551616) : bits BinOp.and IntKind.u64 (x : Int) 15 = ((x % 16 : Nat) : Int) := by
  have h := bits_and_u64_nat x 15 hx (by omega)
  rw [show x &&& 15 = x % 16 from Nat.and_two_pow_sub_one_eq_mod x 4] at h
  exact h
theorem hexShift (h k : Nat) (hh : h < 18446744073709551616) (hk : k < 16) : bits BinOp.and IntKind.u64 ((h : Int) / 2 ^ (60 - 4 * k)) 15 = ((h / 16 ^ (15 - k) % 16 : Nat) : Int) := by
  have e : (2 : Nat) ^ (60 - 4 * k) = 16 ^ (15 - k) := by
    rw [show 60 - 4 * k = 4 * (15 - k) from by omega, Nat.pow_mul]
  have h1 : ((h : Int) / 2 ^ (60 - 4 * k)) = ((h / 16 ^ (15 - k) : Nat) : Int) := by
    rw [← e]; simp
  rw [h1]
  exact and15 _ (Nat.lt_of_le_of_lt (Nat.div_le_self _ _) hh)
theorem hexd_at (h : Nat) : ∀ n j, j < n → (hexd n h)[j]? = some (dig (h / 16 ^ (n - 1 - j) % 16)) := by
  intro n
  induction n with
  | zero => intro j hj; omega
  | succ n ih =>
    intro j hj
    cases j with
    | zero => simp [hexd]
    | succ j =>
      have := ih j (by omega)
      simp only [hexd, List.getElem?_cons_succ]
      rw [this]
      congr 5
      omega
theorem hexd_len (h : Nat) : ∀ n, (hexd n h).length = n := by
  intro n; induction n with
  | zero => rfl
  | succ n ih => simp [hexd, ih]
/-- What the walk finds in the array when it is full. -/
theorem hex_bytes (h : Nat) (w : World) (cur : Array Value) (T : TypeId) (hsz : cur.size = 16) (hcur : ∀ j, j < 16 → cur[j]? = some (.int .u8 ((dig (h / 16 ^ (15 - j) % 16)).toNat : Int))) :
    BytesAt (w.alloc (.cells cur T)) (some ⟨w.heap.size, 0, none⟩) w.heap.size 0 (hexd 16 h) := by
  refine ⟨fun _ => rfl, fun j hj => ?_⟩
  rw [hexd_len] at hj
  rw [World.cell?_alloc_at (hn := rfl), Nat.zero_add, hcur j hj, hexd_at h 16 j hj]
  rfl

set_option maxHeartbeats 800000 in
theorem hex_any (h : Nat) (w : World) (hh : h < 18446744073709551616) :
    Calls Try.prog 21 #[.int .u64 h] w fun e w' => e = .returned (.string (str (hexd 16 h))) ∧ Below w.heap.size w w' := by
  go_enter Try.func21, Try.ntmps21
  go_wp2
  go_loopw [5] (fun i wr => ∃ (k : Nat) (cur : Array Value), k ≤ 16 ∧ i = .int .i64 k ∧ wr = w.alloc (.cells cur 73) ∧ cur.size = 16 ∧ ∀ j, j < k → cur[j]? = some (.int .u8 ((dig (h / 16 ^ (15 - j) % 16)).toNat : Int))) (fun i _ => 16 - (intOf i).toNat)
  case atStart => exact ⟨0, _, by omega, rfl, rfl, rfl, by intro j hj; omega⟩
  case round =>
    obtain ⟨k, cur, hk, rfl, rfl, hsz, hcur⟩ := hrel
    by_cases hlt : k < 16
    · have hb := hexShift h k hh hlt
      have hcur' := Lib.hid hcur
      have hsz' := Lib.hid hsz
      have hold : cur[k]? = some (cur[k]?.getD undef) := by rw [Array.getElem?_eq_getElem (by omega)]; rfl
      obtain ⟨old, hold'⟩ : ∃ u, u = cur[k]?.getD undef := ⟨_, rfl⟩
      rw [← hold'] at hold
      obtain ⟨d, hd⟩ : ∃ d, d = h / 16 ^ (15 - k) % 16 := ⟨_, rfl⟩
      have hdl : d < 16 := by omega
      rw [← hd] at hb
      have hidx := fun W => idxStr ⟨#[48, 49, 50, 51, 52, 53, 54, 55, 56, 57, 97, 98, 99, 100, 101, 102]⟩ d hdl W .u64
      have hdg : (((ByteArray.mk #[48, 49, 50, 51, 52, 53, 54, 55, 56, 57, 97, 98, 99, 100, 101, 102]).data.toList[d]?.getD 0).toNat : Int) = ((dig d).toNat : Int) := rfl
      rw [hdg] at hidx
      replace hd := Lib.hid hd
      clear hdg hold' hcur hsz
      go_wp2
      go_roundw
      case rel =>
        refine ⟨k + 1, _, by omega, by go_num, rfl, by simpa using hsz'.out, fun j hj => ?_⟩
        rw [Array.getElem?_setIfInBounds]
        have := hsz'.out
        split
        · subst j
          rw [if_pos (by omega), hd.out]
        · exact hcur'.out j (by omega)
      case measure => simp [intOf]; omega
    · obtain rfl : k = 16 := by omega
      have hby := hex_bytes h w cur 73 hsz hcur
      have hcv := hby.toStr 16 16 (by rw [hexd_len])
      clear hcur hby hsz
      go_wp2
      go_ret
      exact ⟨rfl, (Below.refl _ _).alloc (Nat.le_refl _) _⟩

/-- One byte in a new block reads as a string of one byte. -/
theorem oneByte (w : World) (x : Nat) (hx : x < 256) (c : Nat) :
    (convert 22 9 (.slice (some ⟨w.heap.size, 0, none⟩) 1 c)).run Try.prog (w.alloc (.cells #[.int .u8 (x : Int)] 5)) = .ok (.string (str [x.toUInt8])) (w.alloc (.cells #[.int .u8 (x : Int)] 5)) := by
  refine BytesAt.toStr (b := w.heap.size) (off := 0) ⟨fun _ => rfl, fun j hj => ?_⟩ 1 c rfl
  have : j = 0 := by simp at hj; omega
  subst this
  rw [World.cell?_alloc_at (hn := rfl)]
  have e : x % 256 = x := by omega
  simp [e]
theorem str_append (l m : List UInt8) : str l ++ str m = str (l ++ m) := ByteArray.mk_append_mk l m
theorem dig_val (d : Nat) (hd : d < 16) : dig d = (if d < 10 then d + 48 else d + 87).toUInt8 := by
  revert d; decide

theorem strAdd (l m : List UInt8) (h : l.length + m.length ≤ 9223372036854775807) (W : World) : (Op.stringOp .add (str l) (str m)).run Try.prog W = .ok (.string (str (l ++ m))) W := by
  rw [run_string_add_sum W (str l) (str m) (by rw [str_size, str_size]; exact h), str_append]

set_option maxHeartbeats 800000 in
theorem refHex_any (h : Nat) (w : World) (hh : h < 18446744073709551616) :
    Calls Try.prog 22 #[.int .u64 h] w fun e w' => e = .returned (.string (str (hexd 16 h))) ∧ Below w.heap.size w w' := by
  go_enter Try.func22, Try.ntmps22
  go_wp2
  go_loopw [0, 3, 4] (fun x s i wr => ∃ k : Nat, k ≤ 16 ∧ i = .int .i64 k ∧ x = .int .u64 ((h / 16 ^ k : Nat) : Int) ∧ s = .string (str (hexd k h)) ∧ Below w.heap.size w wr) (fun _ _ i _ => 16 - (intOf i).toNat)
  case atStart => exact ⟨0, by omega, rfl, by simp, rfl, Below.refl _ _⟩
  case round =>
    obtain ⟨k, hk, rfl, rfl, rfl, hbel⟩ := hrel
    by_cases hlt : k < 16
    · have hbound : h / 16 ^ k < 18446744073709551616 := Nat.lt_of_le_of_lt (Nat.div_le_self _ _) hh
      have hnext := Lib.hid (show h / 16 ^ (k + 1) = h / 16 ^ k / 16 by rw [Nat.pow_succ, Nat.div_div_eq_div_mul])
      have hd := Lib.hid (show hexd (k + 1) h = dig (h / 16 ^ k % 16) :: hexd k h from rfl)
      have hsz := (hexd_len h k)
      obtain ⟨y, hy⟩ : ∃ y, y = h / 16 ^ k := ⟨_, rfl⟩
      rw [← hy] at hbound hnext hd ⊢
      obtain ⟨S, hS⟩ : ∃ S, S = hexd k h := ⟨_, rfl⟩
      rw [← hS] at hsz hd ⊢
      have hcat := fun d W => strAdd [d] S (by simp; omega) W
      clear hy hS hsz
      by_cases h10 : y % 16 < 10
      · have hone := fun W c => oneByte W (y % 16 + 48) (by omega) c
        obtain ⟨D, hD⟩ : ∃ D, D = (y % 16 + 48).toUInt8 := ⟨_, rfl⟩
        rw [← hD] at hone
        have hdv := dig_val (y % 16) (by omega)
        rw [if_pos h10] at hdv
        rw [← hD] at hdv
        replace hdv := Lib.hid hdv
        clear hD
        rw [show ((y % 16 + 48 : Nat) : Int) = (y : Int) % 16 + 48 from by omega] at hone
        go_wp2
        go_roundw
        case rel =>
          refine ⟨k + 1, by omega, by go_num, ?_, ?_, ?_⟩
          · rw [hnext.out]; go_num
          · rw [hd.out, hdv.out]
          · exact hbel.alloc hbel.size _
        case measure => simp [intOf]; omega
      · have hone := fun W c => oneByte W (y % 16 + 87) (by omega) c
        obtain ⟨D, hD⟩ : ∃ D, D = (y % 16 + 87).toUInt8 := ⟨_, rfl⟩
        rw [← hD] at hone
        have hdv := dig_val (y % 16) (by omega)
        rw [if_neg h10] at hdv
        rw [← hD] at hdv
        replace hdv := Lib.hid hdv
        clear hD
        rw [show ((y % 16 + 87 : Nat) : Int) = (y : Int) % 16 + 87 from by omega] at hone
        go_wp2
        go_roundw
        case rel =>
          refine ⟨k + 1, by omega, by go_num, ?_, ?_, ?_⟩
          · rw [hnext.out]; go_num
          · rw [hd.out, hdv.out]
          · exact hbel.alloc hbel.size _
        case measure => simp [intOf]; omega
    · obtain rfl : k = 16 := by omega
      go_wp2
      go_ret
      exact ⟨rfl, hbel⟩

end Go.Proofs.Ytmembanbemljoaa
