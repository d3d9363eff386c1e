/- jlex.Quote: a text as a word. -/
import Derived.Test.YtmembanbemljoaaWrd
import Derived.Test.YtmembanbemljoaaPutb
namespace Go.Proofs.Ytmembanbemljoaa
open Go.RowKit
set_option linter.unusedVariables false
set_option linter.unusedSimpArgs false

def hexD (n : Nat) : UInt8 := if n < 10 then (48 + n).toUInt8 else (87 + n).toUInt8
/-- What a byte of a text is written as. -/
def qByte (c : UInt8) : List UInt8 :=
  if c.toNat = 34 then [92, 34] else if c.toNat = 92 then [92, 92] else if c.toNat = 8 then [92, 98] else if c.toNat = 12 then [92, 102] else if c.toNat = 10 then [92, 110] else if c.toNat = 13 then [92, 114] else if c.toNat = 9 then [92, 116]
  else if c.toNat < 32 then [92, 117, 48, 48, hexD (c.toNat / 16), hexD (c.toNat % 16)] else [c]
def mQuote (s : List UInt8) : List UInt8 := 34 :: s.flatMap qByte ++ [34]
theorem qByte_len (c : UInt8) : (qByte c).length ≤ 6 := by
  unfold qByte
  repeat' split
  all_goals simp
def mIdx (y : Int) : Int := Lib.indexByte [34, 92, 47, 8, 12, 10, 13, 9] y.toNat.toUInt8
theorem mIdx_any (y : Int) (w : World) :
    Calls Try.prog 42 #[.string ⟨#[34, 92, 47, 8, 12, 10, 13, 9]⟩, .int .u8 y] w fun r w' => r = .returned (.int .i64 (mIdx y)) ∧ w = w' :=
  indexByte_any _ y w
theorem mIdx_none : ∀ y : Nat, y < 256 → (y = 34 ∨ y = 92 ∨ y = 47 ∨ y = 8 ∨ y = 12 ∨ y = 10 ∨ y = 13 ∨ y = 9) ∨ mIdx (y : Int) = -1 := by decide +kernel

def QuoRel (w : World) (base : Nat) (T0 : List UInt8) (s : List UInt8) (v t : Value) (wr : World) : Prop :=
  ∃ (k : Nat) (a : Option Addr) (n c : Nat) (T : List UInt8), t = .int .i64 (k : Int) ∧ v = .slice a n c ∧ k ≤ s.length ∧ T = T0 ++ 34 :: (s.take k).flatMap qByte ∧ T.length ≤ T0.length + 1 + 6 * k ∧ OwnB wr base v T ∧ Below base w wr
def QuoPost (w : World) (base : Nat) (M : List UInt8) (r : Ending) (w' : World) : Prop := ∃ a c L, r = .returned (.slice a L.length c) ∧ L = M ∧ OwnB w' base (.slice a L.length c) L ∧ Below base w w'
theorem take_next {s : List UInt8} {k : Nat} {x : UInt8} (h : s[k]? = some x) : (s.take (k + 1)).flatMap qByte = (s.take k).flatMap qByte ++ qByte x := by
  have hk : k < s.length := by
    rcases Nat.lt_or_ge k s.length with h' | h'
    · exact h'
    · rw [List.getElem?_eq_none h'] at h; simp at h
  rw [List.take_succ_eq_append_getElem hk, List.flatMap_append]
  rw [List.getElem?_eq_getElem hk] at h
  simp at h
  rw [h]
  simp
set_option maxRecDepth 100000 in
set_option maxHeartbeats 8000000 in
theorem quote_any {w : World} {base : Nat} {v : Value} {T0 : List UInt8} (s : ByteArray) (ho : OwnB w base v T0) (hbase : base ≤ w.heap.size) (hT0 : T0.length ≤ 1000000) (hs : s.size ≤ 1000000) :
    Calls Try.prog 28 #[v, .string s] w (QuoPost w base (T0 ++ mQuote s.data.toList)) := by
  obtain ⟨K0, hK0⟩ : ∃ K, w.heap.size = K := ⟨_, rfl⟩
  have hB0 := Lib.hid fun o => (Below.refl base w).alloc hbase o
  replace ho := Lib.hid ho
  have hsl : s.data.toList.length = s.size := Array.length_toList
  go_enter Try.func28, Try.ntmps28
  go_wp2_with (at_builtin; refine wpList_appendB _ _ rfl rfl rfl _ _ T0 [34] (some ⟨K0, 0, none⟩) K0 0 1 1 rfl rfl (by exact ho.out.alloc _) rfl (by exact newByte 34 34 rfl w K0 hK0) (by simp) (by simp; omega) (by simp; omega) ?_)
  intro a1 c1 w1 L1 hL1 hown1 hg1
  have hB1 := Lib.hid (below_own (w := w.alloc _) (ho.out.alloc _) hg1.out (hB0.out _) (Nat.le_refl _) (by simp; omega))
  replace hown1 := Lib.hid hown1
  clear hg1
  have h0 : QuoRel w base T0 s.data.toList (.slice a1 L1.length c1) (.int .i64 0) w1 := ⟨0, _, _, _, L1, rfl, rfl, by omega, by rw [hL1.out]; simp, by rw [hL1.out]; simp, hown1.out, hB1.out⟩
  replace h0 := Lib.hid h0
  clear hown1 hB1 ho hB0
  go_wp2_with fail
  go_loopw [0, 13] (fun v t wr => QuoRel w base T0 s.data.toList v t wr) (fun _ t _ => s.size - (intOf t).toNat)
  case atStart => exact h0.out
  case round =>
    obtain ⟨k, av, nv, cv, T, rfl, rfl, hk, hT, hTl, hown, hB⟩ := hrel
    clear h0
    obtain ⟨K, hK⟩ : ∃ K, wr.heap.size = K := ⟨_, rfl⟩
    have hbK : base ≤ K := by have := hB.size; omega
    replace hT := Lib.hid hT
    replace hown := Lib.hid hown
    have hB' := Lib.hid hB
    clear hB
    by_cases hlt : k < s.size
    · have hlti : (k : Int) < (s.size : Int) := by omega
      obtain ⟨x, hx⟩ : ∃ x, s.data.toList[k]? = some x := ⟨s.data.toList[k]'(by omega), List.getElem?_eq_getElem (by omega)⟩
      have hsx := fun W => idxStr s k (by omega) W
      rw [hx] at hsx
      replace hsx : ∀ W, (Instr.index 9 (.string s) (.int .i64 (k : Int))).run Try.prog W = .ok (.int .u8 (x.toNat : Int)) W := hsx
      have htn := take_next hx
      have hT2 : ∀ bs, qByte x = bs → T ++ bs = T0 ++ 34 :: (s.data.toList.take (k + 1)).flatMap qByte := by
        intro bs h
        rw [hT.out, htn, h]
        simp
      replace hT2 := Lib.hid hT2
      have hx256 := x.toNat_lt
      have hix := fun w => mIdx_any (x.toNat : Int) w
      have hnn := mIdx_none x.toNat x.toNat_lt
      replace hx := Lib.hid hx
      clear htn
      have hcs : x.toNat = 34 ∨ x.toNat = 92 ∨ x.toNat = 8 ∨ x.toNat = 12 ∨ x.toNat = 10 ∨ x.toNat = 13 ∨ x.toNat = 9 ∨ x.toNat = 47 ∨ (x.toNat ≠ 34 ∧ x.toNat ≠ 92 ∧ x.toNat ≠ 8 ∧ x.toNat ≠ 12 ∧ x.toNat ≠ 10 ∧ x.toNat ≠ 13 ∧ x.toNat ≠ 9 ∧ x.toNat ≠ 47 ∧ mIdx (x.toNat : Int) = -1) := by omega
      clear hnn
      rcases hcs with hc | hc | hc | hc | hc | hc | hc | hc | hc
      · have hnext := Lib.hid (show qByte x = [92, 34] from by unfold qByte; rw [hc]; rfl)
        rw [hc] at hix hsx
        replace hix := Lib.hid (show ∀ w, Calls Try.prog 42 #[.string ⟨#[34, 92, 47, 8, 12, 10, 13, 9]⟩, .int .u8 34] w fun r w' => r = .returned (.int .i64 0) ∧ w = w' from hix)
        have hse : ∀ W, (Instr.index 9 (.string ⟨#[34, 92, 47, 98, 102, 110, 114, 116]⟩) (.int .i64 0)).run Try.prog W = .ok (.int .u8 34) W := fun W => idxStr ⟨#[34, 92, 47, 98, 102, 110, 114, 116]⟩ 0 (by decide) W
        clear hc
        go_wp2_with (first | (go_at_call 42; refine (hix.out _).mono ?_; rintro r w' ⟨rfl, rfl⟩) | (at_builtin; refine wpList_appendB _ _ rfl rfl rfl _ _ T [92, 34] (some ⟨K, 0, none⟩) K 0 [92, 34].length [92, 34].length rfl rfl (by exact hown.out.alloc _) rfl (by exact BytesAt.made wr [92, 34] _ _ (0, 0) K hK rfl) (by simp) (by simp; omega) (by simp; omega) ?_))
        intro a2 c2 w2 L2 hL2 hown2 hg
        have hBn := Lib.hid (below_own (w := wr.alloc _) (hown.out.alloc _) hg.out (hB'.out.alloc (by omega) _) (Nat.le_refl _) (by simp; omega))
        replace hown2 := Lib.hid hown2
        clear hg
        go_wp2_with fail
        go_roundw
        case rel => exact ⟨k + 1, _, L2.length, c2, L2, rfl, rfl, by omega, by rw [hL2.out]; exact hT2.out _ hnext.out, by rw [hL2.out]; simp; omega, hown2.out, hBn.out⟩
        case measure => simp [intOf]; omega

      · have hnext := Lib.hid (show qByte x = [92, 92] from by unfold qByte; rw [hc]; rfl)
        rw [hc] at hix hsx
        replace hix := Lib.hid (show ∀ w, Calls Try.prog 42 #[.string ⟨#[34, 92, 47, 8, 12, 10, 13, 9]⟩, .int .u8 92] w fun r w' => r = .returned (.int .i64 1) ∧ w = w' from hix)
        have hse : ∀ W, (Instr.index 9 (.string ⟨#[34, 92, 47, 98, 102, 110, 114, 116]⟩) (.int .i64 1)).run Try.prog W = .ok (.int .u8 92) W := fun W => idxStr ⟨#[34, 92, 47, 98, 102, 110, 114, 116]⟩ 1 (by decide) W
        clear hc
        go_wp2_with (first | (go_at_call 42; refine (hix.out _).mono ?_; rintro r w' ⟨rfl, rfl⟩) | (at_builtin; refine wpList_appendB _ _ rfl rfl rfl _ _ T [92, 92] (some ⟨K, 0, none⟩) K 0 [92, 92].length [92, 92].length rfl rfl (by exact hown.out.alloc _) rfl (by exact BytesAt.made wr [92, 92] _ _ (0, 0) K hK rfl) (by simp) (by simp; omega) (by simp; omega) ?_))
        intro a2 c2 w2 L2 hL2 hown2 hg
        have hBn := Lib.hid (below_own (w := wr.alloc _) (hown.out.alloc _) hg.out (hB'.out.alloc (by omega) _) (Nat.le_refl _) (by simp; omega))
        replace hown2 := Lib.hid hown2
        clear hg
        go_wp2_with fail
        go_roundw
        case rel => exact ⟨k + 1, _, L2.length, c2, L2, rfl, rfl, by omega, by rw [hL2.out]; exact hT2.out _ hnext.out, by rw [hL2.out]; simp; omega, hown2.out, hBn.out⟩
        case measure => simp [intOf]; omega

      · have hnext := Lib.hid (show qByte x = [92, 98] from by unfold qByte; rw [hc]; rfl)
        rw [hc] at hix hsx
        replace hix := Lib.hid (show ∀ w, Calls Try.prog 42 #[.string ⟨#[34, 92, 47, 8, 12, 10, 13, 9]⟩, .int .u8 8] w fun r w' => r = .returned (.int .i64 3) ∧ w = w' from hix)
        have hse : ∀ W, (Instr.index 9 (.string ⟨#[34, 92, 47, 98, 102, 110, 114, 116]⟩) (.int .i64 3)).run Try.prog W = .ok (.int .u8 98) W := fun W => idxStr ⟨#[34, 92, 47, 98, 102, 110, 114, 116]⟩ 3 (by decide) W
        clear hc
        go_wp2_with (first | (go_at_call 42; refine (hix.out _).mono ?_; rintro r w' ⟨rfl, rfl⟩) | (at_builtin; refine wpList_appendB _ _ rfl rfl rfl _ _ T [92, 98] (some ⟨K, 0, none⟩) K 0 [92, 98].length [92, 98].length rfl rfl (by exact hown.out.alloc _) rfl (by exact BytesAt.made wr [92, 98] _ _ (0, 0) K hK rfl) (by simp) (by simp; omega) (by simp; omega) ?_))
        intro a2 c2 w2 L2 hL2 hown2 hg
        have hBn := Lib.hid (below_own (w := wr.alloc _) (hown.out.alloc _) hg.out (hB'.out.alloc (by omega) _) (Nat.le_refl _) (by simp; omega))
        replace hown2 := Lib.hid hown2
        clear hg
        go_wp2_with fail
        go_roundw
        case rel => exact ⟨k + 1, _, L2.length, c2, L2, rfl, rfl, by omega, by rw [hL2.out]; exact hT2.out _ hnext.out, by rw [hL2.out]; simp; omega, hown2.out, hBn.out⟩
        case measure => simp [intOf]; omega

      · have hnext := Lib.hid (show qByte x = [92, 102] from by unfold qByte; rw [hc]; rfl)
        rw [hc] at hix hsx
        replace hix := Lib.hid (show ∀ w, Calls Try.prog 42 #[.string ⟨#[34, 92, 47, 8, 12, 10, 13, 9]⟩, .int .u8 12] w fun r w' => r = .returned (.int .i64 4) ∧ w = w' from hix)
        have hse : ∀ W, (Instr.index 9 (.string ⟨#[34, 92, 47, 98, 102, 110, 114, 116]⟩) (.int .i64 4)).run Try.prog W = .ok (.int .u8 102) W := fun W => idxStr ⟨#[34, 92, 47, 98, 102, 110, 114, 116]⟩ 4 (by decide) W
        clear hc
        go_wp2_with (first | (go_at_call 42; refine (hix.out _).mono ?_; rintro r w' ⟨rfl, rfl⟩) | (at_builtin; refine wpList_appendB _ _ rfl rfl rfl _ _ T [92, 102] (some ⟨K, 0, none⟩) K 0 [92, 102].length [92, 102].length rfl rfl (by exact hown.out.alloc _) rfl (by exact BytesAt.made wr [92, 102] _ _ (0, 0) K hK rfl) (by simp) (by simp; omega) (by simp; omega) ?_))
        intro a2 c2 w2 L2 hL2 hown2 hg
        have hBn := Lib.hid (below_own (w := wr.alloc _) (hown.out.alloc _) hg.out (hB'.out.alloc (by omega) _) (Nat.le_refl _) (by simp; omega))
        replace hown2 := Lib.hid hown2
        clear hg
        go_wp2_with fail
        go_roundw
        case rel => exact ⟨k + 1, _, L2.length, c2, L2, rfl, rfl, by omega, by rw [hL2.out]; exact hT2.out _ hnext.out, by rw [hL2.out]; simp; omega, hown2.out, hBn.out⟩
        case measure => simp [intOf]; omega

      · have hnext := Lib.hid (show qByte x = [92, 110] from by unfold qByte; rw [hc]; rfl)
        rw [hc] at hix hsx
        replace hix := Lib.hid (show ∀ w, Calls Try.prog 42 #[.string ⟨#[34, 92, 47, 8, 12, 10, 13, 9]⟩, .int .u8 10] w fun r w' => r = .returned (.int .i64 5) ∧ w = w' from hix)
        have hse : ∀ W, (Instr.index 9 (.string ⟨#[34, 92, 47, 98, 102, 110, 114, 116]⟩) (.int .i64 5)).run Try.prog W = .ok (.int .u8 110) W := fun W => idxStr ⟨#[34, 92, 47, 98, 102, 110, 114, 116]⟩ 5 (by decide) W
        clear hc
        go_wp2_with (first | (go_at_call 42; refine (hix.out _).mono ?_; rintro r w' ⟨rfl, rfl⟩) | (at_builtin; refine wpList_appendB _ _ rfl rfl rfl _ _ T [92, 110] (some ⟨K, 0, none⟩) K 0 [92, 110].length [92, 110].length rfl rfl (by exact hown.out.alloc _) rfl (by exact BytesAt.made wr [92, 110] _ _ (0, 0) K hK rfl) (by simp) (by simp; omega) (by simp; omega) ?_))
        intro a2 c2 w2 L2 hL2 hown2 hg
        have hBn := Lib.hid (below_own (w := wr.alloc _) (hown.out.alloc _) hg.out (hB'.out.alloc (by omega) _) (Nat.le_refl _) (by simp; omega))
        replace hown2 := Lib.hid hown2
        clear hg
        go_wp2_with fail
        go_roundw
        case rel => exact ⟨k + 1, _, L2.length, c2, L2, rfl, rfl, by omega, by rw [hL2.out]; exact hT2.out _ hnext.out, by rw [hL2.out]; simp; omega, hown2.out, hBn.out⟩
        case measure => simp [intOf]; omega

      · have hnext := Lib.hid (show qByte x = [92, 114] from by unfold qByte; rw [hc]; rfl)
        rw [hc] at hix hsx
        replace hix := Lib.hid (show ∀ w, Calls Try.prog 42 #[.string ⟨#[34, 92, 47, 8, 12, 10, 13, 9]⟩, .int .u8 13] w fun r w' => r = .returned (.int .i64 6) ∧ w = w' from hix)
        have hse : ∀ W, (Instr.index 9 (.string ⟨#[34, 92, 47, 98, 102, 110, 114, 116]⟩) (.int .i64 6)).run Try.prog W = .ok (.int .u8 114) W := fun W => idxStr ⟨#[34, 92, 47, 98, 102, 110, 114, 116]⟩ 6 (by decide) W
        clear hc
        go_wp2_with (first | (go_at_call 42; refine (hix.out _).mono ?_; rintro r w' ⟨rfl, rfl⟩) | (at_builtin; refine wpList_appendB _ _ rfl rfl rfl _ _ T [92, 114] (some ⟨K, 0, none⟩) K 0 [92, 114].length [92, 114].length rfl rfl (by exact hown.out.alloc _) rfl (by exact BytesAt.made wr [92, 114] _ _ (0, 0) K hK rfl) (by simp) (by simp; omega) (by simp; omega) ?_))
        intro a2 c2 w2 L2 hL2 hown2 hg
        have hBn := Lib.hid (below_own (w := wr.alloc _) (hown.out.alloc _) hg.out (hB'.out.alloc (by omega) _) (Nat.le_refl _) (by simp; omega))
        replace hown2 := Lib.hid hown2
        clear hg
        go_wp2_with fail
        go_roundw
        case rel => exact ⟨k + 1, _, L2.length, c2, L2, rfl, rfl, by omega, by rw [hL2.out]; exact hT2.out _ hnext.out, by rw [hL2.out]; simp; omega, hown2.out, hBn.out⟩
        case measure => simp [intOf]; omega

      · have hnext := Lib.hid (show qByte x = [92, 116] from by unfold qByte; rw [hc]; rfl)
        rw [hc] at hix hsx
        replace hix := Lib.hid (show ∀ w, Calls Try.prog 42 #[.string ⟨#[34, 92, 47, 8, 12, 10, 13, 9]⟩, .int .u8 9] w fun r w' => r = .returned (.int .i64 7) ∧ w = w' from hix)
        have hse : ∀ W, (Instr.index 9 (.string ⟨#[34, 92, 47, 98, 102, 110, 114, 116]⟩) (.int .i64 7)).run Try.prog W = .ok (.int .u8 116) W := fun W => idxStr ⟨#[34, 92, 47, 98, 102, 110, 114, 116]⟩ 7 (by decide) W
        clear hc
        go_wp2_with (first | (go_at_call 42; refine (hix.out _).mono ?_; rintro r w' ⟨rfl, rfl⟩) | (at_builtin; refine wpList_appendB _ _ rfl rfl rfl _ _ T [92, 116] (some ⟨K, 0, none⟩) K 0 [92, 116].length [92, 116].length rfl rfl (by exact hown.out.alloc _) rfl (by exact BytesAt.made wr [92, 116] _ _ (0, 0) K hK rfl) (by simp) (by simp; omega) (by simp; omega) ?_))
        intro a2 c2 w2 L2 hL2 hown2 hg
        have hBn := Lib.hid (below_own (w := wr.alloc _) (hown.out.alloc _) hg.out (hB'.out.alloc (by omega) _) (Nat.le_refl _) (by simp; omega))
        replace hown2 := Lib.hid hown2
        clear hg
        go_wp2_with fail
        go_roundw
        case rel => exact ⟨k + 1, _, L2.length, c2, L2, rfl, rfl, by omega, by rw [hL2.out]; exact hT2.out _ hnext.out, by rw [hL2.out]; simp; omega, hown2.out, hBn.out⟩
        case measure => simp [intOf]; omega
      · have hnext := Lib.hid (show qByte x = [47] from by
          have e : x = 47 := by apply UInt8.toNat_inj.1; rw [hc]; rfl
          rw [e]; rfl)
        rw [hc] at hix hsx
        replace hix := Lib.hid (show ∀ w, Calls Try.prog 42 #[.string ⟨#[34, 92, 47, 8, 12, 10, 13, 9]⟩, .int .u8 47] w fun r w' => r = .returned (.int .i64 2) ∧ w = w' from hix)
        clear hc
        go_wp2_with (first | (go_at_call 42; refine (hix.out _).mono ?_; rintro r w' ⟨rfl, rfl⟩) | (at_builtin; refine wpList_appendB _ _ rfl rfl rfl _ _ T [47] (some ⟨K, 0, none⟩) K 0 [47].length [47].length rfl rfl (by exact hown.out.alloc _) rfl (by exact BytesAt.made wr [47] _ _ (0, 0) K hK rfl) (by simp) (by simp; omega) (by simp; omega) ?_))
        intro a2 c2 w2 L2 hL2 hown2 hg
        have hBn := Lib.hid (below_own (w := wr.alloc _) (hown.out.alloc _) hg.out (hB'.out.alloc (by omega) _) (Nat.le_refl _) (by simp; omega))
        replace hown2 := Lib.hid hown2
        clear hg
        go_wp2_with fail
        go_roundw
        case rel => exact ⟨k + 1, _, L2.length, c2, L2, rfl, rfl, by omega, by rw [hL2.out]; exact hT2.out _ hnext.out, by rw [hL2.out]; simp; omega, hown2.out, hBn.out⟩
        case measure => simp [intOf]; omega
      · obtain ⟨g1, g2, g3, g4, g5, g6, g7, g8, hc⟩ := hc
        rw [hc] at hix
        replace hix := Lib.hid hix
        clear hc
        by_cases h32 : x.toNat < 32
        · have hnext := Lib.hid (show qByte x = [92, 117, 48, 48, hexD (x.toNat / 16), hexD (x.toNat % 16)] from by unfold qByte; rw [if_neg g1, if_neg g2, if_neg g3, if_neg g4, if_neg g5, if_neg g6, if_neg g7, if_pos h32])
          have h32i : decide ((x.toNat : Int) < 32) = true := by simp; omega
          have hlow := u8_low x.toNat 15 4 (UInt8.toNat_lt _) rfl (by omega)
          rw [show (2 : Nat) ^ 4 = 16 from rfl, show ((15 : Nat) : Int) = 15 from rfl] at hlow
          have hxs : ∀ n : Nat, n < 16 → ∀ W, (Instr.index 9 (.string ⟨#[48, 49, 50, 51, 52, 53, 54, 55, 56, 57, 97, 98, 99, 100, 101, 102]⟩) (.int .u8 (n : Int))).run Try.prog W = .ok (.int .u8 ((hexD n).toNat : Int)) W := by
            intro n hn W
            have h1 := idxStr ⟨#[48, 49, 50, 51, 52, 53, 54, 55, 56, 57, 97, 98, 99, 100, 101, 102]⟩ n hn W .u8
            rw [h1]
            have h2 : ∀ n : Nat, n < 16 → ((ByteArray.mk #[48, 49, 50, 51, 52, 53, 54, 55, 56, 57, 97, 98, 99, 100, 101, 102]).data.toList[n]?.getD 0) = hexD n := by decide +kernel
            rw [h2 n hn]
          have hx1 := hxs (x.toNat / 16) (by omega)
          have hx2 := hxs (x.toNat % 16) (by omega)
          rw [show ((x.toNat / 16 : Nat) : Int) = (x.toNat : Int) / 16 from by omega] at hx1
          rw [show ((x.toNat % 16 : Nat) : Int) = (x.toNat : Int) % 16 from by omega] at hx2
          clear g1 g2 g3 g4 g5 g6 g7 g8 hxs
          go_wp2_with (first | (go_at_call 42; refine (hix.out _).mono ?_; rintro r w' ⟨rfl, rfl⟩))
          go_region_law (refine step_appendB (by rfl) _ _ (by rfl) (by rfl) base _ T [92, 117, 48, 48, hexD (x.toNat / 16), hexD (x.toNat % 16)] (some ⟨K, 0, none⟩) K 0 6 6 (by rfl) (by rfl) (by exact hown.out.alloc _) (by rfl) (by exact BytesAt.made wr [92, 117, 48, 48, hexD (x.toNat / 16), hexD (x.toNat % 16)] _ _ (0, 0) K hK rfl) (by simp) (by simp; omega) (by simp; omega) ?_; intro a2 c2 w2 L2 hL2 hown2 hg)
          all_goals
            have hBn := Lib.hid (below_own (w := (wr.alloc _).drew) (hown.out.alloc _) hg.out ((hB'.out.alloc (by omega) _).drew) (Nat.le_refl _) (by simp; omega))
            replace hown2 := Lib.hid hown2
            clear hg
            go_wp2_with fail
            go_roundw
            case rel => exact ⟨k + 1, _, L2.length, c2, L2, rfl, rfl, by omega, by rw [hL2.out]; exact hT2.out _ hnext.out, by rw [hL2.out]; simp; omega, hown2.out, hBn.out⟩
            case measure => simp [intOf]; omega
        · have hnext := Lib.hid (show qByte x = [x] from by unfold qByte; rw [if_neg g1, if_neg g2, if_neg g3, if_neg g4, if_neg g5, if_neg g6, if_neg g7, if_neg h32])
          have h32i : decide ((x.toNat : Int) < 32) = false := by simp; omega
          clear g1 g2 g3 g4 g5 g6 g7 g8
          replace h32 := Lib.hid h32
          go_wp2_with (first | (go_at_call 42; refine (hix.out _).mono ?_; rintro r w' ⟨rfl, rfl⟩) | (at_builtin; refine wpList_appendB _ _ rfl rfl rfl _ _ T [x] (some ⟨K, 0, none⟩) K 0 [x].length [x].length rfl rfl (by exact hown.out.alloc _) rfl (by exact BytesAt.made wr [x] _ _ (0, 0) K hK rfl) (by simp) (by simp; omega) (by simp; omega) ?_))
          intro a2 c2 w2 L2 hL2 hown2 hg
          have hBn := Lib.hid (below_own (w := wr.alloc _) (hown.out.alloc _) hg.out (hB'.out.alloc (by omega) _) (Nat.le_refl _) (by simp; omega))
          replace hown2 := Lib.hid hown2
          clear hg
          go_wp2_with fail
          go_roundw
          case rel => exact ⟨k + 1, _, L2.length, c2, L2, rfl, rfl, by omega, by rw [hL2.out]; exact hT2.out _ hnext.out, by rw [hL2.out]; simp; omega, hown2.out, hBn.out⟩
          case measure => simp [intOf]; omega
    · obtain rfl : k = s.data.toList.length := by omega
      have hTf := Lib.hid (show T ++ [34] = T0 ++ mQuote s.data.toList from by rw [hT.out, List.take_length]; unfold mQuote; simp)
      have hki : ¬ ((s.data.toList.length : Nat) : Int) < (s.size : Int) := by omega
      go_wp2_with (at_builtin; refine wpList_appendB _ _ rfl rfl rfl _ _ T [34] (some ⟨K, 0, none⟩) K 0 [34].length [34].length rfl rfl (by exact hown.out.alloc _) rfl (by exact BytesAt.made wr [34] _ _ (0, 0) K hK rfl) (by simp) (by simp; omega) (by simp; omega) ?_)
      intro a2 c2 w2 L2 hL2 hown2 hg
      have hBn := Lib.hid (below_own (w := wr.alloc _) (hown.out.alloc _) hg.out (hB'.out.alloc (by omega) _) (Nat.le_refl _) (by simp; omega))
      replace hown2 := Lib.hid hown2
      clear hg
      go_wp2_with fail
      go_ret
      exact ⟨_, _, L2, rfl, hL2.out.trans hTf.out, hown2.out, hBn.out⟩

end Go.Proofs.Ytmembanbemljoaa
