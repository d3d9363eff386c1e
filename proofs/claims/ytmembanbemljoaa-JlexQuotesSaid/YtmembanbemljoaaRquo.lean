/- The reference's Quote. -/
import Derived.Test.YtmembanbemljoaaQuo
namespace Go.Proofs.Ytmembanbemljoaa
open Go.RowKit
set_option linter.unusedVariables false
set_option linter.unusedSimpArgs false

def RQuoPost (w : World) (M : List UInt8) (r : Ending) (w' : World) : Prop := r = .returned (.string (str M)) ∧ Below w.heap.size w w'
set_option maxRecDepth 100000 in
set_option maxHeartbeats 8000000 in
theorem rquote_any {w : World} (s : ByteArray) (hs : s.size ≤ 1000000) :
    Calls Try.prog 29 #[.string s] w (RQuoPost w (mQuote s.data.toList)) := by
  obtain ⟨base, hbs⟩ : ∃ K, w.heap.size = K := ⟨_, rfl⟩
  have hsl : s.data.toList.length = s.size := Array.length_toList
  have h0 : QuoRel w base [] s.data.toList (.slice (some ⟨base, 0, none⟩) 1 1) (.int .i64 0) (w.alloc (.cells #[.int .u8 34] 5)) :=
    ⟨0, _, _, _, [34], rfl, rfl, by omega, rfl, by simp, OwnB.made w base base #[.int .u8 34] [34] 1 hbs (Nat.le_refl _) rfl rfl (by decide), (Below.refl base w).alloc (by omega) _⟩
  replace h0 := Lib.hid h0
  go_enter Try.func29, Try.ntmps29
  go_wp2_with fail
  go_loopw [4, 5] (fun v t wr => QuoRel w base [] s.data.toList v t wr) (fun _ t _ => s.size - (intOf t).toNat)
  case atStart => exact h0.out
  case round =>
    obtain ⟨k, av, nv, cv, T, rfl, rfl, hk, hT, hTl, hown, hB⟩ := hrel
    clear h0
    obtain ⟨K, hK⟩ : ∃ K, wr.heap.size = K := ⟨_, rfl⟩
    have hbK : base ≤ K := by have := hB.size; omega
    rw [List.length_nil] at hTl
    replace hT := Lib.hid hT
    replace hown := Lib.hid hown
    have hB' := Lib.hid hB
    clear hB
    by_cases hlt : k < s.size
    · have hlti : (k : Int) < (s.size : Int) := by omega
      obtain ⟨x, hx⟩ : ∃ x, s.data.toList[k]? = some x := ⟨s.data.toList[k]'(by omega), List.getElem?_eq_getElem (by omega)⟩
      have hsx := fun W => idxStr s k (by omega) W
      rw [hx] at hsx
      replace hsx : ∀ W, (Instr.index 9 (.string s) (.int .i64 (k : Int))).run Try.prog W = .ok (.int .u8 (x.toNat : Int)) W := hsx
      have htn := take_next hx
      have hT2 : ∀ bs, qByte x = bs → T ++ bs = [] ++ 34 :: (s.data.toList.take (k + 1)).flatMap qByte := by
        intro bs h
        rw [hT.out, htn, h]
        simp
      replace hT2 := Lib.hid hT2
      have hx256 := x.toNat_lt
      replace hx := Lib.hid hx
      clear htn
      have hcs : x.toNat = 34 ∨ x.toNat = 92 ∨ x.toNat = 8 ∨ x.toNat = 12 ∨ x.toNat = 10 ∨ x.toNat = 13 ∨ x.toNat = 9 ∨ (x.toNat ≠ 34 ∧ x.toNat ≠ 92 ∧ x.toNat ≠ 8 ∧ x.toNat ≠ 12 ∧ x.toNat ≠ 10 ∧ x.toNat ≠ 13 ∧ x.toNat ≠ 9) := by omega
      rcases hcs with hc | hc | hc | hc | hc | hc | hc | hc
      · have hnext := Lib.hid (show qByte x = [92, 34] from by unfold qByte; rw [hc]; rfl)
        rw [hc] at hsx
        clear hc
        go_wp2_with (at_builtin; refine wpList_appendB _ _ rfl rfl rfl _ _ T [92, 34] (some ⟨K, 0, none⟩) K 0 [92, 34].length [92, 34].length rfl rfl (by exact hown.out.alloc _) rfl (by exact BytesAt.made wr [92, 34] _ _ (0, 0) K hK rfl) (by simp) (by simp; omega) (by simp; omega) ?_)
        intro a2 c2 w2 L2 hL2 hown2 hg
        have hBn := Lib.hid (below_own (w := wr.alloc _) (hown.out.alloc _) hg.out (hB'.out.alloc (by omega) _) (Nat.le_refl _) (by simp; omega))
        replace hown2 := Lib.hid hown2
        clear hg
        go_wp2_with fail
        go_roundw
        case rel => exact ⟨k + 1, _, L2.length, c2, L2, rfl, rfl, by omega, by rw [hL2.out]; exact hT2.out _ hnext.out, by rw [hL2.out]; simp; omega, hown2.out, hBn.out⟩
        case measure => simp [intOf]; omega

      · have hnext := Lib.hid (show qByte x = [92, 92] from by unfold qByte; rw [hc]; rfl)
        rw [hc] at hsx
        clear hc
        go_wp2_with (at_builtin; refine wpList_appendB _ _ rfl rfl rfl _ _ T [92, 92] (some ⟨K, 0, none⟩) K 0 [92, 92].length [92, 92].length rfl rfl (by exact hown.out.alloc _) rfl (by exact BytesAt.made wr [92, 92] _ _ (0, 0) K hK rfl) (by simp) (by simp; omega) (by simp; omega) ?_)
        intro a2 c2 w2 L2 hL2 hown2 hg
        have hBn := Lib.hid (below_own (w := wr.alloc _) (hown.out.alloc _) hg.out (hB'.out.alloc (by omega) _) (Nat.le_refl _) (by simp; omega))
        replace hown2 := Lib.hid hown2
        clear hg
        go_wp2_with fail
        go_roundw
        case rel => exact ⟨k + 1, _, L2.length, c2, L2, rfl, rfl, by omega, by rw [hL2.out]; exact hT2.out _ hnext.out, by rw [hL2.out]; simp; omega, hown2.out, hBn.out⟩
        case measure => simp [intOf]; omega

      · have hnext := Lib.hid (show qByte x = [92, 98] from by unfold qByte; rw [hc]; rfl)
        rw [hc] at hsx
        clear hc
        go_wp2_with (at_builtin; refine wpList_appendB _ _ rfl rfl rfl _ _ T [92, 98] (some ⟨K, 0, none⟩) K 0 [92, 98].length [92, 98].length rfl rfl (by exact hown.out.alloc _) rfl (by exact BytesAt.made wr [92, 98] _ _ (0, 0) K hK rfl) (by simp) (by simp; omega) (by simp; omega) ?_)
        intro a2 c2 w2 L2 hL2 hown2 hg
        have hBn := Lib.hid (below_own (w := wr.alloc _) (hown.out.alloc _) hg.out (hB'.out.alloc (by omega) _) (Nat.le_refl _) (by simp; omega))
        replace hown2 := Lib.hid hown2
        clear hg
        go_wp2_with fail
        go_roundw
        case rel => exact ⟨k + 1, _, L2.length, c2, L2, rfl, rfl, by omega, by rw [hL2.out]; exact hT2.out _ hnext.out, by rw [hL2.out]; simp; omega, hown2.out, hBn.out⟩
        case measure => simp [intOf]; omega

      · have hnext := Lib.hid (show qByte x = [92, 102] from by unfold qByte; rw [hc]; rfl)
        rw [hc] at hsx
        clear hc
        go_wp2_with (at_builtin; refine wpList_appendB _ _ rfl rfl rfl _ _ T [92, 102] (some ⟨K, 0, none⟩) K 0 [92, 102].length [92, 102].length rfl rfl (by exact hown.out.alloc _) rfl (by exact BytesAt.made wr [92, 102] _ _ (0, 0) K hK rfl) (by simp) (by simp; omega) (by simp; omega) ?_)
        intro a2 c2 w2 L2 hL2 hown2 hg
        have hBn := Lib.hid (below_own (w := wr.alloc _) (hown.out.alloc _) hg.out (hB'.out.alloc (by omega) _) (Nat.le_refl _) (by simp; omega))
        replace hown2 := Lib.hid hown2
        clear hg
        go_wp2_with fail
        go_roundw
        case rel => exact ⟨k + 1, _, L2.length, c2, L2, rfl, rfl, by omega, by rw [hL2.out]; exact hT2.out _ hnext.out, by rw [hL2.out]; simp; omega, hown2.out, hBn.out⟩
        case measure => simp [intOf]; omega

      · have hnext := Lib.hid (show qByte x = [92, 110] from by unfold qByte; rw [hc]; rfl)
        rw [hc] at hsx
        clear hc
        go_wp2_with (at_builtin; refine wpList_appendB _ _ rfl rfl rfl _ _ T [92, 110] (some ⟨K, 0, none⟩) K 0 [92, 110].length [92, 110].length rfl rfl (by exact hown.out.alloc _) rfl (by exact BytesAt.made wr [92, 110] _ _ (0, 0) K hK rfl) (by simp) (by simp; omega) (by simp; omega) ?_)
        intro a2 c2 w2 L2 hL2 hown2 hg
        have hBn := Lib.hid (below_own (w := wr.alloc _) (hown.out.alloc _) hg.out (hB'.out.alloc (by omega) _) (Nat.le_refl _) (by simp; omega))
        replace hown2 := Lib.hid hown2
        clear hg
        go_wp2_with fail
        go_roundw
        case rel => exact ⟨k + 1, _, L2.length, c2, L2, rfl, rfl, by omega, by rw [hL2.out]; exact hT2.out _ hnext.out, by rw [hL2.out]; simp; omega, hown2.out, hBn.out⟩
        case measure => simp [intOf]; omega

      · have hnext := Lib.hid (show qByte x = [92, 114] from by unfold qByte; rw [hc]; rfl)
        rw [hc] at hsx
        clear hc
        go_wp2_with (at_builtin; refine wpList_appendB _ _ rfl rfl rfl _ _ T [92, 114] (some ⟨K, 0, none⟩) K 0 [92, 114].length [92, 114].length rfl rfl (by exact hown.out.alloc _) rfl (by exact BytesAt.made wr [92, 114] _ _ (0, 0) K hK rfl) (by simp) (by simp; omega) (by simp; omega) ?_)
        intro a2 c2 w2 L2 hL2 hown2 hg
        have hBn := Lib.hid (below_own (w := wr.alloc _) (hown.out.alloc _) hg.out (hB'.out.alloc (by omega) _) (Nat.le_refl _) (by simp; omega))
        replace hown2 := Lib.hid hown2
        clear hg
        go_wp2_with fail
        go_roundw
        case rel => exact ⟨k + 1, _, L2.length, c2, L2, rfl, rfl, by omega, by rw [hL2.out]; exact hT2.out _ hnext.out, by rw [hL2.out]; simp; omega, hown2.out, hBn.out⟩
        case measure => simp [intOf]; omega

      · have hnext := Lib.hid (show qByte x = [92, 116] from by unfold qByte; rw [hc]; rfl)
        rw [hc] at hsx
        clear hc
        go_wp2_with (at_builtin; refine wpList_appendB _ _ rfl rfl rfl _ _ T [92, 116] (some ⟨K, 0, none⟩) K 0 [92, 116].length [92, 116].length rfl rfl (by exact hown.out.alloc _) rfl (by exact BytesAt.made wr [92, 116] _ _ (0, 0) K hK rfl) (by simp) (by simp; omega) (by simp; omega) ?_)
        intro a2 c2 w2 L2 hL2 hown2 hg
        have hBn := Lib.hid (below_own (w := wr.alloc _) (hown.out.alloc _) hg.out (hB'.out.alloc (by omega) _) (Nat.le_refl _) (by simp; omega))
        replace hown2 := Lib.hid hown2
        clear hg
        go_wp2_with fail
        go_roundw
        case rel => exact ⟨k + 1, _, L2.length, c2, L2, rfl, rfl, by omega, by rw [hL2.out]; exact hT2.out _ hnext.out, by rw [hL2.out]; simp; omega, hown2.out, hBn.out⟩
        case measure => simp [intOf]; omega
      · obtain ⟨g1, g2, g3, g4, g5, g6, g7⟩ := hc
        have y0 : ((x.toNat : Int) == 34) = false := by simp; omega
        have y1 : ((x.toNat : Int) == 92) = false := by simp; omega
        have y2 : ((x.toNat : Int) == 8) = false := by simp; omega
        have y3 : ((x.toNat : Int) == 12) = false := by simp; omega
        have y4 : ((x.toNat : Int) == 10) = false := by simp; omega
        have y5 : ((x.toNat : Int) == 13) = false := by simp; omega
        have y6 : ((x.toNat : Int) == 9) = false := by simp; omega
        by_cases h32 : x.toNat < 32
        · have hnext := Lib.hid (show qByte x = [92, 117, 48, 48, hexD (x.toNat / 16), hexD (x.toNat % 16)] from by unfold qByte; rw [if_neg g1, if_neg g2, if_neg g3, if_neg g4, if_neg g5, if_neg g6, if_neg g7, if_pos h32])
          have h32i : decide ((x.toNat : Int) < 32) = true := by simp; omega
          have hxs : ∀ n : Nat, n < 16 → ∀ W, (Instr.index 9 (.string ⟨#[48, 49, 50, 51, 52, 53, 54, 55, 56, 57, 97, 98, 99, 100, 101, 102]⟩) (.int .u8 (n : Int))).run Try.prog W = .ok (.int .u8 ((hexD n).toNat : Int)) W := by
            intro n hn W
            have h1 := idxStr ⟨#[48, 49, 50, 51, 52, 53, 54, 55, 56, 57, 97, 98, 99, 100, 101, 102]⟩ n hn W .u8
            rw [h1]
            have h2 : ∀ n : Nat, n < 16 → ((ByteArray.mk #[48, 49, 50, 51, 52, 53, 54, 55, 56, 57, 97, 98, 99, 100, 101, 102]).data.toList[n]?.getD 0) = hexD n := by decide +kernel
            rw [h2 n hn]
          have hx1 := hxs (x.toNat / 16) (by omega)
          have hx2 := hxs (x.toNat % 16) (by omega)
          rw [show ((x.toNat / 16 : Nat) : Int) = (x.toNat : Int) / 16 from by omega] at hx1
          rw [show ((x.toNat % 16 : Nat) : Int) = (x.toNat : Int) % 16 from by omega] at hx2
          have z1 : IntKind.u8.wrap ((x.toNat : Int) / 16) = (x.toNat : Int) / 16 := by simp [IntKind.wrap, IntKind.bits, IntKind.signed]; omega
          have z2 : (x.toNat : Int).tmod 16 = (x.toNat : Int) % 16 := Int.tmod_eq_emod_of_nonneg (by omega)
          clear g1 g2 g3 g4 g5 g6 g7 hxs
          go_wp2_with fail
          go_region_law (refine step_appendB (by rfl) _ _ (by rfl) (by rfl) base _ T [92, 117, 48, 48, hexD (x.toNat / 16), hexD (x.toNat % 16)] (some ⟨K, 0, none⟩) K 0 6 6 (by rfl) (by rfl) (by exact hown.out.alloc _) (by rfl) (by exact BytesAt.made wr [92, 117, 48, 48, hexD (x.toNat / 16), hexD (x.toNat % 16)] _ _ (0, 0) K hK rfl) (by simp) (by simp; omega) (by simp; omega) ?_; intro a2 c2 w2 L2 hL2 hown2 hg)
          all_goals
            have hBn := Lib.hid (below_own (w := (wr.alloc _).drew) (hown.out.alloc _) hg.out ((hB'.out.alloc (by omega) _).drew) (Nat.le_refl _) (by simp; omega))
            replace hown2 := Lib.hid hown2
            clear hg
            go_wp2_with fail
            go_roundw
            case rel => exact ⟨k + 1, _, L2.length, c2, L2, rfl, rfl, by omega, by rw [hL2.out]; exact hT2.out _ hnext.out, by rw [hL2.out]; simp; omega, hown2.out, hBn.out⟩
            case measure => simp [intOf]; omega
        · have hnext := Lib.hid (show qByte x = [x] from by unfold qByte; rw [if_neg g1, if_neg g2, if_neg g3, if_neg g4, if_neg g5, if_neg g6, if_neg g7, if_neg h32])
          have h32i : decide ((x.toNat : Int) < 32) = false := by simp; omega
          clear g1 g2 g3 g4 g5 g6 g7
          replace h32 := Lib.hid h32
          go_wp2_with (at_builtin; refine wpList_appendB _ _ rfl rfl rfl _ _ T [x] (some ⟨K, 0, none⟩) K 0 [x].length [x].length rfl rfl (by exact hown.out.alloc _) rfl (by exact BytesAt.made wr [x] _ _ (0, 0) K hK rfl) (by simp) (by simp; omega) (by simp; omega) ?_)
          intro a2 c2 w2 L2 hL2 hown2 hg
          have hBn := Lib.hid (below_own (w := wr.alloc _) (hown.out.alloc _) hg.out (hB'.out.alloc (by omega) _) (Nat.le_refl _) (by simp; omega))
          replace hown2 := Lib.hid hown2
          clear hg
          go_wp2_with fail
          go_roundw
          case rel => exact ⟨k + 1, _, L2.length, c2, L2, rfl, rfl, by omega, by rw [hL2.out]; exact hT2.out _ hnext.out, by rw [hL2.out]; simp; omega, hown2.out, hBn.out⟩
          case measure => simp [intOf]; omega
    · obtain rfl : k = s.data.toList.length := by omega
      have hTf := Lib.hid (show T ++ [34] = mQuote s.data.toList from by rw [hT.out, List.take_length]; unfold mQuote; simp)
      have hki : ¬ ((s.data.toList.length : Nat) : Int) < (s.size : Int) := by omega
      go_wp2_with (at_builtin; refine wpList_appendB _ _ rfl rfl rfl _ _ T [34] (some ⟨K, 0, none⟩) K 0 [34].length [34].length rfl rfl (by exact hown.out.alloc _) rfl (by exact BytesAt.made wr [34] _ _ (0, 0) K hK rfl) (by simp) (by simp; omega) (by simp; omega) ?_)
      intro a2 c2 w2 L2 hL2 hown2 hg
      have hBn := Lib.hid (below_own (w := wr.alloc _) (hown.out.alloc _) hg.out (hB'.out.alloc (by omega) _) (Nat.le_refl _) (by simp; omega))
      have hstr := hown2.toStr
      clear hg
      go_wp2_with fail
      go_ret
      refine ⟨?_, by rw [hbs]; exact hBn.out⟩
      rw [show mQuote s.data.toList = L2 from (hL2.out.trans hTf.out).symm]
      rfl

end Go.Proofs.Ytmembanbemljoaa
