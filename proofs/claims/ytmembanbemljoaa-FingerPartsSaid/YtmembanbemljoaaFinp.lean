/- The walk of the law FingerParts. -/
import Derived.Test.YtmembanbemljoaaFinw
import Derived.Test.YtmembanbemljoaaOwn
namespace Go.Proofs.Ytmembanbemljoaa
open Go.RowKit
set_option linter.unusedVariables false
set_option linter.unusedSimpArgs false

theorem nib_dig : ∀ d : Nat, d < 16 → nib (dig d) = some d := by decide
theorem rdh_hexd (h : Nat) : ∀ n x, rdh (hexd n h) x = some (x * 16 ^ n + h % 16 ^ n) := by
  intro n
  induction n with
  | zero => intro x; simp [hexd, rdh]; omega
  | succ n ih =>
    intro x
    simp only [hexd, rdh]
    rw [nib_dig _ (Nat.mod_lt _ (by omega))]
    simp only []
    rw [ih]
    congr 1
    rw [Nat.pow_succ, Nat.mod_mul, Nat.add_mul, Nat.mul_assoc x, Nat.mul_comm 16]
    rw [Nat.mul_comm (h / 16 ^ n % 16)]
    omega
theorem readh_hexd (h : Nat) (hh : h < 18446744073709551616) : readh (hexd 16 h) = (h, true) := by
  unfold readh
  rw [if_pos (hexd_len h 16), rdh_hexd h 16 0]
  simp
  omega
theorem fsum_append (l m : List UInt8) : fsum (l ++ m) = fmore (fsum l) m := by
  unfold fsum fmore
  rw [List.foldl_append]

set_option maxHeartbeats 1000000 in
theorem fingerParts_walk (a1 a2 : Option Addr) (b1 o1 c1 b2 o2 c2 : Nat) (l1 l2 : List UInt8) (h : Nat) (w : World) (hb1 : BytesAt w a1 b1 o1 l1) (hb2 : BytesAt w a2 b2 o2 l2) (hh : h < 18446744073709551616) (hl1 : l1.length ≤ 9223372036854775807) (hl2 : l2.length ≤ 9223372036854775807) (hc1 : a1 = none → c1 = 0) (hc2 : a2 = none → c2 = 0) :
    Calls Try.prog 4 #[.slice a1 l1.length c1, .slice a2 l2.length c2, .int .u64 (h : Int)] w fun e w' => e = .returned (.bool true) ∧ Below w.heap.size w w' := by
  by_cases hs : l1.length ≤ 3000 ∧ l2.length ≤ 3000
  · obtain ⟨hs1, hs2⟩ := hs
    go_enter Try.func4, Try.ntmps4
    go_wp2_with fail
    refine (works16_any w).mono ?_
    rintro e wa ⟨rfl, hba⟩
    replace hb1 := hb1.below hba
    replace hb2 := hb2.below hba
    go_wp2_with fail
    refine (hex_any h wa hh).mono ?_
    rintro e wb ⟨rfl, hbb⟩
    replace hb1 := hb1.below hbb
    replace hb2 := hb2.below hbb
    go_wp2_with fail
    refine (read_any _ wb (by rw [str_size, hexd_len]; omega)).mono ?_
    rw [str_list, readh_hexd h hh]
    rintro e wc ⟨rfl, rfl⟩
    go_wp2_with fail
    refine (sum_any a1 b1 o1 c1 l1 wb (by omega) hb1).mono ?_
    rintro e wc ⟨rfl, rfl⟩
    go_wp2_with fail
    refine (more_any (fsum l1) a2 b2 o2 c2 l2 wb (fmore_lt _ _ fempty_lt) (by omega) hb2).mono ?_
    rintro e wc ⟨rfl, rfl⟩
    have ho := OwnB.made wb wb.heap.size wb.heap.size #[] [] 0 rfl (Nat.le_refl _) rfl rfl (by simp)
    have hA := (Below.refl wb.heap.size wb).alloc (Nat.le_refl _) (.cells #[] 5)
    have hb1' := hb1.below hA
    have hb2' := Lib.hid hb2
    have hsz : wb.heap.size ≤ (wb.alloc (.cells #[] 5)).heap.size := by simp
    replace hA := Lib.hid hA
    clear hb1 hb2
    have tok := trivial
    go_wp2_with (at_builtin; have _t := tok; refine wpList_appendB _ _ rfl rfl rfl _ _ [] l1 a1 b1 o1 l1.length c1 rfl rfl ho rfl hb1' hc1 (by simp; omega) hsz ?_; clear tok)
    intro a3 c3 w1 L1 hL1 ho1 hg1
    obtain rfl : L1 = l1 := hL1.out
    have hB := below_own ho hg1.out hA.out (Nat.le_refl _) hsz
    have hb2 := hb2'.out.below hB
    have hsz1 := hB.size
    replace hB := Lib.hid hB
    clear ho hL1 hg1 hb1' hsz hA hb2'
    go_wp2_with (at_builtin; refine wpList_appendB _ _ rfl rfl rfl _ _ L1 l2 a2 b2 o2 l2.length c2 rfl rfl ho1 rfl hb2 hc2 (by omega) hsz1 ?_)
    intro a3 c3 w2 l3 hl3 ho2 hg2
    have hC' := Lib.hid (below_own ho1 hg2.out hB.out (Nat.le_refl _) hsz1)
    obtain ⟨a3', b3, c3', he, hb3, -, -, -⟩ := ho2.parts
    simp only [Value.slice.injEq, true_and] at he
    obtain ⟨rfl, rfl⟩ := he
    have hsum := Lib.hid (fsum_append L1 l2)
    have hlen2 : l3.length ≤ 6000 := by rw [hl3.out, List.length_append]; omega
    rw [← hl3.out] at hsum
    clear ho1 hl3 hg2 hb2 hsz1 hB ho2 hc1 hc2
    go_wp2_with fail
    refine (sum_any a3 b3 0 c3 l3 w2 (by omega) hb3).mono ?_
    rintro e wd ⟨rfl, rfl⟩
    rw [hsum.out]
    go_wp2_with fail
    refine (more_any h none 0 0 0 [] w2 hh (by simp) ⟨fun h => absurd rfl h, fun j hj => by simp at hj⟩).mono ?_
    rintro e wd ⟨rfl, rfl⟩
    rw [show fmore h [] = h from rfl]
    go_wp2
    go_ret
    exact ⟨rfl, (hba.trans (hbb.mono hba.size)).trans (hC'.out.mono (Nat.le_trans hba.size hbb.size))⟩
  · by_cases hs1 : l1.length ≤ 3000
    · have hs2 : 3000 < l2.length := by omega
      clear hs
      go_enter Try.func4, Try.ntmps4
      go_wp2_with fail
      refine (works16_any w).mono ?_
      rintro e wa ⟨rfl, hba⟩
      go_wp2
      all_goals (go_ret; exact ⟨rfl, hba⟩)
    · clear hs
      go_enter Try.func4, Try.ntmps4
      go_wp2_with fail
      refine (works16_any w).mono ?_
      rintro e wa ⟨rfl, hba⟩
      go_wp2
      all_goals (go_ret; exact ⟨rfl, hba⟩)

end Go.Proofs.Ytmembanbemljoaa
