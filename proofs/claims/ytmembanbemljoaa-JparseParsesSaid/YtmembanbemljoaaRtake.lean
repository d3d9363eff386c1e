/- The reference's Take. -/
import Derived.Test.YtmembanbemljoaaRefa
import Derived.Test.YtmembanbemljoaaRefA
namespace Go.Proofs.Ytmembanbemljoaa
open Go.RowKit
set_option linter.unusedVariables false
set_option linter.unusedSimpArgs false

theorem rtake_ret {W : World} {H : Nat} {v0 v1 v2 v3 v4 v5 : Value} (tmps : Array Value) (hz : tmps[4]?.getD undef = .pointer (some ⟨H, 0, none⟩)) (h5 : tmps[5]?.getD undef = v5) (hc : ∀ j, W.cell? ⟨H, j, none⟩ = (#[v0, v1, v2, v3, v4] : Array Value)[j]?) :
    (results Try.f25 tmps).run Try.prog W = .ok (.tuple #[.agg #[v0, v1, v2, v3, v4], v5]) W := by
  simp [results, Try.results25, go_sem, hz, hc, h5]
def sgn (j : Nat) : Nat := if j = 0 then 123 else if j = 1 then 125 else if j = 2 then 91 else if j = 3 then 93 else if j = 4 then 58 else 44
def RTk (l : List UInt8) (i : Nat) (w : World) (r : Ending) (w' : World) : Prop := r = .returned (.tuple #[(mTakeN l i).val, .int .i64 ((mTakeN l i).e : Int)]) ∧ Below w.heap.size w w'
theorem mLet_ref (l : List UInt8) (p : Nat) : mLet l p =
    if (sTrue.data.toList.isPrefixOf (l.drop p) && !isLet (byteAt l (p + sTrue.size))) = true then ⟨0, 7, 1, [], p + 4⟩
    else if (sFalse.data.toList.isPrefixOf (l.drop p) && !isLet (byteAt l (p + sFalse.size))) = true then ⟨0, 7, 0, [], p + 5⟩
    else if (sNull.data.toList.isPrefixOf (l.drop p) && !isLet (byteAt l (p + sNull.size))) = true then ⟨0, 8, 0, [], p + 4⟩
    else ⟨20, 0, 0, [], 0⟩ := by
  have first : ∀ (s : ByteArray) (x : UInt8) (xs : List UInt8), s.data.toList = x :: xs → s.data.toList.isPrefixOf (l.drop p) = true → byteAt l p = x := by
    intro s x xs e h
    rw [e] at h
    have := ((pre_iff _ p (by simp)).1 h).2 0 (by simp)
    simpa using this
  have t1 := first sTrue 116 [114, 117, 101] rfl
  have t2 := first sFalse 102 [97, 108, 115, 101] rfl
  have t3 := first sNull 110 [117, 108, 108] rfl
  rw [show sTrue.size = 4 from rfl, show sFalse.size = 5 from rfl, show sNull.size = 4 from rfl]
  unfold mLet mNamed
  cases h1 : sTrue.data.toList.isPrefixOf (l.drop p) with
  | true =>
    have e1 := t1 h1
    have h2 : sFalse.data.toList.isPrefixOf (l.drop p) = false := by
      cases h : sFalse.data.toList.isPrefixOf (l.drop p) with
      | false => rfl
      | true => have := t2 h; rw [e1] at this; exact absurd this (by decide)
    have h3 : sNull.data.toList.isPrefixOf (l.drop p) = false := by
      cases h : sNull.data.toList.isPrefixOf (l.drop p) with
      | false => rfl
      | true => have := t3 h; rw [e1] at this; exact absurd this (by decide)
    rw [h2, h3]
    cases h4 : isLet (byteAt l (p + 4)) <;> simp [h4]
  | false =>
    cases h2 : sFalse.data.toList.isPrefixOf (l.drop p) with
    | true =>
      have e1 := t2 h2
      have h3 : sNull.data.toList.isPrefixOf (l.drop p) = false := by
        cases h : sNull.data.toList.isPrefixOf (l.drop p) with
        | false => rfl
        | true => have := t3 h; rw [e1] at this; exact absurd this (by decide)
      rw [h3]
      cases h4 : isLet (byteAt l (p + 5)) <;> simp [h4]
    | false =>
      cases h3 : sNull.data.toList.isPrefixOf (l.drop p) with
      | true => cases h4 : isLet (byteAt l (p + 4)) <;> simp [h4]
      | false => simp
theorem nosign_next {c k : Nat} (h : ∀ j, j < k → c ≠ sgn j) (hk : c ≠ sgn k) : ∀ j, j < k + 1 → c ≠ sgn j := by
  intro j hj
  rcases Nat.lt_or_ge j k with h1 | h1
  · exact h j h1
  · obtain rfl : j = k := by omega
    exact hk
def SgRel (w : World) (H c : Nat) (t : Value) (wr : World) : Prop := ∃ k : Nat, t = .int .i64 (k : Int) ∧ k ≤ 6 ∧ (∀ j, j < k → c ≠ sgn j) ∧ Below H w wr ∧ Blk wr H #[.int .i64 0, .int .i64 0, .string ⟨#[]⟩, .int .i64 0, .int .i64 0] 40

variable {w : World} {a : Option Addr} {b off c : Nat} {l : List UInt8}
set_option maxRecDepth 100000 in
set_option maxHeartbeats 8000000 in
theorem rtake_in (hb : BytesAt w a b off l) (hap : l ≠ [] → b < w.heap.size) (hlen : l.length ≤ c) (hbig : l.length ≤ 1000000) (hnil : a = none → c = 0) (i : Nat) (hi : i ≤ l.length) :
    Calls Try.prog 25 #[.slice a l.length c, .int .i64 (i : Int)] w (RTk l i w) := by
  obtain ⟨H, hH⟩ : ∃ H, w.heap.size = H := ⟨_, rfl⟩
  have hz := fun C T => Blk.made w C T H hH
  have hB := fun o => (Below.refl H w).alloc (by omega) o
  have hbA := fun o => hb.keep (hB o) (by rw [← hH]; exact hap)
  have hbx := Lib.hid fun wr (h : Below H w wr) => hb.below (hH ▸ h)
  obtain ⟨m, hm⟩ : ∃ m, m = tw isWh l i := ⟨_, rfl⟩
  have hle := tw_le isWh l i hi
  have hend := tw_end isWh l i
  have hlt := tw_lt isWh l i
  have hwe : wEnd l i = i + m := by unfold wEnd; rw [hm]
  rw [← hm] at hle hend hlt
  have hT : mTakeN l i = if i + m = l.length then ⟨0, 11, 0, [], l.length, l.length⟩ else if (mWord l (i + m)).e = 0 then ⟨0, (mWord l (i + m)).k, (mWord l (i + m)).n, (mWord l (i + m)).s, i + m, (mWord l (i + m)).nx⟩ else ⟨(mWord l (i + m)).e, 0, 0, [], 0, 0⟩ := by unfold mTakeN; rw [hwe]
  have hidx := fun (k : Int) (W : World) => hb.idx l.length c rfl k W
  have hcl := fun o j h => (hbA o).2 j h
  replace hcl := Lib.hid hcl
  replace hT := Lib.hid hT
  replace hz := Lib.hid hz
  replace hB := Lib.hid hB
  replace hlt := Lib.hid hlt
  replace hend := Lib.hid hend
  have hd1 : decide (l.length < i) = false := by simp; omega
  have hd2 : decide ((i : Int) < 0) = false := by simp
  clear hb hm hwe hbA hap
  go_enter Try.func25, Try.ntmps25
  go_wp2
  go_loop [1] (fun t => ∃ j : Nat, j ≤ m ∧ t = .int .i64 (((i + j : Nat) : Int))) (fun t => l.length - (intOf t).toNat)
  case atStart => exact ⟨0, Nat.zero_le _, rfl⟩
  case round =>
    obtain ⟨j, hj, rfl⟩ := hrel
    by_cases hjm : j < m
    · obtain ⟨h1, h2⟩ := hlt.out j hjm
      have hcj := fun o => hcl.out o (i + j) h2
      have e0 : l[i + j]?.getD 0 = byteAt l (i + j) := rfl
      rw [e0] at hcj
      have hij : ((i + j : Nat) : Int) < (l.length : Int) := by omega
      obtain ⟨p, hp⟩ : ∃ p, p = i + j := ⟨_, rfl⟩
      rw [← hp] at h1 hcj hij ⊢
      have hw4 : (byteAt l p).toNat = 32 ∨ (byteAt l p).toNat = 9 ∨ (byteAt l p).toNat = 10 ∨ (byteAt l p).toNat = 13 := by unfold isWh at h1; simpa using h1
      replace hp := Lib.hid hp
      clear h1 e0
      rcases hw4 with hw4 | hw4 | hw4 | hw4
      all_goals
        rw [hw4] at hcj
        replace hw4 := Lib.hid hw4
        go_wp2_with fail
        go_round
        case rel => have := hp.out; exact ⟨j + 1, by omega, by congr 1; omega⟩
        case measure => have := hp.out; simp [intOf]; omega
    · obtain rfl : j = m := by omega
      clear hlt
      obtain ⟨p, hp⟩ : ∃ p, p = i + j := ⟨_, rfl⟩
      rw [← hp] at hle hend hT ⊢
      by_cases hpe : p = l.length
      · have hpe' : ((p : Int) == (l.length : Int)) = true := by simp; omega
        have hpl : ¬ ((p : Int) < (l.length : Int)) := by omega
        rw [if_pos hpe] at hT
        replace hpe := Lib.hid hpe
        clear hp hend hcl
        go_wp2_with fail
        refine bodyPost_ret (rtake_ret _ (by rfl) (by rfl) (fun j => (hz.out _ _).cell j)) rfl ?_
        unfold RTk
        rw [hT.out, hH]
        have := hpe.out
        subst this
        exact ⟨rfl, hB.out _⟩
      · have hlt2 : p < l.length := by omega
        have hlti : (p : Int) < (l.length : Int) := by omega
        have hwh := hend.out hlt2
        have hcj := fun o => hcl.out o p hlt2
        have e0' : l[p]?.getD 0 = byteAt l p := rfl
        rw [e0'] at hcj
        have hi0 := fun W => hidx (p : Int) W (by omega) (by omega)
        rw [Int.toNat_natCast] at hi0
        have hpe' : ((p : Int) == (l.length : Int)) = false := by simp; omega
        rw [if_neg hpe] at hT
        have hne : (byteAt l p).toNat ≠ 32 ∧ (byteAt l p).toNat ≠ 9 ∧ (byteAt l p).toNat ≠ 10 ∧ (byteAt l p).toNat ≠ 13 := by
          unfold isWh at hwh
          simpa using hwh
        obtain ⟨g1, g2, g3, g4⟩ := hne
        have y1 : (((byteAt l p).toNat : Int) == 32) = false := by simp; omega
        have y2 : (((byteAt l p).toNat : Int) == 9) = false := by simp; omega
        have y3 : (((byteAt l p).toNat : Int) == 10) = false := by simp; omega
        have y4 : (((byteAt l p).toNat : Int) == 13) = false := by simp; omega
        have hTs := Lib.hid fun (k : Nat) (h0 : k ≠ 0) (h : signOf (byteAt l p) = k) => (by
          have hm : mWord l p = ⟨0, k, 0, [], p + 1⟩ := by unfold mWord; rw [if_pos (by omega), h]
          rw [hT.out, hm]
          rfl : mTakeN l i = ⟨0, k, 0, [], p, p + 1⟩)
        have h0 : SgRel w H (byteAt l p).toNat (.int .i64 0) (w.alloc (.cells #[.int .i64 0, .int .i64 0, .string ⟨#[]⟩, .int .i64 0, .int .i64 0] 40)) := ⟨0, rfl, by omega, fun j hj => by omega, hB.out _, hz.out _ _⟩
        replace h0 := Lib.hid h0
        have hx256 := (byteAt l p).toNat_lt
        clear hend hcl hwh e0' hpe hp hjm hj hi g1 g2 g3 g4 hidx hz hB hd1 hd2
        go_wp2_with fail
        clear hcj
        go_loopw [7] (fun t wr => SgRel w H (byteAt l p).toNat t wr) (fun t _ => 6 - (intOf t).toNat)
        case atStart => exact h0.out
        case round =>
          obtain ⟨k, rfl, hk6, hno, hBr, hzr⟩ := hrel
          have hbr := hbx.out _ hBr
          have hcr := fun q => (hbr.drewN q).2 p hlt2
          have hcr0 := hbr.2 p hlt2
          have e0' : l[p]?.getD 0 = byteAt l p := rfl
          rw [e0'] at hcr0
          simp only [e0'] at hcr
          have hB' := Lib.hid hBr
          have hz' := Lib.hid hzr
          have hbb := Lib.hid hbr
          have cz := fun q j => (hzr.drewN q).cell j
          have fz := fun q j => (hzr.drewN q).free j
          clear h0 hbx hBr hzr hbr e0'
          have hcase : k = 0 ∨ k = 1 ∨ k = 2 ∨ k = 3 ∨ k = 4 ∨ k = 5 ∨ k = 6 := by omega
          clear hk6
          rcases hcase with rfl | rfl | rfl | rfl | rfl | rfl | rfl
          · -- the sign 0
            have hix : ∀ W, (Instr.index 9 (.string ⟨#[123, 125, 91, 93, 58, 44]⟩) (.int .i64 0)).run Try.prog W = .ok (.int .u8 123) W := fun W => idxStr ⟨#[123, 125, 91, 93, 58, 44]⟩ 0 (by decide) W
            by_cases hc : (byteAt l p).toNat = 123
            · have hci : ((123 : Int) == ((byteAt l p).toNat : Int)) = true := by rw [hc]; rfl
              have hsg : signOf (byteAt l p) = 1 := by
                unfold signOf
                rw [if_pos hc]
              have hTT := Lib.hid (hTs.out 1 (by decide) hsg)
              clear hsg
              replace hc := Lib.hid hc
              go_wp2_with fail
              go_quiet (fail)
              go_wp2_with fail
              refine bodyPost_ret (rtake_ret _ (by rfl) (by rfl) (put5_cell (hz'.out.drewN _) _ _ _ _ _)) rfl ?_
              unfold RTk
              rw [hTT.out, hH]
              exact ⟨rfl, below_put5 (below_drewN hB'.out _) (Nat.le_refl _) _ _ _ _ _⟩
            · have hci : ((123 : Int) == ((byteAt l p).toNat : Int)) = false := by simp; omega
              replace hc := Lib.hid hc
              go_wp2_with fail
              go_quiet (fail)
              go_wp2_with fail
              go_roundw
              case rel => exact ⟨1, rfl, by omega, nosign_next hno hc.out, below_drewN hB'.out _, hz'.out⟩
              case measure => simp [intOf]
          · -- the sign 1
            have hix : ∀ W, (Instr.index 9 (.string ⟨#[123, 125, 91, 93, 58, 44]⟩) (.int .i64 1)).run Try.prog W = .ok (.int .u8 125) W := fun W => idxStr ⟨#[123, 125, 91, 93, 58, 44]⟩ 1 (by decide) W
            by_cases hc : (byteAt l p).toNat = 125
            · have hci : ((125 : Int) == ((byteAt l p).toNat : Int)) = true := by rw [hc]; rfl
              have hno0 : (byteAt l p).toNat ≠ 123 := hno 0 (by decide)
              have hsg : signOf (byteAt l p) = 2 := by
                unfold signOf
                rw [if_neg hno0, if_pos hc]
              have hTT := Lib.hid (hTs.out 2 (by decide) hsg)
              clear hsg
              replace hc := Lib.hid hc
              go_wp2_with fail
              go_quiet (fail)
              go_wp2_with fail
              refine bodyPost_ret (rtake_ret _ (by rfl) (by rfl) (put5_cell (hz'.out.drewN _) _ _ _ _ _)) rfl ?_
              unfold RTk
              rw [hTT.out, hH]
              exact ⟨rfl, below_put5 (below_drewN hB'.out _) (Nat.le_refl _) _ _ _ _ _⟩
            · have hci : ((125 : Int) == ((byteAt l p).toNat : Int)) = false := by simp; omega
              replace hc := Lib.hid hc
              go_wp2_with fail
              go_quiet (fail)
              go_wp2_with fail
              go_roundw
              case rel => exact ⟨2, rfl, by omega, nosign_next hno hc.out, below_drewN hB'.out _, hz'.out⟩
              case measure => simp [intOf]
          · -- the sign 2
            have hix : ∀ W, (Instr.index 9 (.string ⟨#[123, 125, 91, 93, 58, 44]⟩) (.int .i64 2)).run Try.prog W = .ok (.int .u8 91) W := fun W => idxStr ⟨#[123, 125, 91, 93, 58, 44]⟩ 2 (by decide) W
            by_cases hc : (byteAt l p).toNat = 91
            · have hci : ((91 : Int) == ((byteAt l p).toNat : Int)) = true := by rw [hc]; rfl
              have hno0 : (byteAt l p).toNat ≠ 123 := hno 0 (by decide)
              have hno1 : (byteAt l p).toNat ≠ 125 := hno 1 (by decide)
              have hsg : signOf (byteAt l p) = 3 := by
                unfold signOf
                rw [if_neg hno0, if_neg hno1, if_pos hc]
              have hTT := Lib.hid (hTs.out 3 (by decide) hsg)
              clear hsg
              replace hc := Lib.hid hc
              go_wp2_with fail
              go_quiet (fail)
              go_wp2_with fail
              refine bodyPost_ret (rtake_ret _ (by rfl) (by rfl) (put5_cell (hz'.out.drewN _) _ _ _ _ _)) rfl ?_
              unfold RTk
              rw [hTT.out, hH]
              exact ⟨rfl, below_put5 (below_drewN hB'.out _) (Nat.le_refl _) _ _ _ _ _⟩
            · have hci : ((91 : Int) == ((byteAt l p).toNat : Int)) = false := by simp; omega
              replace hc := Lib.hid hc
              go_wp2_with fail
              go_quiet (fail)
              go_wp2_with fail
              go_roundw
              case rel => exact ⟨3, rfl, by omega, nosign_next hno hc.out, below_drewN hB'.out _, hz'.out⟩
              case measure => simp [intOf]
          · -- the sign 3
            have hix : ∀ W, (Instr.index 9 (.string ⟨#[123, 125, 91, 93, 58, 44]⟩) (.int .i64 3)).run Try.prog W = .ok (.int .u8 93) W := fun W => idxStr ⟨#[123, 125, 91, 93, 58, 44]⟩ 3 (by decide) W
            by_cases hc : (byteAt l p).toNat = 93
            · have hci : ((93 : Int) == ((byteAt l p).toNat : Int)) = true := by rw [hc]; rfl
              have hno0 : (byteAt l p).toNat ≠ 123 := hno 0 (by decide)
              have hno1 : (byteAt l p).toNat ≠ 125 := hno 1 (by decide)
              have hno2 : (byteAt l p).toNat ≠ 91 := hno 2 (by decide)
              have hsg : signOf (byteAt l p) = 4 := by
                unfold signOf
                rw [if_neg hno0, if_neg hno1, if_neg hno2, if_pos hc]
              have hTT := Lib.hid (hTs.out 4 (by decide) hsg)
              clear hsg
              replace hc := Lib.hid hc
              go_wp2_with fail
              go_quiet (fail)
              go_wp2_with fail
              refine bodyPost_ret (rtake_ret _ (by rfl) (by rfl) (put5_cell (hz'.out.drewN _) _ _ _ _ _)) rfl ?_
              unfold RTk
              rw [hTT.out, hH]
              exact ⟨rfl, below_put5 (below_drewN hB'.out _) (Nat.le_refl _) _ _ _ _ _⟩
            · have hci : ((93 : Int) == ((byteAt l p).toNat : Int)) = false := by simp; omega
              replace hc := Lib.hid hc
              go_wp2_with fail
              go_quiet (fail)
              go_wp2_with fail
              go_roundw
              case rel => exact ⟨4, rfl, by omega, nosign_next hno hc.out, below_drewN hB'.out _, hz'.out⟩
              case measure => simp [intOf]
          · -- the sign 4
            have hix : ∀ W, (Instr.index 9 (.string ⟨#[123, 125, 91, 93, 58, 44]⟩) (.int .i64 4)).run Try.prog W = .ok (.int .u8 58) W := fun W => idxStr ⟨#[123, 125, 91, 93, 58, 44]⟩ 4 (by decide) W
            by_cases hc : (byteAt l p).toNat = 58
            · have hci : ((58 : Int) == ((byteAt l p).toNat : Int)) = true := by rw [hc]; rfl
              have hno0 : (byteAt l p).toNat ≠ 123 := hno 0 (by decide)
              have hno1 : (byteAt l p).toNat ≠ 125 := hno 1 (by decide)
              have hno2 : (byteAt l p).toNat ≠ 91 := hno 2 (by decide)
              have hno3 : (byteAt l p).toNat ≠ 93 := hno 3 (by decide)
              have hsg : signOf (byteAt l p) = 5 := by
                unfold signOf
                rw [if_neg hno0, if_neg hno1, if_neg hno2, if_neg hno3, if_pos hc]
              have hTT := Lib.hid (hTs.out 5 (by decide) hsg)
              clear hsg
              replace hc := Lib.hid hc
              go_wp2_with fail
              go_quiet (fail)
              go_wp2_with fail
              refine bodyPost_ret (rtake_ret _ (by rfl) (by rfl) (put5_cell (hz'.out.drewN _) _ _ _ _ _)) rfl ?_
              unfold RTk
              rw [hTT.out, hH]
              exact ⟨rfl, below_put5 (below_drewN hB'.out _) (Nat.le_refl _) _ _ _ _ _⟩
            · have hci : ((58 : Int) == ((byteAt l p).toNat : Int)) = false := by simp; omega
              replace hc := Lib.hid hc
              go_wp2_with fail
              go_quiet (fail)
              go_wp2_with fail
              go_roundw
              case rel => exact ⟨5, rfl, by omega, nosign_next hno hc.out, below_drewN hB'.out _, hz'.out⟩
              case measure => simp [intOf]
          · -- the sign 5
            have hix : ∀ W, (Instr.index 9 (.string ⟨#[123, 125, 91, 93, 58, 44]⟩) (.int .i64 5)).run Try.prog W = .ok (.int .u8 44) W := fun W => idxStr ⟨#[123, 125, 91, 93, 58, 44]⟩ 5 (by decide) W
            by_cases hc : (byteAt l p).toNat = 44
            · have hci : ((44 : Int) == ((byteAt l p).toNat : Int)) = true := by rw [hc]; rfl
              have hno0 : (byteAt l p).toNat ≠ 123 := hno 0 (by decide)
              have hno1 : (byteAt l p).toNat ≠ 125 := hno 1 (by decide)
              have hno2 : (byteAt l p).toNat ≠ 91 := hno 2 (by decide)
              have hno3 : (byteAt l p).toNat ≠ 93 := hno 3 (by decide)
              have hno4 : (byteAt l p).toNat ≠ 58 := hno 4 (by decide)
              have hsg : signOf (byteAt l p) = 6 := by
                unfold signOf
                rw [if_neg hno0, if_neg hno1, if_neg hno2, if_neg hno3, if_neg hno4, if_pos hc]
              have hTT := Lib.hid (hTs.out 6 (by decide) hsg)
              clear hsg
              replace hc := Lib.hid hc
              go_wp2_with fail
              go_quiet (fail)
              go_wp2_with fail
              refine bodyPost_ret (rtake_ret _ (by rfl) (by rfl) (put5_cell (hz'.out.drewN _) _ _ _ _ _)) rfl ?_
              unfold RTk
              rw [hTT.out, hH]
              exact ⟨rfl, below_put5 (below_drewN hB'.out _) (Nat.le_refl _) _ _ _ _ _⟩
            · have hci : ((44 : Int) == ((byteAt l p).toNat : Int)) = false := by simp; omega
              replace hc := Lib.hid hc
              go_wp2_with fail
              go_quiet (fail)
              go_wp2_with fail
              go_roundw
              case rel => exact ⟨6, rfl, by omega, nosign_next hno hc.out, below_drewN hB'.out _, hz'.out⟩
              case measure => simp [intOf]
          · have hno0 : (byteAt l p).toNat ≠ 123 := hno 0 (by decide)
            have hno1 : (byteAt l p).toNat ≠ 125 := hno 1 (by decide)
            have hno2 : (byteAt l p).toNat ≠ 91 := hno 2 (by decide)
            have hno3 : (byteAt l p).toNat ≠ 93 := hno 3 (by decide)
            have hno4 : (byteAt l p).toNat ≠ 58 := hno 4 (by decide)
            have hno5 : (byteAt l p).toNat ≠ 44 := hno 5 (by decide)
            have hsg : signOf (byteAt l p) = 0 := by
              unfold signOf
              rw [if_neg hno0, if_neg hno1, if_neg hno2, if_neg hno3, if_neg hno4, if_neg hno5]
            have hsz := hB'.out.size
            rw [hH] at hsz
            have hHr := hz'.out.lt
            obtain ⟨p1, hp1⟩ : ∃ p1, p1 = p + 1 := ⟨_, rfl⟩
            have hq1 : (p : Int) + 1 = (p1 : Int) := by omega
            have cz0 := fun j => hz'.out.cell j
            have fz0 := fun j => hz'.out.free j
            clear cz fz hno hno0 hno1 hno2 hno3 hno4 hno5 hTs hcr
            by_cases h34 : (byteAt l p).toNat = 34
            · have h34i : (((byteAt l p).toNat : Int) == 34) = true := by rw [h34]; rfl
              have htx := rtext_any hbb.out hlen hbig hnil p1 (by omega)
              have hTS : ∀ S q, mText l p1 [] = some (S, q) → mTakeN l i = ⟨0, 10, 0, S, p, q⟩ := by
                intro S q h
                have hm : mWord l p = ⟨0, 10, 0, S, q⟩ := by unfold mWord; rw [if_neg (by omega), if_pos h34, ← hp1, h]
                rw [hT.out, hm]
                rfl
              have hTN : mText l p1 [] = none → mTakeN l i = ⟨20, 0, 0, [], 0, 0⟩ := by
                intro h
                have hm : mWord l p = ⟨20, 0, 0, [], 0⟩ := by unfold mWord; rw [if_neg (by omega), if_pos h34, ← hp1, h]
                rw [hT.out, hm]
                rfl
              obtain ⟨M, hM⟩ : ∃ M, M = mText l p1 [] := ⟨_, rfl⟩
              rw [← hM] at hTS hTN htx
              replace htx := Lib.hid htx
              replace hTS := Lib.hid hTS
              replace hTN := Lib.hid hTN
              replace hp1 := Lib.hid hp1
              replace h34 := Lib.hid h34
              clear hM hT
              go_wp2_with fail
              refine htx.out.mono ?_
              rintro r w2 ⟨s, nx, ok, rfl, hb2, hM2⟩
              have hz2 := hz'.out.kept hb2 (by omega)
              have hB2 := Lib.hid (hB'.out.trans (hb2.mono (by omega)))
              have cz2 := fun j => hz2.cell j
              have fz2 := fun j => hz2.free j
              replace hz2 := Lib.hid hz2
              clear cz0 fz0 hb2 htx hcr0
              cases M with
              | none =>
                obtain rfl : ok = false := hM2
                have hTT := Lib.hid (hTN.out rfl)
                clear hTN hTS
                go_wp2_with fail
                refine bodyPost_ret (rtake_ret _ (by rfl) (by rfl) (put5_cell hz2.out _ _ _ _ _)) rfl ?_
                unfold RTk
                rw [hTT.out, hH]
                exact ⟨rfl, below_put5 hB2.out (Nat.le_refl _) _ _ _ _ _⟩
              | some x =>
                obtain ⟨S, q⟩ := x
                obtain ⟨rfl, rfl, rfl⟩ := hM2
                have hTT := Lib.hid (hTS.out _ _ rfl)
                clear hTN hTS
                go_wp2_with fail
                refine bodyPost_ret (rtake_ret _ (by rfl) (by rfl) (put5_cell hz2.out _ _ _ _ _)) rfl ?_
                unfold RTk
                rw [hTT.out, hH]
                exact ⟨rfl, below_put5 hB2.out (Nat.le_refl _) _ _ _ _ _⟩
            have h34i : (((byteAt l p).toNat : Int) == 34) = false := by simp; omega
            have hdg := Lib.hid fun w => rdigit_any (byteAt l p) w
            by_cases hnum : (byteAt l p).toNat = 45 ∨ isDig (byteAt l p) = true
            · have hnm := rnumber_any (c := c) hbb.out hbig p (by omega)
              unfold RNum at hnm
              have hT0 : mnErr l p = 0 → mTakeN l i = ⟨0, 9, mnInt l p, [], p, mnEnd l p⟩ := by
                intro h
                have hm : mWord l p = ⟨0, 9, mnInt l p, [], mnEnd l p⟩ := by unfold mWord; rw [if_neg (by omega), if_neg h34, if_pos hnum, if_pos h]
                rw [hT.out, hm]
                rfl
              have hT1 : mnErr l p ≠ 0 → mTakeN l i = ⟨mnErr l p, 0, 0, [], 0, 0⟩ := by
                intro h
                have hm : mWord l p = ⟨mnErr l p, 0, 0, [], 0⟩ := by unfold mWord; rw [if_neg (by omega), if_neg h34, if_pos hnum, if_neg h]
                rw [hT.out, hm]
                exact if_neg h
              obtain ⟨E, hE⟩ : ∃ E, E = mnErr l p := ⟨_, rfl⟩
              obtain ⟨nn, hnn⟩ : ∃ nn, nn = mnInt l p := ⟨_, rfl⟩
              obtain ⟨ee, hee⟩ : ∃ ee, ee = mnEnd l p := ⟨_, rfl⟩
              rw [← hE, ← hnn, ← hee] at hnm hT0
              rw [← hE] at hT1
              replace hnm := Lib.hid hnm
              replace hT0 := Lib.hid hT0
              replace hT1 := Lib.hid hT1
              clear hE hnn hee
              have h45 : ((((byteAt l p).toNat : Int) == 45) = true) ∨ (((((byteAt l p).toNat : Int) == 45) = false) ∧ isDig (byteAt l p) = true) := by
                by_cases h : (byteAt l p).toNat = 45
                · left; rw [h]; rfl
                · right; exact ⟨by simp; omega, hnum.resolve_left h⟩
              replace hp1 := Lib.hid hp1
              replace h34 := Lib.hid h34
              clear hT hnum
              rcases h45 with h45 | ⟨h45, hdd⟩
              all_goals
                go_wp2_with (first | (go_at_call 46; refine (hdg.out _).mono ?_; rintro r w' ⟨rfl, rfl⟩))
                refine hnm.out.mono ?_
                rintro r w2 ⟨rfl, n, q, rfl, hgood⟩
                by_cases he : E = 0
                · obtain ⟨rfl, rfl⟩ := hgood he
                  have hei : ((E : Int) != 0) = false := by simp [he]
                  have hTT := Lib.hid (hT0.out he)
                  clear hgood he hnm hT0 hT1
                  go_wp2_with fail
                  refine bodyPost_ret (rtake_ret _ (by rfl) (by rfl) (put5_cell hz'.out _ _ _ _ _)) rfl ?_
                  unfold RTk
                  rw [hTT.out, hH]
                  exact ⟨rfl, below_put5 hB'.out (Nat.le_refl _) _ _ _ _ _⟩
                · have hei : ((E : Int) != 0) = true := by simp; omega
                  have hTT := Lib.hid (hT1.out he)
                  replace he := Lib.hid he
                  clear hgood hnm hT0 hT1
                  go_wp2_with fail
                  refine bodyPost_ret (rtake_ret _ (by rfl) (by rfl) (put5_cell hz'.out _ _ _ _ _)) rfl ?_
                  unfold RTk
                  rw [hTT.out, hH]
                  exact ⟨rfl, below_put5 hB'.out (Nat.le_refl _) _ _ _ _ _⟩
            · have hm : mWord l p = mLet l p := by unfold mWord; rw [if_neg (by omega), if_neg h34, if_neg hnum]
              have h45 : (((byteAt l p).toNat : Int) == 45) = false := by simp; omega
              have hdd : isDig (byteAt l p) = false := by
                cases h : isDig (byteAt l p) with
                | false => rfl
                | true => exact absurd (.inr h) hnum
              have n1 := rnamed_any hbb.out hlen hbig p sTrue (by decide) (by omega)
              have n2 := rnamed_any hbb.out hlen hbig p sFalse (by decide) (by omega)
              have n3 := rnamed_any hbb.out hlen hbig p sNull (by decide) (by omega)
              have hml := mLet_ref l p
              have hTT := hT.out
              rw [hm, hml] at hTT
              obtain ⟨b1, hb1⟩ : ∃ b1, b1 = (sTrue.data.toList.isPrefixOf (l.drop p) && !isLet (byteAt l (p + sTrue.size))) := ⟨_, rfl⟩
              obtain ⟨b2, hb2⟩ : ∃ b2, b2 = (sFalse.data.toList.isPrefixOf (l.drop p) && !isLet (byteAt l (p + sFalse.size))) := ⟨_, rfl⟩
              obtain ⟨b3, hb3⟩ : ∃ b3, b3 = (sNull.data.toList.isPrefixOf (l.drop p) && !isLet (byteAt l (p + sNull.size))) := ⟨_, rfl⟩
              rw [← hb1, ← hb2, ← hb3] at hTT
              rw [← hb1] at n1
              rw [← hb2] at n2
              rw [← hb3] at n3
              unfold sTrue at n1
              unfold sFalse at n2
              unfold sNull at n3
              replace n1 := Lib.hid n1
              replace n2 := Lib.hid n2
              replace n3 := Lib.hid n3
              replace hp1 := Lib.hid hp1
              replace h34 := Lib.hid h34
              replace hnum := Lib.hid hnum
              clear hm hT hml hb1 hb2 hb3
              cases b1 with
              | true =>
                replace hTT := Lib.hid hTT
                go_wp2_with (first | (go_at_call 46; refine (hdg.out _).mono ?_; rintro r w' ⟨rfl, rfl⟩) | (go_at_call 48; (with_reducible refine n1.out.mono ?_); rintro r w' ⟨rfl, rfl⟩))
                refine bodyPost_ret (rtake_ret _ (by rfl) (by rfl) (put5_cell hz'.out _ _ _ _ _)) rfl ?_
                unfold RTk
                rw [hTT.out, hH]
                exact ⟨rfl, below_put5 hB'.out (Nat.le_refl _) _ _ _ _ _⟩
              | false =>
                cases b2 with
                | true =>
                  replace hTT := Lib.hid hTT
                  go_wp2_with (first | (go_at_call 46; refine (hdg.out _).mono ?_; rintro r w' ⟨rfl, rfl⟩) | (go_at_call 48; (with_reducible refine n1.out.mono ?_); rintro r w' ⟨rfl, rfl⟩) | (go_at_call 48; (with_reducible refine n2.out.mono ?_); rintro r w' ⟨rfl, rfl⟩))
                  refine bodyPost_ret (rtake_ret _ (by rfl) (by rfl) (put5_cell hz'.out _ _ _ _ _)) rfl ?_
                  unfold RTk
                  rw [hTT.out, hH]
                  exact ⟨rfl, below_put5 hB'.out (Nat.le_refl _) _ _ _ _ _⟩
                | false =>
                  cases b3
                  all_goals
                    replace hTT := Lib.hid hTT
                    go_wp2_with (first | (go_at_call 46; refine (hdg.out _).mono ?_; rintro r w' ⟨rfl, rfl⟩) | (go_at_call 48; (with_reducible refine n1.out.mono ?_); rintro r w' ⟨rfl, rfl⟩) | (go_at_call 48; (with_reducible refine n2.out.mono ?_); rintro r w' ⟨rfl, rfl⟩) | (go_at_call 48; (with_reducible refine n3.out.mono ?_); rintro r w' ⟨rfl, rfl⟩))
                    refine bodyPost_ret (rtake_ret _ (by rfl) (by rfl) (put5_cell hz'.out _ _ _ _ _)) rfl ?_
                    unfold RTk
                    rw [hTT.out, hH]
                    exact ⟨rfl, below_put5 hB'.out (Nat.le_refl _) _ _ _ _ _⟩

theorem rtake_in2 (hb : BytesAt w a b off l) (hap : l ≠ [] → b < w.heap.size) (hlen : l.length ≤ c) (hbig : l.length ≤ 1000000) (hnil : a = none → c = 0) (i : Nat) (hi : i ≤ l.length) :
    Calls Try.prog 25 #[.slice a l.length c, .int .i64 (i : Int)] w fun r w' => r = .returned (.tuple #[(mTakeN l i).val, .int .i64 ((mTakeN l i).e : Int)]) ∧ Below w.heap.size w w' := rtake_in hb hap hlen hbig hnil i hi

end Go.Proofs.Ytmembanbemljoaa
