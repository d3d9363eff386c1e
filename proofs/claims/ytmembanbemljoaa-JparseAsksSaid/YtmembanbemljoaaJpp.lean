/- jparse.Parse. -/
import Derived.Test.YtmembanbemljoaaJv
import Derived.Deep.CutRange
namespace Go.Proofs.Ytmembanbemljoaa
open Go.RowKit
set_option linter.unusedVariables false
set_option linter.unusedSimpArgs false

def zJ : JT := .mk 0 0 [] [] []
/-- What Parse tells: the tree, the refusal. -/
def resT : JR → JT × Nat
  | .bad e => (zJ, e)
  | .ok t _ => (t, 0)
def PPost (W : World) (T : JT × Nat) (r : Ending) (W' : World) : Prop :=
  ∃ v0 v1 v2 v3 v4 : Value, r = .returned (.tuple #[.agg #[v0, v1, v2, v3, v4], .int .i64 (T.2 : Int)]) ∧ Below W.heap.size W W' ∧ JAt W' (fun b => W.heap.size ≤ b ∧ b < W'.heap.size) T.1 [v0, v1, v2, v3, v4]
theorem zJ_at (W : World) (ok : Nat → Prop) : JAt W ok zJ [.int .i64 0, .int .i64 0, .string ⟨#[]⟩, .slice none 0 0, .slice none 0 0] :=
  .mk (RowAt.nil _ _ _) (vss := []) (RowAt.nil _ _ _) rfl (fun i x vs h => by simp at h)
theorem parse_ret {W : World} {H : Nat} {v0 v1 v2 v3 v4 v5 : Value} (tmps : Array Value) (hz : tmps[2]?.getD undef = .pointer (some ⟨H, 0, none⟩)) (h3 : tmps[3]?.getD undef = v5) (hc : ∀ j, W.cell? ⟨H, j, none⟩ = (#[v0, v1, v2, v3, v4] : Array Value)[j]?) :
    (results Try.f32 tmps).run Try.prog W = .ok (.tuple #[.agg #[v0, v1, v2, v3, v4], v5]) W := by
  simp [results, Try.results32, go_sem, hz, hc, h3]
theorem resT_zero {r : JR} (h : (resT r).2 ≠ 0) : (resT r).1 = zJ := by
  cases r with
  | bad e => rfl
  | ok t q => exact absurd rfl h
variable {a : Option Addr} {b off c : Nat} {l : List UInt8}
/-- The end of the text. -/
theorem pend {W : World} {X : Nat} {R1 : JR} (hE : PEnv W X a b off c l) (hR : mVal l 32 (mTakeN l 0) = R1) (hbad : ∀ e, R1 = .bad e → Bad W X (.slice a l.length c) e) (hok : ∀ t q, R1 = .ok t q → Any W X (.slice a l.length c) (q : Int) 0 ∧ q ≤ l.length) :
    Calls Try.prog 52 #[.pointer (some ⟨X, 0, none⟩), .int .i64 11] W fun r W' => r = .returned (.tuple #[]) ∧ Near X W.heap.size W W' ∧ (∃ p, Any W' X (.slice a l.length c) p (((resT (mParse l)).2 : Nat) : Int)) ∧ ((resT (mParse l)).2 = 0 → ∃ q, R1 = .ok (resT (mParse l)).1 q) := by
  cases hr : R1 with
  | bad e =>
    have hB := hbad e hr
    have hp : mParse l = .bad e := by unfold mParse; rw [hR, hr]
    refine (pwant_bad hB 11 (by decide)).mono ?_
    rintro r W' ⟨rfl, rfl⟩
    rw [hp]
    exact ⟨rfl, Near.refl _ _ _, hB.2, fun h => absurd h hB.1⟩
  | ok t q =>
    obtain ⟨hA, hq⟩ := hok t q hr
    refine (pwant_any hE hq hA 11 (by decide)).mono ?_
    rintro r W' ⟨rfl, hN, hW⟩
    refine ⟨rfl, hN, ?_⟩
    rcases hW with ⟨h1, h2, h3⟩ | ⟨h1, h2⟩
    · have hp : mParse l = .ok t q := by
        unfold mParse
        rw [hR, hr]
        simp only []
        rw [if_pos h1]
      rw [hp]
      exact ⟨⟨_, h3.any⟩, fun _ => ⟨q, rfl⟩⟩
    · have hp : mParse l = .bad (wrongE (mTakeN l q)) := by
        unfold mParse
        rw [hR, hr]
        simp only []
        rw [if_neg h1]
      rw [hp]
      exact ⟨h2.2, fun h => absurd h h2.1⟩

set_option maxRecDepth 100000 in
set_option maxHeartbeats 2000000 in
theorem parse_any {W : World} (hb : BytesAt W a b off l) (hlen : l.length ≤ c) (hbig : l.length ≤ 20000) (hnil : a = none → c = 0) :
    Calls Try.prog 32 #[.slice a l.length c] W (PPost W (resT (mParse l))) := by
  obtain ⟨H, hH⟩ : ∃ H, W.heap.size = H := ⟨_, rfl⟩
  have hli : decide ((20000 : Int) < (l.length : Int)) = false := by simp; omega
  obtain ⟨T, hT⟩ : ∃ T, T = resT (mParse l) := ⟨_, rfl⟩
  -- the world behind the result's block and the parser
  obtain ⟨W2, hW2⟩ : ∃ W2, W2 = (W.alloc (.cells z5J 58)).alloc (.cells #[.slice a l.length c, .int .i64 0, .int .i64 0, .int .i64 0, .int .i64 0, .string ⟨#[]⟩, .int .i64 0, .int .i64 0] 88) := ⟨_, rfl⟩
  have hb2 : Blk W2 H z5J 58 := by rw [hW2]; exact (Blk.made W _ _ H hH).kept ((Below.refl (H + 1) (W.alloc _)).alloc (by simp; omega) _) (by omega)
  have hP2 : Any W2 (H + 1) (.slice a l.length c) ((0 : Nat) : Int) 0 := ⟨0, 0, ⟨#[]⟩, 0, 0, by rw [hW2]; exact Blk.made _ _ _ (H + 1) (by simp; omega)⟩
  have hB2 : Below H W W2 := by rw [hW2]; exact ((Below.refl H W).alloc (by omega) _).alloc (by simp; omega) _
  have hs2 : W2.heap.size = H + 2 := by rw [hW2]; simp; omega
  have hE2 : PEnv W2 (H + 1) a b off c l := ⟨hb.below (hH ▸ hB2), fun hne => by have := hb.lt hne; omega, hlen, by omega, hnil⟩
  have htk := Lib.hid (ptake_any hE2 (Nat.zero_le _) hP2)
  have hkd := take_kinds (l := l) (Nat.zero_le _)
  obtain ⟨m, hm⟩ : ∃ m, m = mTakeN l 0 := ⟨_, rfl⟩
  rw [← hm] at htk hkd
  have hmn : m.k ≠ 0 → m.nx ≤ l.length := fun h => by omega
  obtain ⟨R1, hR1⟩ : ∃ R1, mVal l 32 m = R1 := ⟨_, rfl⟩
  have hwi : ∀ t q, R1 = .ok t q → q ≤ l.length := by
    intro t q h
    have := reads_val (l := l) 32 m
    by_cases hk0 : m.k = 0
    · rw [this.1 hk0] at hR1
      rw [← hR1] at h
      cases h
    · have h2 := this.2 hk0 (hmn hk0)
      rw [hR1, h] at h2
      exact h2.2
  have hpe := fun W X hE hbad hok => pend (a := a) (b := b) (off := off) (c := c) (W := W) (X := X) (R1 := R1) hE (hm ▸ hR1) hbad hok
  rw [← hT] at hpe ⊢
  replace hT := Lib.hid hT
  replace hpe := Lib.hid hpe
  replace hE2 := Lib.hid hE2
  replace hB2 := Lib.hid hB2
  replace hb2 := Lib.hid hb2
  replace hkd := Lib.hid hkd
  replace hm := Lib.hid hm
  replace hwi := Lib.hid hwi
  have hv := Lib.hid fun W1 h1 h2 h3 => hR1 ▸ (pvalue_all (X := H + 1) (a := a) (b := b) (off := off) (c := c) (l := l) 32 (Nat.le_refl _) W1 m h1 h2 h3 hmn)
  replace hR1 := Lib.hid hR1
  clear hb hP2
  unfold z5J at hW2
  go_enter Try.func32, Try.ntmps32
  go_wp2_with fail
  rw [← hW2]
  clear hW2
  refine htk.out.mono ?_
  rintro r W3 ⟨rfl, hN3, hT3⟩
  rw [hs2] at hN3
  have hE3 := hE2.out.near hN3
  have hs3 := hN3.below.size
  have hb3 : Blk W3 H z5J 58 := Near.blk hb2.out hN3 (by omega) (by omega)
  have hv3 := Lib.hid (hv.out W3 hE3 (by omega) hT3)
  have hB3 := Lib.hid (hB2.out.trans (hN3.below.mono (by omega : H ≤ H + 1)))
  clear hN3 hT3 htk
  go_wp2_with fail
  refine hv3.out.mono ?_
  rintro r W4 ⟨v0, v1, v2, v3, v4, rfl, hones, hN4, hbad, hok⟩
  obtain ⟨Y, hY⟩ : ∃ Y, W4.heap.size = Y := ⟨_, rfl⟩
  have hE4 := hE3.near hN4
  have hs4 := hN4.below.size
  have t0 := fun W' A => run_store Try.prog W' A v0 .plain (hones v0 (by simp))
  have t1 := fun W' A => run_store Try.prog W' A v1 .plain (hones v1 (by simp))
  have t2 := fun W' A => run_store Try.prog W' A v2 .plain (hones v2 (by simp))
  have t3 := fun W' A => run_store Try.prog W' A v3 .plain (hones v3 (by simp))
  have t4 := fun W' A => run_store Try.prog W' A v4 .plain (hones v4 (by simp))
  have hB4 := hB3.out.trans (hN4.below.mono (by omega : H ≤ H + 1))
  have hb4 : Blk W4 H z5J 58 := Near.blk hb3 hN4 (by omega) (by omega)
  have hX5 : (W4.alloc (.cells #[v0, v1, v2, v3, v4] 58)).heap[H + 1]? = W4.heap[H + 1]? := heap_alloc_old W4 _ (by omega)
  have hE5 := hE4.below ((Below.refl Y W4).alloc (by omega) (.cells #[v0, v1, v2, v3, v4] 58)) (by omega)
  have hwt := Lib.hid (hpe.out _ (H + 1) hE5 (fun e he => (hbad e he).keep hX5) (fun t q h => ⟨(hok t q h).1.keep hX5, hwi.out t q h⟩))
  have hB5 := Lib.hid (hB4.alloc (by omega) (.cells #[v0, v1, v2, v3, v4] 58))
  have hb5 : Blk (W4.alloc (.cells #[v0, v1, v2, v3, v4] 58)) H z5J 58 := (heap_alloc_old W4 _ (by omega)).trans hb4
  have hy5 := Blk.made W4 #[v0, v1, v2, v3, v4] 58 Y hY
  clear hv3 hE4 hE5 hbad hX5 hb4 hB4
  go_wp2_with fail
  refine hwt.out.mono ?_
  rintro r W6 ⟨rfl, hN6, ⟨p6, hA6⟩, hfin⟩
  have hb6 : Blk W6 H z5J 58 := Near.blk hb5 hN6 (by simp; omega) (by omega)
  have hy6 : Blk W6 Y #[v0, v1, v2, v3, v4] 58 := Near.blk hy5 hN6 (by simp; omega) (by omega)
  have hB6 := hB5.out.trans (hN6.below.mono (by omega : H ≤ H + 1))
  have hs6 := hN6.below.size
  simp at hs6
  obtain ⟨k6, n6, s6, a6, x6, hP6⟩ := hA6
  have c2 := hP6.cell 2
  have r4 := hb6.cell
  have s4 := hb6.free
  have r5 := hy6.cell
  unfold z5J at r4
  by_cases hT0 : T.2 = 0
  · obtain ⟨q, hq⟩ := hfin hT0
    have hJ := (hok _ q hq).2
    have hzr := put5_cell (w := W6) hb6 v0 v1 v2 v3 v4
    have hJ6 : JAt (put5 W6 H v0 v1 v2 v3 v4) (fun b => W.heap.size ≤ b ∧ b < (put5 W6 H v0 v1 v2 v3 v4).heap.size) T.1 [v0, v1, v2, v3, v4] := by
      refine (hJ.frame (fun b hb => ?_)).mono (fun b hb => ⟨by omega, by rw [size_put5]; omega⟩)
      rw [heap_put5 _ _ _ _ _ _ _ _ (by omega), hN6.far b (by simp; omega) (by omega)]
      exact heap_alloc_old W4 _ hb.2
    have hp : PPost W T (.returned (.tuple #[.agg #[v0, v1, v2, v3, v4], .int .i64 0])) (put5 W6 H v0 v1 v2 v3 v4) := by
      refine ⟨_, _, _, _, _, by rw [hT0]; rfl, ?_, hJ6⟩
      rw [hH]
      exact below_put5 hB6 (Nat.le_refl _) _ _ _ _ _
    rw [hT0] at c2
    replace hT0 := Lib.hid hT0
    replace hp := Lib.hid hp
    replace hzr := Lib.hid hzr
    clear hJ hJ6 hN6 hok hfin hq hP6 hb6 hy6 hB6 hb5 hy5 hwt
    go_wp2_with fail
    refine bodyPost_ret (parse_ret _ (by rfl) (by rfl) hzr.out) rfl ?_
    exact hp.out
  · have hz1 : T.1 = zJ := by rw [hT.out] at hT0 ⊢; exact resT_zero hT0
    have hez : ((T.2 : Int) == 0) = false := by simp; omega
    have hzr := put5_cell (w := W6) hb6 (.int .i64 0) (.int .i64 0) (.string ⟨#[]⟩) (.slice none 0 0) (.slice none 0 0)
    have hp : PPost W T (.returned (.tuple #[.agg #[.int .i64 0, .int .i64 0, .string ⟨#[]⟩, .slice none 0 0, .slice none 0 0], .int .i64 (T.2 : Int)])) (put5 W6 H (.int .i64 0) (.int .i64 0) (.string ⟨#[]⟩) (.slice none 0 0) (.slice none 0 0)).drew := by
      refine ⟨_, _, _, _, _, rfl, ?_, by rw [hz1]; exact zJ_at _ _⟩
      rw [hH]
      exact (below_put5 hB6 (Nat.le_refl _) _ _ _ _ _).drew
    replace hT0 := Lib.hid hT0
    replace hp := Lib.hid hp
    replace hzr := Lib.hid hzr
    clear hN6 hok hfin hP6 hb6 hy6 hB6 hb5 hy5 hwt hz1
    go_wp2_with fail
    go_cut [3] from 19 to 28 (fun v3 W7 => v3 = .int .i64 (T.2 : Int) ∧ W7 = (put5 W6 H (.int .i64 0) (.int .i64 0) (.string ⟨#[]⟩) (.slice none 0 0) (.slice none 0 0)).drew)
    case first =>
      go_region_law (fail)
      all_goals
        go_wp2_with fail
        go_meet
        case rel => exact ⟨rfl, rfl⟩
    case rest =>
      obtain ⟨rfl, rfl⟩ := hcut
      clear c2 r4 s4 r5
      go_wp2_with fail
      refine bodyPost_ret (parse_ret _ (by rfl) (by rfl) hzr.out) rfl ?_
      exact hp.out

end Go.Proofs.Ytmembanbemljoaa
