/- The parser's value. -/
import Derived.Test.YtmembanbemljoaaJo
namespace Go.Proofs.Ytmembanbemljoaa
open Go.RowKit
set_option linter.unusedVariables false
set_option linter.unusedSimpArgs false

variable {X : Nat} {a : Option Addr} {b off c : Nat} {l : List UInt8}
theorem value_ret {W : World} {H : Nat} {v0 v1 v2 v3 v4 : Value} (tmps : Array Value) (hz : tmps[6]?.getD undef = .pointer (some ⟨H, 0, none⟩)) (hc : ∀ j, W.cell? ⟨H, j, none⟩ = (#[v0, v1, v2, v3, v4] : Array Value)[j]?) :
    (results Try.f50 tmps).run Try.prog W = .ok (.agg #[v0, v1, v2, v3, v4]) W := by
  simp [results, Try.results50, go_sem, hz, hc]
/-- A leaf. -/
theorem VPost.leaf {W : World} {X H : Nat} {bv : Value} {m : MT} {k n : Int} {s : List UInt8} (hH : W.heap.size = H) (hX : X < H) (hG : Good W X bv m) :
    VPost W X bv (.ok (.mk k n s [] []) m.nx) (.returned (.agg #[.int .i64 k, .int .i64 n, .string (str s), .slice none 0 0, .slice none 0 0])) (W.alloc (.cells #[.int .i64 k, .int .i64 n, .string (str s), .slice none 0 0, .slice none 0 0] 58)) := by
  refine ⟨_, _, _, _, _, rfl, by intro u hu; simp at hu; rcases hu with rfl | rfl | rfl | rfl | rfl <;> rfl, (Near.refl X W.heap.size W).alloc (by omega) (Nat.le_refl _) _, fun e he => (by cases he), fun t q hq => ?_⟩
  cases hq
  exact ⟨hG.any.keep (heap_alloc_old W _ (by omega)), .mk (RowAt.nil _ _ _) (vss := []) (RowAt.nil _ _ _) rfl (fun i x vs h => by simp at h)⟩
/-- A refusal. -/
theorem VPost.no {W1 : World} {X H : Nat} {bv : Value} {e : Nat} {W0 : World} (hH : W0.heap.size = H) (hN : Near X H W0 W1) (hB : Bad W1 X bv e) :
    VPost W0 X bv (.bad e) (.returned (.agg #[.int .i64 0, .int .i64 0, .string ⟨#[]⟩, .slice none 0 0, .slice none 0 0])) W1 := by
  refine ⟨_, _, _, _, _, rfl, by intro u hu; simp at hu; rcases hu with rfl | rfl | rfl | rfl | rfl <;> rfl, hH ▸ hN, fun e' he => ?_, fun t q hq => by cases hq⟩
  cases he
  exact hB
/-- A tree from within. -/
theorem VPost.pass {W W1 : World} {X H : Nat} {bv : Value} {R : JR} {v0 v1 v2 v3 v4 : Value} {o : Obj} (hH : W.heap.size = H) (hX : X < H) (hN : Near X (W.alloc o).heap.size (W.alloc o) W1) (h1 : ∀ u ∈ [v0, v1, v2, v3, v4], u.oneCell' = true) (hb : ∀ e, R = .bad e → Bad W1 X bv e)
    (ho : ∀ t q, R = .ok t q → Any W1 X bv (q : Int) 0 ∧ JAt W1 (fun b => (W.alloc o).heap.size ≤ b ∧ b < W1.heap.size) t [v0, v1, v2, v3, v4]) :
    VPost W X bv R (.returned (.agg #[v0, v1, v2, v3, v4])) (put5 W1 H v0 v1 v2 v3 v4) := by
  have hs := hN.below.size
  simp at hs
  refine VPost.ret hX hH (by omega) ?_ h1 hb (fun t q hq => ⟨(ho t q hq).1, (ho t q hq).2.mono (fun b hb => ⟨by have := hb.1; simp at this; omega, hb.2⟩)⟩)
  exact ((Near.refl X H W).alloc (by omega) (by omega) o).later hN (by simp; omega)

set_option maxRecDepth 100000 in
set_option maxHeartbeats 4000000 in
theorem pvalue_leaf {W : World} {m : MT} {d : Nat} (hX : X < W.heap.size) (hT : Took W X (.slice a l.length c) m) (D : Int) (hk : m.k = 7 ∨ m.k = 8 ∨ m.k = 9 ∨ m.k = 10) :
    Calls Try.prog 50 #[.pointer (some ⟨X, 0, none⟩), .int .i64 (m.k : Int), .int .i64 D] W (VPost W X (.slice a l.length c) (mVal l d m)) := by
  obtain ⟨H, hH⟩ : ∃ H, W.heap.size = H := ⟨_, rfl⟩
  rw [hH] at hX
  have hG : Good W X (.slice a l.length c) m := by
    rcases hT with h | h
    · exact h.2
    · omega
  have c4 : ∀ o, (W.alloc o).cell? ⟨X, 4, none⟩ = some (.int .i64 m.n) := fun o => Blk.cell ((heap_alloc_old W o (by omega : X < W.heap.size)).trans hG) 4
  have c5 : ∀ o, (W.alloc o).cell? ⟨X, 5, none⟩ = some (.string (str m.s)) := fun o => Blk.cell ((heap_alloc_old W o (by omega : X < W.heap.size)).trans hG) 5
  have hck := fun C => (Blk.made W C 58 H hH).cell
  rcases hk with hk | hk | hk | hk
  · have hv : mVal l d m = .ok (.mk 2 m.n [] [] []) m.nx := by unfold mVal; cases d <;> simp [hk]
    have hp := VPost.leaf (k := 2) (n := m.n) (s := []) hH hX hG
    rw [hv, hk]
    replace hk := Lib.hid hk
    replace hp := Lib.hid hp
    have hr := Lib.hid (hck #[.int .i64 2, .int .i64 m.n, .string ⟨#[]⟩, .slice none 0 0, .slice none 0 0])
    clear hT hG hv
    go_enter Try.func50, Try.ntmps50
    go_wp2_with fail
    refine bodyPost_ret (value_ret _ (by rfl) hr.out) rfl ?_
    exact hp.out
  · have hv : mVal l d m = .ok (.mk 1 0 [] [] []) m.nx := by unfold mVal; cases d <;> simp [hk]
    have hp := VPost.leaf (k := 1) (n := 0) (s := []) hH hX hG
    rw [hv, hk]
    replace hk := Lib.hid hk
    replace hp := Lib.hid hp
    have hr := Lib.hid (hck #[.int .i64 1, .int .i64 0, .string ⟨#[]⟩, .slice none 0 0, .slice none 0 0])
    clear hT hG hv
    go_enter Try.func50, Try.ntmps50
    go_wp2_with fail
    refine bodyPost_ret (value_ret _ (by rfl) hr.out) rfl ?_
    exact hp.out
  · have hv : mVal l d m = .ok (.mk 3 m.n [] [] []) m.nx := by unfold mVal; cases d <;> simp [hk]
    have hp := VPost.leaf (k := 3) (n := m.n) (s := []) hH hX hG
    rw [hv, hk]
    replace hk := Lib.hid hk
    replace hp := Lib.hid hp
    have hr := Lib.hid (hck #[.int .i64 3, .int .i64 m.n, .string ⟨#[]⟩, .slice none 0 0, .slice none 0 0])
    clear hT hG hv
    go_enter Try.func50, Try.ntmps50
    go_wp2_with fail
    refine bodyPost_ret (value_ret _ (by rfl) hr.out) rfl ?_
    exact hp.out
  · have hv : mVal l d m = .ok (.mk 4 0 m.s [] []) m.nx := by unfold mVal; cases d <;> simp [hk]
    have hp := VPost.leaf (k := 4) (n := 0) (s := m.s) hH hX hG
    rw [hv, hk]
    replace hk := Lib.hid hk
    replace hp := Lib.hid hp
    have hr := Lib.hid (hck #[.int .i64 4, .int .i64 0, .string (str m.s), .slice none 0 0, .slice none 0 0])
    clear hT hG hv
    go_enter Try.func50, Try.ntmps50
    go_wp2_with fail
    refine bodyPost_ret (value_ret _ (by rfl) hr.out) rfl ?_
    exact hp.out

set_option maxRecDepth 100000 in
set_option maxHeartbeats 400000 in
theorem pvalue_no {W : World} {m : MT} {d : Nat} (hX : X < W.heap.size) (hT : Took W X (.slice a l.length c) m) (D : Int) (hk : m.k ≠ 7 ∧ m.k ≠ 8 ∧ m.k ≠ 9 ∧ m.k ≠ 10 ∧ m.k ≠ 1 ∧ m.k ≠ 3) :
    Calls Try.prog 50 #[.pointer (some ⟨X, 0, none⟩), .int .i64 (m.k : Int), .int .i64 D] W (VPost W X (.slice a l.length c) (mVal l d m)) := by
  obtain ⟨H, hH⟩ : ∃ H, W.heap.size = H := ⟨_, rfl⟩
  rw [hH] at hX
  obtain ⟨k1, k2, k3, k4, k5, k6⟩ := hk
  have hv : mVal l d m = .bad (wrongE m) := by unfold mVal; cases d <;> simp [k1, k2, k3, k4, k5, k6]
  rw [hv]
  have e1 : ((m.k : Int) == 7) = false := by simp; omega
  have e2 : ((m.k : Int) == 8) = false := by simp; omega
  have e3 : ((m.k : Int) == 9) = false := by simp; omega
  have e4 : ((m.k : Int) == 10) = false := by simp; omega
  have e5 : ((m.k : Int) == 1) = false := by simp; omega
  have e6 : ((m.k : Int) == 3) = false := by simp; omega
  have hfl := fun o => pfail_took (hT.keep (W' := W.alloc o) (heap_alloc_old W o (by omega)))
  have hNa := fun o => (Near.refl X H W).alloc (by omega : X ≤ H) (by omega) o
  have hz := Blk.made W #[.int .i64 0, .int .i64 0, .string ⟨#[]⟩, .slice none 0 0, .slice none 0 0] 58 H hH
  replace hfl := Lib.hid hfl
  replace hNa := Lib.hid hNa
  replace hz := Lib.hid hz
  clear k1 k2 k3 k4 k5 k6 hT hv
  go_enter Try.func50, Try.ntmps50
  go_wp2_with fail
  refine (hfl.out _).mono ?_
  rintro r W1 ⟨rfl, hN, hB⟩
  have h1 : Blk W1 H #[.int .i64 0, .int .i64 0, .string ⟨#[]⟩, .slice none 0 0, .slice none 0 0] 58 := Near.blk hz.out hN (by simp; omega) (by omega)
  have r4 := h1.cell
  have s4 := h1.free
  have hzr := put5_cell (w := W1) h1 (.int .i64 0) (.int .i64 0) (.string ⟨#[]⟩) (.slice none 0 0) (.slice none 0 0)
  have hN2 := ((hNa.out _).later hN (by simp; omega)).put5 (by omega : X ≤ H) (Nat.le_refl H) (.int .i64 0) (.int .i64 0) (.string ⟨#[]⟩) (.slice none 0 0) (.slice none 0 0)
  have hB2 := hB.keep (heap_put5 W1 H X (.int .i64 0) (.int .i64 0) (.string ⟨#[]⟩) (.slice none 0 0) (.slice none 0 0) (by omega))
  have hp := Lib.hid (VPost.no hH hN2 hB2)
  replace hzr := Lib.hid hzr
  clear hN hB h1 hN2 hB2 hfl
  go_wp2_with fail
  refine bodyPost_ret (value_ret _ (by rfl) hzr.out) rfl ?_
  exact hp.out

set_option maxRecDepth 100000 in
set_option maxHeartbeats 1000000 in
theorem pvalue_deep {W : World} {m : MT} (hX : X < W.heap.size) (hT : Took W X (.slice a l.length c) m) (hk : m.k = 1 ∨ m.k = 3) :
    Calls Try.prog 50 #[.pointer (some ⟨X, 0, none⟩), .int .i64 (m.k : Int), .int .i64 32] W (VPost W X (.slice a l.length c) (mVal l 0 m)) := by
  obtain ⟨H, hH⟩ : ∃ H, W.heap.size = H := ⟨_, rfl⟩
  rw [hH] at hX
  have hv : mVal l 0 m = .bad 21 := by unfold mVal; rcases hk with hk | hk <;> simp [hk]
  rw [hv]
  have hG : Good W X (.slice a l.length c) m := by
    rcases hT with h | h
    · exact h.2
    · omega
  have hfl := fun o => pfail_any (hG.any.keep (W' := W.alloc o) (heap_alloc_old W o (by omega))) 21 (by decide)
  have hNa := fun o => (Near.refl X H W).alloc (by omega : X ≤ H) (by omega) o
  have hz := Blk.made W #[.int .i64 0, .int .i64 0, .string ⟨#[]⟩, .slice none 0 0, .slice none 0 0] 58 H hH
  replace hfl := Lib.hid hfl
  replace hNa := Lib.hid hNa
  replace hz := Lib.hid hz
  clear hT hv hG
  rcases hk with hk | hk
  all_goals
    rw [hk]
    replace hk := Lib.hid hk
    go_enter Try.func50, Try.ntmps50
    go_wp2_with fail
    refine (hfl.out _).mono ?_
    rintro r W1 ⟨rfl, hN, hB⟩
    have h1 : Blk W1 H #[.int .i64 0, .int .i64 0, .string ⟨#[]⟩, .slice none 0 0, .slice none 0 0] 58 := Near.blk hz.out hN (by simp; omega) (by omega)
    have r4 := h1.cell
    have s4 := h1.free
    have hzr := put5_cell (w := W1) h1 (.int .i64 0) (.int .i64 0) (.string ⟨#[]⟩) (.slice none 0 0) (.slice none 0 0)
    have hN2 := ((hNa.out _).later hN (by simp; omega)).put5 (by omega : X ≤ H) (Nat.le_refl H) (.int .i64 0) (.int .i64 0) (.string ⟨#[]⟩) (.slice none 0 0) (.slice none 0 0)
    have hB2 := hB.keep (heap_put5 W1 H X (.int .i64 0) (.int .i64 0) (.string ⟨#[]⟩) (.slice none 0 0) (.slice none 0 0) (by omega))
    have hp := Lib.hid (VPost.no hH hN2 hB2)
    replace hzr := Lib.hid hzr
    clear hN hB h1 hN2 hB2 hfl
    go_wp2_with fail
    refine bodyPost_ret (value_ret _ (by rfl) hzr.out) rfl ?_
    exact hp.out

set_option maxRecDepth 100000 in
set_option maxHeartbeats 1000000 in
theorem pvalue_in {W : World} {m : MT} {d : Nat} (hd : d + 1 ≤ 32) (hV : ValC X a b off c l d) (hE : PEnv W X a b off c l) (hX : X < W.heap.size) (hT : Took W X (.slice a l.length c) m) (hm : m.nx ≤ l.length) (hk : m.k = 1 ∨ m.k = 3) :
    Calls Try.prog 50 #[.pointer (some ⟨X, 0, none⟩), .int .i64 (m.k : Int), .int .i64 ((32 - (d + 1) : Nat) : Int)] W (VPost W X (.slice a l.length c) (mVal l (d + 1) m)) := by
  obtain ⟨H, hH⟩ : ∃ H, W.heap.size = H := ⟨_, rfl⟩
  have hX0 := hX
  rw [hH] at hX
  have hG : Good W X (.slice a l.length c) m := by
    rcases hT with h | h
    · exact h.2
    · omega
  obtain ⟨D, hD⟩ : ∃ D : Int, D = ((32 - (d + 1) : Nat) : Int) := ⟨_, rfl⟩
  rw [← hD]
  have hD32 : (D == 32) = false := by rw [hD]; simp; omega
  have hDw : IntKind.i64.wrap (D + 1) = ((32 - d : Nat) : Int) := by rw [hD]; simp [IntKind.wrap, IntKind.bits, IntKind.signed]; omega
  have hAn := fun o => hG.any.keep (W' := W.alloc o) (heap_alloc_old W o (by omega))
  have hEa := fun o => hE.below ((Below.refl H W).alloc (by omega) o) (by omega)
  have hXa := fun o => (show X < (W.alloc o).heap.size by simp; omega)
  have hz := Blk.made W #[.int .i64 0, .int .i64 0, .string ⟨#[]⟩, .slice none 0 0, .slice none 0 0] 58 H hH
  replace hz := Lib.hid hz
  rcases hk with hk | hk
  · have hv : mVal l (d + 1) m = mItems l (mVal l d) true m.nx := by rw [mVal]; simp [hk]
    have hcall := Lib.hid fun o => pobject_any hV (hEa o) (hXa o) hm (hAn o)
    rw [hv, hk]
    obtain ⟨R, hR⟩ : ∃ R, R = mItems l (mVal l d) true m.nx := ⟨_, rfl⟩
    rw [← hR] at hcall ⊢
    rw [← hDw] at hcall
    obtain ⟨D1, hD1⟩ : ∃ D1, D1 = IntKind.i64.wrap (D + 1) := ⟨_, rfl⟩
    rw [← hD1] at hcall
    replace hD1 := hD1.symm
    clear hT hv hG hAn hEa hE hV hD hDw hR
    replace hk := Lib.hid hk
    go_enter Try.func50, Try.ntmps50
    go_wp2_with fail
    refine (hcall.out _).mono ?_
    rintro r W1 ⟨v0, v1, v2, v3, v4, rfl, hones, hN, hbad, hok⟩
    have h1 : Blk W1 H #[.int .i64 0, .int .i64 0, .string ⟨#[]⟩, .slice none 0 0, .slice none 0 0] 58 := Near.blk hz.out hN (by simp; omega) (by omega)
    have r4 := h1.cell
    have s4 := h1.free
    have hzr := put5_cell (w := W1) h1 v0 v1 v2 v3 v4
    have t0 := fun W' A => run_store Try.prog W' A v0 .plain (hones v0 (by simp))
    have t1 := fun W' A => run_store Try.prog W' A v1 .plain (hones v1 (by simp))
    have t2 := fun W' A => run_store Try.prog W' A v2 .plain (hones v2 (by simp))
    have t3 := fun W' A => run_store Try.prog W' A v3 .plain (hones v3 (by simp))
    have t4 := fun W' A => run_store Try.prog W' A v4 .plain (hones v4 (by simp))
    have hp := Lib.hid (VPost.pass hH hX hN hones hbad hok)
    replace hzr := Lib.hid hzr
    clear hN hbad hok h1 hones hcall
    go_wp2_with fail
    refine bodyPost_ret (value_ret _ (by rfl) hzr.out) rfl ?_
    exact hp.out
  · have hv : mVal l (d + 1) m = mItems l (mVal l d) false m.nx := by rw [mVal]; simp [hk]
    have hcall := Lib.hid fun o => plist_any hV (hEa o) (hXa o) hm (hAn o)
    rw [hv, hk]
    obtain ⟨R, hR⟩ : ∃ R, R = mItems l (mVal l d) false m.nx := ⟨_, rfl⟩
    rw [← hR] at hcall ⊢
    rw [← hDw] at hcall
    obtain ⟨D1, hD1⟩ : ∃ D1, D1 = IntKind.i64.wrap (D + 1) := ⟨_, rfl⟩
    rw [← hD1] at hcall
    replace hD1 := hD1.symm
    clear hT hv hG hAn hEa hE hV hD hDw hR
    replace hk := Lib.hid hk
    go_enter Try.func50, Try.ntmps50
    go_wp2_with fail
    refine (hcall.out _).mono ?_
    rintro r W1 ⟨v0, v1, v2, v3, v4, rfl, hones, hN, hbad, hok⟩
    have h1 : Blk W1 H #[.int .i64 0, .int .i64 0, .string ⟨#[]⟩, .slice none 0 0, .slice none 0 0] 58 := Near.blk hz.out hN (by simp; omega) (by omega)
    have r4 := h1.cell
    have s4 := h1.free
    have hzr := put5_cell (w := W1) h1 v0 v1 v2 v3 v4
    have t0 := fun W' A => run_store Try.prog W' A v0 .plain (hones v0 (by simp))
    have t1 := fun W' A => run_store Try.prog W' A v1 .plain (hones v1 (by simp))
    have t2 := fun W' A => run_store Try.prog W' A v2 .plain (hones v2 (by simp))
    have t3 := fun W' A => run_store Try.prog W' A v3 .plain (hones v3 (by simp))
    have t4 := fun W' A => run_store Try.prog W' A v4 .plain (hones v4 (by simp))
    have hp := Lib.hid (VPost.pass hH hX hN hones hbad hok)
    replace hzr := Lib.hid hzr
    clear hN hbad hok h1 hones hcall
    go_wp2_with fail
    refine bodyPost_ret (value_ret _ (by rfl) hzr.out) rfl ?_
    exact hp.out

/-- value, whatever stands there. -/
theorem pvalue_all : ∀ d, d ≤ 32 → ValC X a b off c l d := by
  intro d
  induction d with
  | zero =>
    intro _ W m hE hX hT hm
    by_cases h1 : m.k = 7 ∨ m.k = 8 ∨ m.k = 9 ∨ m.k = 10
    · exact pvalue_leaf hX hT _ h1
    · by_cases h2 : m.k = 1 ∨ m.k = 3
      · exact pvalue_deep hX hT h2
      · exact pvalue_no hX hT _ (by omega)
  | succ d ih =>
    intro hd W m hE hX hT hm
    by_cases h1 : m.k = 7 ∨ m.k = 8 ∨ m.k = 9 ∨ m.k = 10
    · exact pvalue_leaf hX hT _ h1
    · by_cases h2 : m.k = 1 ∨ m.k = 3
      · exact pvalue_in hd (ih (by omega)) hE hX hT (hm (by omega)) h2
      · exact pvalue_no hX hT _ (by omega)

end Go.Proofs.Ytmembanbemljoaa
