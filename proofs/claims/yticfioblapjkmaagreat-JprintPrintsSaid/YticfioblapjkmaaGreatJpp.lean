/- jparse.Parse. -/
import Derived.Test.YticfioblapjkmaaGreatJo
import Derived.Deep.CutRange
namespace Go.Proofs.YticfioblapjkmaaGreat
open Go.RowKit
set_option linter.unusedVariables false
set_option linter.unusedSimpArgs false

variable {X : Nat} {a : Option Addr} {b off c : Nat} {l : List UInt8}
theorem value_ret {W : World} {H : Nat} {v0 v1 v2 v3 v4 : Value} (tmps : Array Value) (hz : tmps[6]?.getD undef = .pointer (some ⟨H, 0, none⟩)) (hc : ∀ j, W.cell? ⟨H, j, none⟩ = (#[v0, v1, v2, v3, v4] : Array Value)[j]?) :
    (results Tryz.f19 tmps).run Tryz.prog W = .ok (.agg #[v0, v1, v2, v3, v4]) W := by
  simp [results, Tryz.results19, go_sem, hz, hc]
/-- A leaf. -/
theorem VPost.leaf {W : World} {X H : Nat} {bv : Value} {m : MT} {k n : Int} {s : List UInt8} (hH : W.heap.size = H) (hX : X < H) (hG : Good W X bv m) :
    VPost W X bv (.ok (.mk k n s [] []) m.nx) (.returned (.agg #[.int .i64 k, .int .i64 n, .string (str s), .slice none 0 0, .slice none 0 0])) (W.alloc (.cells #[.int .i64 k, .int .i64 n, .string (str s), .slice none 0 0, .slice none 0 0] 25)) := by
  refine ⟨_, _, _, _, _, rfl, by intro u hu; simp at hu; rcases hu with rfl | rfl | rfl | rfl | rfl <;> rfl, (Near.refl X W.heap.size W).alloc (by omega) (Nat.le_refl _) _, fun e he => (by cases he), fun t q hq => ?_⟩
  cases hq
  exact ⟨hG.any.keep (heap_alloc_old W _ (by omega)), .mk (RowAt.nil _ _ _) (vss := []) (RowAt.nil _ _ _) rfl (fun i x vs h => by simp at h)⟩
/-- A refusal. -/
theorem VPost.no {W1 : World} {X H : Nat} {bv : Value} {e : Nat} {W0 : World} (hH : W0.heap.size = H) (hN : Near X H W0 W1) (hB : Bad W1 X bv e) :
    VPost W0 X bv (.bad e) (.returned (.agg #[.int .i64 0, .int .i64 0, .string ⟨#[]⟩, .slice none 0 0, .slice none 0 0])) W1 := by
  refine ⟨_, _, _, _, _, rfl, by intro u hu; simp at hu; rcases hu with rfl | rfl | rfl | rfl | rfl <;> rfl, hH ▸ hN, fun e' he => ?_, fun t q hq => by cases hq⟩
  cases he
  exact hB
/-- A tree from within. -/
theorem VPost.pass {W W1 : World} {X H : Nat} {bv : Value} {R : JR} {v0 v1 v2 v3 v4 : Value} {o : Obj} (hH : W.heap.size = H) (hX : X < H) (hN : Near X (W.alloc o).heap.size (W.alloc o) W1) (h1 : ∀ u ∈ [v0, v1, v2, v3, v4], u.oneCell' = true) (hb : ∀ e, R = .bad e → Bad W1 X bv e)
    (ho : ∀ t q, R = .ok t q → Any W1 X bv (q : Int) 0 ∧ JAt W1 (fun b => (W.alloc o).heap.size ≤ b ∧ b < W1.heap.size) t [v0, v1, v2, v3, v4]) :
    VPost W X bv R (.returned (.agg #[v0, v1, v2, v3, v4])) (put5 W1 H v0 v1 v2 v3 v4) := by
  have hs := hN.below.size
  simp at hs
  refine VPost.ret hX hH (by omega) ?_ h1 hb (fun t q hq => ⟨(ho t q hq).1, (ho t q hq).2.mono (fun b hb => ⟨by have := hb.1; simp at this; omega, hb.2⟩)⟩)
  exact ((Near.refl X H W).alloc (by omega) (by omega) o).later hN (by simp; omega)

set_option maxRecDepth 100000 in
set_option maxHeartbeats 4000000 in
theorem pvalue_leaf {W : World} {m : MT} {d : Nat} (hX : X < W.heap.size) (hT : Took W X (.slice a l.length c) m) (D : Int) (hk : m.k = 7 ∨ m.k = 8 ∨ m.k = 9 ∨ m.k = 10) :
    Calls Tryz.prog 19 #[.pointer (some ⟨X, 0, none⟩), .int .i64 (m.k : Int), .int .i64 D] W (VPost W X (.slice a l.length c) (mVal l d m)) := by
  obtain ⟨H, hH⟩ : ∃ H, W.heap.size = H := ⟨_, rfl⟩
  rw [hH] at hX
  have hG : Good W X (.slice a l.length c) m := by
    rcases hT with h | h
    · exact h.2
    · omega
  have c4 : ∀ o, (W.alloc o).cell? ⟨X, 4, none⟩ = some (.int .i64 m.n) := fun o => Blk.cell ((heap_alloc_old W o (by omega : X < W.heap.size)).trans hG) 4
  have c5 : ∀ o, (W.alloc o).cell? ⟨X, 5, none⟩ = some (.string (str m.s)) := fun o => Blk.cell ((heap_alloc_old W o (by omega : X < W.heap.size)).trans hG) 5
  have hck := fun C => (Blk.made W C 25 H hH).cell
  rcases hk with hk | hk | hk | hk
  · have hv : mVal l d m = .ok (.mk 2 m.n [] [] []) m.nx := by unfold mVal; cases d <;> simp [hk]
    have hp := VPost.leaf (k := 2) (n := m.n) (s := []) hH hX hG
    rw [hv, hk]
    replace hk := Lib.hid hk
    replace hp := Lib.hid hp
    have hr := Lib.hid (hck #[.int .i64 2, .int .i64 m.n, .string ⟨#[]⟩, .slice none 0 0, .slice none 0 0])
    clear hT hG hv
    go_enter Tryz.func19, Tryz.ntmps19
    go_wp2_with fail
    refine bodyPost_ret (value_ret _ (by rfl) hr.out) rfl ?_
    exact hp.out
  · have hv : mVal l d m = .ok (.mk 1 0 [] [] []) m.nx := by unfold mVal; cases d <;> simp [hk]
    have hp := VPost.leaf (k := 1) (n := 0) (s := []) hH hX hG
    rw [hv, hk]
    replace hk := Lib.hid hk
    replace hp := Lib.hid hp
    have hr := Lib.hid (hck #[.int .i64 1, .int .i64 0, .string ⟨#[]⟩, .slice none 0 0, .slice none 0 0])
    clear hT hG hv
    go_enter Tryz.func19, Tryz.ntmps19
    go_wp2_with fail
    refine bodyPost_ret (value_ret _ (by rfl) hr.out) rfl ?_
    exact hp.out
  · have hv : mVal l d m = .ok (.mk 3 m.n [] [] []) m.nx := by unfold mVal; cases d <;> simp [hk]
    have hp := VPost.leaf (k := 3) (n := m.n) (s := []) hH hX hG
    rw [hv, hk]
    replace hk := Lib.hid hk
    replace hp := Lib.hid hp
    have hr := Lib.hid (hck #[.int .i64 3, .int .i64 m.n, .string ⟨#[]⟩, .slice none 0 0, .slice none 0 0])
    clear hT hG hv
    go_enter Tryz.func19, Tryz.ntmps19
    go_wp2_with fail
    refine bodyPost_ret (value_ret _ (by rfl) hr.out) rfl ?_
    exact hp.out
  · have hv : mVal l d m = .ok (.mk 4 0 m.s [] []) m.nx := by unfold mVal; cases d <;> simp [hk]
    have hp := VPost.leaf (k := 4) (n := 0) (s := m.s) hH hX hG
    rw [hv, hk]
    replace hk := Lib.hid hk
    replace hp := Lib.hid hp
    have hr := Lib.hid (hck #[.int .i64 4, .int .i64 0, .string (str m.s), .slice none 0 0, .slice none 0 0])
    clear hT hG hv
    go_enter Tryz.func19, Tryz.ntmps19
    go_wp2_with fail
    refine bodyPost_ret (value_ret _ (by rfl) hr.out) rfl ?_
    exact hp.out

set_option maxRecDepth 100000 in
set_option maxHeartbeats 400000 in
theorem pvalue_no {W : World} {m : MT} {d : Nat} (hX : X < W.heap.size) (hT : Took W X (.slice a l.length c) m) (D : Int) (hk : m.k ≠ 7 ∧ m.k ≠ 8 ∧ m.k ≠ 9 ∧ m.k ≠ 10 ∧ m.k ≠ 1 ∧ m.k ≠ 3) :
    Calls Tryz.prog 19 #[.pointer (some ⟨X, 0, none⟩), .int .i64 (m.k : Int), .int .i64 D] W (VPost W X (.slice a l.length c) (mVal l d m)) := by
  obtain ⟨H, hH⟩ : ∃ H, W.heap.size = H := ⟨_, rfl⟩
  rw [hH] at hX
  obtain ⟨k1, k2, k3, k4, k5, k6⟩ := hk
  have hv : mVal l d m = .bad (wrongE m) := by unfold mVal; cases d <;> simp [k1, k2, k3, k4, k5, k6]
  rw [hv]
  have e1 : ((m.k : Int) == 7) = false := by simp; omega
  have e2 : ((m.k : Int) == 8) = false := by simp; omega
  have e3 : ((m.k : Int) == 9) = false := by simp; omega
  have e4 : ((m.k : Int) == 10) = false := by simp; omega
  have e5 : ((m.k : Int) == 1) = false := by simp; omega
  have e6 : ((m.k : Int) == 3) = false := by simp; omega
  have hfl := fun o => pfail_took (hT.keep (W' := W.alloc o) (heap_alloc_old W o (by omega)))
  have hNa := fun o => (Near.refl X H W).alloc (by omega : X ≤ H) (by omega) o
  have hz := Blk.made W #[.int .i64 0, .int .i64 0, .string ⟨#[]⟩, .slice none 0 0, .slice none 0 0] 25 H hH
  replace hfl := Lib.hid hfl
  replace hNa := Lib.hid hNa
  replace hz := Lib.hid hz
  clear k1 k2 k3 k4 k5 k6 hT hv
  go_enter Tryz.func19, Tryz.ntmps19
  go_wp2_with fail
  refine (hfl.out _).mono ?_
  rintro r W1 ⟨rfl, hN, hB⟩
  have h1 : Blk W1 H #[.int .i64 0, .int .i64 0, .string ⟨#[]⟩, .slice none 0 0, .slice none 0 0] 25 := Near.blk hz.out hN (by simp; omega) (by omega)
  have r4 := h1.cell
  have s4 := h1.free
  have hzr := put5_cell (w := W1) h1 (.int .i64 0) (.int .i64 0) (.string ⟨#[]⟩) (.slice none 0 0) (.slice none 0 0)
  have hN2 := ((hNa.out _).later hN (by simp; omega)).put5 (by omega : X ≤ H) (Nat.le_refl H) (.int .i64 0) (.int .i64 0) (.string ⟨#[]⟩) (.slice none 0 0) (.slice none 0 0)
  have hB2 := hB.keep (heap_put5 W1 H X (.int .i64 0) (.int .i64 0) (.string ⟨#[]⟩) (.slice none 0 0) (.slice none 0 0) (by omega))
  have hp := Lib.hid (VPost.no hH hN2 hB2)
  replace hzr := Lib.hid hzr
  clear hN hB h1 hN2 hB2 hfl
  go_wp2_with fail
  refine bodyPost_ret (value_ret _ (by rfl) hzr.out) rfl ?_
  exact hp.out

set_option maxRecDepth 100000 in
set_option maxHeartbeats 1000000 in
theorem pvalue_deep {W : World} {m : MT} (hX : X < W.heap.size) (hT : Took W X (.slice a l.length c) m) (hk : m.k = 1 ∨ m.k = 3) :
    Calls Tryz.prog 19 #[.pointer (some ⟨X, 0, none⟩), .int .i64 (m.k : Int), .int .i64 32] W (VPost W X (.slice a l.length c) (mVal l 0 m)) := by
  obtain ⟨H, hH⟩ : ∃ H, W.heap.size = H := ⟨_, rfl⟩
  rw [hH] at hX
  have hv : mVal l 0 m = .bad 21 := by unfold mVal; rcases hk with hk | hk <;> simp [hk]
  rw [hv]
  have hG : Good W X (.slice a l.length c) m := by
    rcases hT with h | h
    · exact h.2
    · omega
  have hfl := fun o => pfail_any (hG.any.keep (W' := W.alloc o) (heap_alloc_old W o (by omega))) 21 (by decide)
  have hNa := fun o => (Near.refl X H W).alloc (by omega : X ≤ H) (by omega) o
  have hz := Blk.made W #[.int .i64 0, .int .i64 0, .string ⟨#[]⟩, .slice none 0 0, .slice none 0 0] 25 H hH
  replace hfl := Lib.hid hfl
  replace hNa := Lib.hid hNa
  replace hz := Lib.hid hz
  clear hT hv hG
  rcases hk with hk | hk
  all_goals
    rw [hk]
    replace hk := Lib.hid hk
    go_enter Tryz.func19, Tryz.ntmps19
    go_wp2_with fail
    refine (hfl.out _).mono ?_
    rintro r W1 ⟨rfl, hN, hB⟩
    have h1 : Blk W1 H #[.int .i64 0, .int .i64 0, .string ⟨#[]⟩, .slice none 0 0, .slice none 0 0] 25 := Near.blk hz.out hN (by simp; omega) (by omega)
    have r4 := h1.cell
    have s4 := h1.free
    have hzr := put5_cell (w := W1) h1 (.int .i64 0) (.int .i64 0) (.string ⟨#[]⟩) (.slice none 0 0) (.slice none 0 0)
    have hN2 := ((hNa.out _).later hN (by simp; omega)).put5 (by omega : X ≤ H) (Nat.le_refl H) (.int .i64 0) (.int .i64 0) (.string ⟨#[]⟩) (.slice none 0 0) (.slice none 0 0)
    have hB2 := hB.keep (heap_put5 W1 H X (.int .i64 0) (.int .i64 0) (.string ⟨#[]⟩) (.slice none 0 0) (.slice none 0 0) (by omega))
    have hp := Lib.hid (VPost.no hH hN2 hB2)
    replace hzr := Lib.hid hzr
    clear hN hB h1 hN2 hB2 hfl
    go_wp2_with fail
    refine bodyPost_ret (value_ret _ (by rfl) hzr.out) rfl ?_
    exact hp.out

set_option maxRecDepth 100000 in
set_option maxHeartbeats 1000000 in
theorem pvalue_in {W : World} {m : MT} {d : Nat} (hd : d + 1 ≤ 32) (hV : ValC X a b off c l d) (hE : PEnv W X a b off c l) (hX : X < W.heap.size) (hT : Took W X (.slice a l.length c) m) (hm : m.nx ≤ l.length) (hk : m.k = 1 ∨ m.k = 3) :
    Calls Tryz.prog 19 #[.pointer (some ⟨X, 0, none⟩), .int .i64 (m.k : Int), .int .i64 ((32 - (d + 1) : Nat) : Int)] W (VPost W X (.slice a l.length c) (mVal l (d + 1) m)) := by
  obtain ⟨H, hH⟩ : ∃ H, W.heap.size = H := ⟨_, rfl⟩
  have hX0 := hX
  rw [hH] at hX
  have hG : Good W X (.slice a l.length c) m := by
    rcases hT with h | h
    · exact h.2
    · omega
  obtain ⟨D, hD⟩ : ∃ D : Int, D = ((32 - (d + 1) : Nat) : Int) := ⟨_, rfl⟩
  rw [← hD]
  have hD32 : (D == 32) = false := by rw [hD]; simp; omega
  have hDw : IntKind.i64.wrap (D + 1) = ((32 - d : Nat) : Int) := by rw [hD]; simp [IntKind.wrap, IntKind.bits, IntKind.signed]; omega
  have hAn := fun o => hG.any.keep (W' := W.alloc o) (heap_alloc_old W o (by omega))
  have hEa := fun o => hE.below ((Below.refl H W).alloc (by omega) o) (by omega)
  have hXa := fun o => (show X < (W.alloc o).heap.size by simp; omega)
  have hz := Blk.made W #[.int .i64 0, .int .i64 0, .string ⟨#[]⟩, .slice none 0 0, .slice none 0 0] 25 H hH
  replace hz := Lib.hid hz
  rcases hk with hk | hk
  · have hv : mVal l (d + 1) m = mItems l (mVal l d) true m.nx := by rw [mVal]; simp [hk]
    have hcall := Lib.hid fun o => pobject_any hV (hEa o) (hXa o) hm (hAn o)
    rw [hv, hk]
    obtain ⟨R, hR⟩ : ∃ R, R = mItems l (mVal l d) true m.nx := ⟨_, rfl⟩
    rw [← hR] at hcall ⊢
    rw [← hDw] at hcall
    obtain ⟨D1, hD1⟩ : ∃ D1, D1 = IntKind.i64.wrap (D + 1) := ⟨_, rfl⟩
    rw [← hD1] at hcall
    replace hD1 := hD1.symm
    clear hT hv hG hAn hEa hE hV hD hDw hR
    replace hk := Lib.hid hk
    go_enter Tryz.func19, Tryz.ntmps19
    go_wp2_with fail
    refine (hcall.out _).mono ?_
    rintro r W1 ⟨v0, v1, v2, v3, v4, rfl, hones, hN, hbad, hok⟩
    have h1 : Blk W1 H #[.int .i64 0, .int .i64 0, .string ⟨#[]⟩, .slice none 0 0, .slice none 0 0] 25 := Near.blk hz.out hN (by simp; omega) (by omega)
    have r4 := h1.cell
    have s4 := h1.free
    have hzr := put5_cell (w := W1) h1 v0 v1 v2 v3 v4
    have t0 := fun W' A => run_store Tryz.prog W' A v0 .plain (hones v0 (by simp))
    have t1 := fun W' A => run_store Tryz.prog W' A v1 .plain (hones v1 (by simp))
    have t2 := fun W' A => run_store Tryz.prog W' A v2 .plain (hones v2 (by simp))
    have t3 := fun W' A => run_store Tryz.prog W' A v3 .plain (hones v3 (by simp))
    have t4 := fun W' A => run_store Tryz.prog W' A v4 .plain (hones v4 (by simp))
    have hp := Lib.hid (VPost.pass hH hX hN hones hbad hok)
    replace hzr := Lib.hid hzr
    clear hN hbad hok h1 hones hcall
    go_wp2_with fail
    refine bodyPost_ret (value_ret _ (by rfl) hzr.out) rfl ?_
    exact hp.out
  · have hv : mVal l (d + 1) m = mItems l (mVal l d) false m.nx := by rw [mVal]; simp [hk]
    have hcall := Lib.hid fun o => plist_any hV (hEa o) (hXa o) hm (hAn o)
    rw [hv, hk]
    obtain ⟨R, hR⟩ : ∃ R, R = mItems l (mVal l d) false m.nx := ⟨_, rfl⟩
    rw [← hR] at hcall ⊢
    rw [← hDw] at hcall
    obtain ⟨D1, hD1⟩ : ∃ D1, D1 = IntKind.i64.wrap (D + 1) := ⟨_, rfl⟩
    rw [← hD1] at hcall
    replace hD1 := hD1.symm
    clear hT hv hG hAn hEa hE hV hD hDw hR
    replace hk := Lib.hid hk
    go_enter Tryz.func19, Tryz.ntmps19
    go_wp2_with fail
    refine (hcall.out _).mono ?_
    rintro r W1 ⟨v0, v1, v2, v3, v4, rfl, hones, hN, hbad, hok⟩
    have h1 : Blk W1 H #[.int .i64 0, .int .i64 0, .string ⟨#[]⟩, .slice none 0 0, .slice none 0 0] 25 := Near.blk hz.out hN (by simp; omega) (by omega)
    have r4 := h1.cell
    have s4 := h1.free
    have hzr := put5_cell (w := W1) h1 v0 v1 v2 v3 v4
    have t0 := fun W' A => run_store Tryz.prog W' A v0 .plain (hones v0 (by simp))
    have t1 := fun W' A => run_store Tryz.prog W' A v1 .plain (hones v1 (by simp))
    have t2 := fun W' A => run_store Tryz.prog W' A v2 .plain (hones v2 (by simp))
    have t3 := fun W' A => run_store Tryz.prog W' A v3 .plain (hones v3 (by simp))
    have t4 := fun W' A => run_store Tryz.prog W' A v4 .plain (hones v4 (by simp))
    have hp := Lib.hid (VPost.pass hH hX hN hones hbad hok)
    replace hzr := Lib.hid hzr
    clear hN hbad hok h1 hones hcall
    go_wp2_with fail
    refine bodyPost_ret (value_ret _ (by rfl) hzr.out) rfl ?_
    exact hp.out

/-- value, whatever stands there. -/
theorem pvalue_all : ∀ d, d ≤ 32 → ValC X a b off c l d := by
  intro d
  induction d with
  | zero =>
    intro _ W m hE hX hT hm
    by_cases h1 : m.k = 7 ∨ m.k = 8 ∨ m.k = 9 ∨ m.k = 10
    · exact pvalue_leaf hX hT _ h1
    · by_cases h2 : m.k = 1 ∨ m.k = 3
      · exact pvalue_deep hX hT h2
      · exact pvalue_no hX hT _ (by omega)
  | succ d ih =>
    intro hd W m hE hX hT hm
    by_cases h1 : m.k = 7 ∨ m.k = 8 ∨ m.k = 9 ∨ m.k = 10
    · exact pvalue_leaf hX hT _ h1
    · by_cases h2 : m.k = 1 ∨ m.k = 3
      · exact pvalue_in hd (ih (by omega)) hE hX hT (hm (by omega)) h2
      · exact pvalue_no hX hT _ (by omega)

end Go.Proofs.YticfioblapjkmaaGreat

namespace Go.Proofs.YticfioblapjkmaaGreat
open Go.RowKit
set_option linter.unusedVariables false
set_option linter.unusedSimpArgs false

def zJ : JT := .mk 0 0 [] [] []
/-- What Parse tells: the tree, the refusal. -/
def resT : JR → JT × Nat
  | .bad e => (zJ, e)
  | .ok t _ => (t, 0)
def PPost (W : World) (T : JT × Nat) (r : Ending) (W' : World) : Prop :=
  ∃ v0 v1 v2 v3 v4 : Value, r = .returned (.tuple #[.agg #[v0, v1, v2, v3, v4], .int .i64 (T.2 : Int)]) ∧ Below W.heap.size W W' ∧ JAt W' (fun b => W.heap.size ≤ b ∧ b < W'.heap.size) T.1 [v0, v1, v2, v3, v4]
theorem zJ_at (W : World) (ok : Nat → Prop) : JAt W ok zJ [.int .i64 0, .int .i64 0, .string ⟨#[]⟩, .slice none 0 0, .slice none 0 0] :=
  .mk (RowAt.nil _ _ _) (vss := []) (RowAt.nil _ _ _) rfl (fun i x vs h => by simp at h)
theorem parse_ret {W : World} {H : Nat} {v0 v1 v2 v3 v4 v5 : Value} (tmps : Array Value) (hz : tmps[2]?.getD undef = .pointer (some ⟨H, 0, none⟩)) (h3 : tmps[3]?.getD undef = v5) (hc : ∀ j, W.cell? ⟨H, j, none⟩ = (#[v0, v1, v2, v3, v4] : Array Value)[j]?) :
    (results Tryz.f11 tmps).run Tryz.prog W = .ok (.tuple #[.agg #[v0, v1, v2, v3, v4], v5]) W := by
  simp [results, Tryz.results11, go_sem, hz, hc, h3]
theorem resT_zero {r : JR} (h : (resT r).2 ≠ 0) : (resT r).1 = zJ := by
  cases r with
  | bad e => rfl
  | ok t q => exact absurd rfl h
variable {a : Option Addr} {b off c : Nat} {l : List UInt8}
/-- The end of the text. -/
theorem pend {W : World} {X : Nat} {R1 : JR} (hE : PEnv W X a b off c l) (hR : mVal l 32 (mTakeN l 0) = R1) (hbad : ∀ e, R1 = .bad e → Bad W X (.slice a l.length c) e) (hok : ∀ t q, R1 = .ok t q → Any W X (.slice a l.length c) (q : Int) 0 ∧ q ≤ l.length) :
    Calls Tryz.prog 21 #[.pointer (some ⟨X, 0, none⟩), .int .i64 11] W fun r W' => r = .returned (.tuple #[]) ∧ Near X W.heap.size W W' ∧ (∃ p, Any W' X (.slice a l.length c) p (((resT (mParse l)).2 : Nat) : Int)) ∧ ((resT (mParse l)).2 = 0 → ∃ q, R1 = .ok (resT (mParse l)).1 q) := by
  cases hr : R1 with
  | bad e =>
    have hB := hbad e hr
    have hp : mParse l = .bad e := by unfold mParse; rw [hR, hr]
    refine (pwant_bad hB 11 (by decide)).mono ?_
    rintro r W' ⟨rfl, rfl⟩
    rw [hp]
    exact ⟨rfl, Near.refl _ _ _, hB.2, fun h => absurd h hB.1⟩
  | ok t q =>
    obtain ⟨hA, hq⟩ := hok t q hr
    refine (pwant_any hE hq hA 11 (by decide)).mono ?_
    rintro r W' ⟨rfl, hN, hW⟩
    refine ⟨rfl, hN, ?_⟩
    rcases hW with ⟨h1, h2, h3⟩ | ⟨h1, h2⟩
    · have hp : mParse l = .ok t q := by
        unfold mParse
        rw [hR, hr]
        simp only []
        rw [if_pos h1]
      rw [hp]
      exact ⟨⟨_, h3.any⟩, fun _ => ⟨q, rfl⟩⟩
    · have hp : mParse l = .bad (wrongE (mTakeN l q)) := by
        unfold mParse
        rw [hR, hr]
        simp only []
        rw [if_neg h1]
      rw [hp]
      exact ⟨h2.2, fun h => absurd h h2.1⟩

set_option maxRecDepth 100000 in
set_option maxHeartbeats 2000000 in
theorem parse_any {W : World} (hb : BytesAt W a b off l) (hlen : l.length ≤ c) (hbig : l.length ≤ 20000) (hnil : a = none → c = 0) :
    Calls Tryz.prog 11 #[.slice a l.length c] W (PPost W (resT (mParse l))) := by
  obtain ⟨H, hH⟩ : ∃ H, W.heap.size = H := ⟨_, rfl⟩
  have hli : decide ((20000 : Int) < (l.length : Int)) = false := by simp; omega
  obtain ⟨T, hT⟩ : ∃ T, T = resT (mParse l) := ⟨_, rfl⟩
  -- the world behind the result's block and the parser
  obtain ⟨W2, hW2⟩ : ∃ W2, W2 = (W.alloc (.cells z5J 25)).alloc (.cells #[.slice a l.length c, .int .i64 0, .int .i64 0, .int .i64 0, .int .i64 0, .string ⟨#[]⟩, .int .i64 0, .int .i64 0] 53) := ⟨_, rfl⟩
  have hb2 : Blk W2 H z5J 25 := by rw [hW2]; exact (Blk.made W _ _ H hH).kept ((Below.refl (H + 1) (W.alloc _)).alloc (by simp; omega) _) (by omega)
  have hP2 : Any W2 (H + 1) (.slice a l.length c) ((0 : Nat) : Int) 0 := ⟨0, 0, ⟨#[]⟩, 0, 0, by rw [hW2]; exact Blk.made _ _ _ (H + 1) (by simp; omega)⟩
  have hB2 : Below H W W2 := by rw [hW2]; exact ((Below.refl H W).alloc (by omega) _).alloc (by simp; omega) _
  have hs2 : W2.heap.size = H + 2 := by rw [hW2]; simp; omega
  have hE2 : PEnv W2 (H + 1) a b off c l := ⟨hb.below (hH ▸ hB2), fun hne => by have := hb.lt hne; omega, hlen, by omega, hnil⟩
  have htk := Lib.hid (ptake_any hE2 (Nat.zero_le _) hP2)
  have hkd := take_kinds (l := l) (Nat.zero_le _)
  obtain ⟨m, hm⟩ : ∃ m, m = mTakeN l 0 := ⟨_, rfl⟩
  rw [← hm] at htk hkd
  have hmn : m.k ≠ 0 → m.nx ≤ l.length := fun h => by omega
  obtain ⟨R1, hR1⟩ : ∃ R1, mVal l 32 m = R1 := ⟨_, rfl⟩
  have hwi : ∀ t q, R1 = .ok t q → q ≤ l.length := by
    intro t q h
    have := reads_val (l := l) 32 m
    by_cases hk0 : m.k = 0
    · rw [this.1 hk0] at hR1
      rw [← hR1] at h
      cases h
    · have h2 := this.2 hk0 (hmn hk0)
      rw [hR1, h] at h2
      exact h2.2
  have hpe := fun W X hE hbad hok => pend (a := a) (b := b) (off := off) (c := c) (W := W) (X := X) (R1 := R1) hE (hm ▸ hR1) hbad hok
  rw [← hT] at hpe ⊢
  replace hT := Lib.hid hT
  replace hpe := Lib.hid hpe
  replace hE2 := Lib.hid hE2
  replace hB2 := Lib.hid hB2
  replace hb2 := Lib.hid hb2
  replace hkd := Lib.hid hkd
  replace hm := Lib.hid hm
  replace hwi := Lib.hid hwi
  have hv := Lib.hid fun W1 h1 h2 h3 => hR1 ▸ (pvalue_all (X := H + 1) (a := a) (b := b) (off := off) (c := c) (l := l) 32 (Nat.le_refl _) W1 m h1 h2 h3 hmn)
  replace hR1 := Lib.hid hR1
  clear hb hP2
  unfold z5J at hW2
  go_enter Tryz.func11, Tryz.ntmps11
  go_wp2_with fail
  rw [← hW2]
  clear hW2
  refine htk.out.mono ?_
  rintro r W3 ⟨rfl, hN3, hT3⟩
  rw [hs2] at hN3
  have hE3 := hE2.out.near hN3
  have hs3 := hN3.below.size
  have hb3 : Blk W3 H z5J 25 := Near.blk hb2.out hN3 (by omega) (by omega)
  have hv3 := Lib.hid (hv.out W3 hE3 (by omega) hT3)
  have hB3 := Lib.hid (hB2.out.trans (hN3.below.mono (by omega : H ≤ H + 1)))
  clear hN3 hT3 htk
  go_wp2_with fail
  refine hv3.out.mono ?_
  rintro r W4 ⟨v0, v1, v2, v3, v4, rfl, hones, hN4, hbad, hok⟩
  obtain ⟨Y, hY⟩ : ∃ Y, W4.heap.size = Y := ⟨_, rfl⟩
  have hE4 := hE3.near hN4
  have hs4 := hN4.below.size
  have t0 := fun W' A => run_store Tryz.prog W' A v0 .plain (hones v0 (by simp))
  have t1 := fun W' A => run_store Tryz.prog W' A v1 .plain (hones v1 (by simp))
  have t2 := fun W' A => run_store Tryz.prog W' A v2 .plain (hones v2 (by simp))
  have t3 := fun W' A => run_store Tryz.prog W' A v3 .plain (hones v3 (by simp))
  have t4 := fun W' A => run_store Tryz.prog W' A v4 .plain (hones v4 (by simp))
  have hB4 := hB3.out.trans (hN4.below.mono (by omega : H ≤ H + 1))
  have hb4 : Blk W4 H z5J 25 := Near.blk hb3 hN4 (by omega) (by omega)
  have hX5 : (W4.alloc (.cells #[v0, v1, v2, v3, v4] 25)).heap[H + 1]? = W4.heap[H + 1]? := heap_alloc_old W4 _ (by omega)
  have hE5 := hE4.below ((Below.refl Y W4).alloc (by omega) (.cells #[v0, v1, v2, v3, v4] 25)) (by omega)
  have hwt := Lib.hid (hpe.out _ (H + 1) hE5 (fun e he => (hbad e he).keep hX5) (fun t q h => ⟨(hok t q h).1.keep hX5, hwi.out t q h⟩))
  have hB5 := Lib.hid (hB4.alloc (by omega) (.cells #[v0, v1, v2, v3, v4] 25))
  have hb5 : Blk (W4.alloc (.cells #[v0, v1, v2, v3, v4] 25)) H z5J 25 := (heap_alloc_old W4 _ (by omega)).trans hb4
  have hy5 := Blk.made W4 #[v0, v1, v2, v3, v4] 25 Y hY
  clear hv3 hE4 hE5 hbad hX5 hb4 hB4
  go_wp2_with fail
  refine hwt.out.mono ?_
  rintro r W6 ⟨rfl, hN6, ⟨p6, hA6⟩, hfin⟩
  have hb6 : Blk W6 H z5J 25 := Near.blk hb5 hN6 (by simp; omega) (by omega)
  have hy6 : Blk W6 Y #[v0, v1, v2, v3, v4] 25 := Near.blk hy5 hN6 (by simp; omega) (by omega)
  have hB6 := hB5.out.trans (hN6.below.mono (by omega : H ≤ H + 1))
  have hs6 := hN6.below.size
  simp at hs6
  obtain ⟨k6, n6, s6, a6, x6, hP6⟩ := hA6
  have c2 := hP6.cell 2
  have r4 := hb6.cell
  have s4 := hb6.free
  have r5 := hy6.cell
  unfold z5J at r4
  by_cases hT0 : T.2 = 0
  · obtain ⟨q, hq⟩ := hfin hT0
    have hJ := (hok _ q hq).2
    have hzr := put5_cell (w := W6) hb6 v0 v1 v2 v3 v4
    have hJ6 : JAt (put5 W6 H v0 v1 v2 v3 v4) (fun b => W.heap.size ≤ b ∧ b < (put5 W6 H v0 v1 v2 v3 v4).heap.size) T.1 [v0, v1, v2, v3, v4] := by
      refine (hJ.frame (fun b hb => ?_)).mono (fun b hb => ⟨by omega, by rw [size_put5]; omega⟩)
      rw [heap_put5 _ _ _ _ _ _ _ _ (by omega), hN6.far b (by simp; omega) (by omega)]
      exact heap_alloc_old W4 _ hb.2
    have hp : PPost W T (.returned (.tuple #[.agg #[v0, v1, v2, v3, v4], .int .i64 0])) (put5 W6 H v0 v1 v2 v3 v4) := by
      refine ⟨_, _, _, _, _, by rw [hT0]; rfl, ?_, hJ6⟩
      rw [hH]
      exact below_put5 hB6 (Nat.le_refl _) _ _ _ _ _
    rw [hT0] at c2
    replace hT0 := Lib.hid hT0
    replace hp := Lib.hid hp
    replace hzr := Lib.hid hzr
    clear hJ hJ6 hN6 hok hfin hq hP6 hb6 hy6 hB6 hb5 hy5 hwt
    go_wp2_with fail
    refine bodyPost_ret (parse_ret _ (by rfl) (by rfl) hzr.out) rfl ?_
    exact hp.out
  · have hz1 : T.1 = zJ := by rw [hT.out] at hT0 ⊢; exact resT_zero hT0
    have hez : ((T.2 : Int) == 0) = false := by simp; omega
    have hzr := put5_cell (w := W6) hb6 (.int .i64 0) (.int .i64 0) (.string ⟨#[]⟩) (.slice none 0 0) (.slice none 0 0)
    have hp : PPost W T (.returned (.tuple #[.agg #[.int .i64 0, .int .i64 0, .string ⟨#[]⟩, .slice none 0 0, .slice none 0 0], .int .i64 (T.2 : Int)])) (put5 W6 H (.int .i64 0) (.int .i64 0) (.string ⟨#[]⟩) (.slice none 0 0) (.slice none 0 0)).drew := by
      refine ⟨_, _, _, _, _, rfl, ?_, by rw [hz1]; exact zJ_at _ _⟩
      rw [hH]
      exact (below_put5 hB6 (Nat.le_refl _) _ _ _ _ _).drew
    replace hT0 := Lib.hid hT0
    replace hp := Lib.hid hp
    replace hzr := Lib.hid hzr
    clear hN6 hok hfin hP6 hb6 hy6 hB6 hb5 hy5 hwt hz1
    go_wp2_with fail
    go_cut [3] from 19 to 28 (fun v3 W7 => v3 = .int .i64 (T.2 : Int) ∧ W7 = (put5 W6 H (.int .i64 0) (.int .i64 0) (.string ⟨#[]⟩) (.slice none 0 0) (.slice none 0 0)).drew)
    case first =>
      go_region_law (fail)
      all_goals
        go_wp2_with fail
        go_meet
        case rel => exact ⟨rfl, rfl⟩
    case rest =>
      obtain ⟨rfl, rfl⟩ := hcut
      clear c2 r4 s4 r5
      go_wp2_with fail
      refine bodyPost_ret (parse_ret _ (by rfl) (by rfl) hzr.out) rfl ?_
      exact hp.out

end Go.Proofs.YticfioblapjkmaaGreat
