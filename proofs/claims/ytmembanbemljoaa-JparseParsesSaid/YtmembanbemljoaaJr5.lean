/- avocet/avocetref07.value. -/
import Derived.Test.YtmembanbemljoaaJr4
namespace Go.Proofs.Ytmembanbemljoaa
open Go.RowKit
set_option linter.unusedVariables false
set_option linter.unusedSimpArgs false

variable {l : List UInt8} {ws : List MT} {g cp : Nat}
theorem rvalue_ret {W : World} {H : Nat} {v0 v1 v2 v3 v4 v5 v6 : Value} (tmps : Array Value) (hz : tmps[6]?.getD undef = .pointer (some ⟨H, 0, none⟩)) (h5 : tmps[7]?.getD undef = v5) (h6 : tmps[8]?.getD undef = v6) (hc : ∀ j, W.cell? ⟨H, j, none⟩ = (#[v0, v1, v2, v3, v4] : Array Value)[j]?) :
    (results Try.f54 tmps).run Try.prog W = .ok (.tuple #[.agg #[v0, v1, v2, v3, v4], v5, v6]) W := by
  simp [results, Try.results54, go_sem, hz, hc, h5, h6]
/-- A leaf. -/
theorem RVPost.leaf {W : World} {H i : Nat} {p : Nat} {k n : Int} {s : List UInt8} {o : Obj} (hAt : At l ws i p) (hk : (mTakeN l p).k ≠ 11) (hk0 : (mTakeN l p).k ≠ 0) :
    RVPost W l ws i (.ok (.mk k n s [] []) (mTakeN l p).nx) (.returned (.tuple #[.agg #[.int .i64 k, .int .i64 n, .string (str s), .slice none 0 0, .slice none 0 0], .int .i64 ((i + 1 : Nat) : Int), .int .i64 0]))
      ((W.alloc (.cells #[.int .i64 k, .int .i64 n, .string (str s), .slice none 0 0, .slice none 0 0] 58)).alloc o) := by
  refine ⟨_, _, _, _, _, _, _, rfl, by intro u hu; simp at hu; rcases hu with rfl | rfl | rfl | rfl | rfl <;> rfl, ((Below.refl W.heap.size W).alloc (Nat.le_refl _) _).alloc (by simp) _, fun e he => (by cases he), fun t q hq => ?_⟩
  cases hq
  exact ⟨rfl, .mk (RowAt.nil _ _ _) (vss := []) (RowAt.nil _ _ _) rfl (fun i x vs h => by simp at h), i + 1, rfl, by omega, hAt.next (by rw [w0_k hAt.2]; exact hk) (by rw [w0_k hAt.2]; exact hk0)⟩
set_option maxRecDepth 100000 in
set_option maxHeartbeats 1000000 in
theorem rvalue_leaf {d : Nat} (hlen : ws.length ≤ 1000001) {W : World} {i p : Nat} (hW : WsAt W g ws) (hAt : At l ws i p) (D : Int) (hk : (mTakeN l p).k = 7 ∨ (mTakeN l p).k = 8 ∨ (mTakeN l p).k = 9 ∨ (mTakeN l p).k = 10) :
    Calls Try.prog 54 #[.slice (some ⟨g, 0, none⟩) ws.length cp, .int .i64 (i : Int), .int .i64 D] W (RVPost W l ws i (mVal l d (mTakeN l p))) := by
  obtain ⟨H, hH⟩ : ∃ H, W.heap.size = H := ⟨_, rfl⟩
  have hi := hAt.lt
  have hilt : (i : Int) < (ws.length : Int) := by omega
  have hiw : IntKind.i64.wrap ((i : Int) + 1) = ((i + 1 : Nat) : Int) := by simp [IntKind.wrap, IntKind.bits, IntKind.signed]; omega
  have hw := w0_eq hAt.2 (by omega : (mTakeN l p).k ≠ 0)
  have hWa := fun o => hW.below ((Below.refl W.heap.size W).alloc (Nat.le_refl _) o) hW.1
  have f0 := fun o => ((hWa o).2 i _ hAt.get).1
  have f1 := fun o => ((hWa o).2 i _ hAt.get).2.1
  have f2 := fun o => ((hWa o).2 i _ hAt.get).2.2.1
  have f3 := fun o => ((hWa o).2 i _ hAt.get).2.2.2.1
  have f4 := fun o => ((hWa o).2 i _ hAt.get).2.2.2.2
  rw [hw] at f0 f1 f2 f3 f4
  have hleaf := fun k n s o hk hk0 => RVPost.leaf (W := W) (H := H) (k := k) (n := n) (s := s) (o := o) hAt hk hk0
  have hck := fun C o => ((Blk.made W C 58 H hH).kept ((Below.refl (H + 1) (W.alloc (.cells C 58))).alloc (by simp; omega) o) (by omega)).cell
  have hcw := fun o C => (Blk.made (W.alloc o) C 40 (H + 1) (by simp; omega)).cell
  obtain ⟨m, hm⟩ : ∃ m, m = mTakeN l p := ⟨_, rfl⟩
  rw [← hm] at f0 f1 f2 f3 f4 hk hleaf ⊢
  replace hm := Lib.hid hm
  clear hw hWa hAt hW
  rcases hk with hk | hk | hk | hk
  · have hv : mVal l d m = .ok (.mk 2 m.n [] [] []) m.nx := by unfold mVal; cases d <;> simp [hk]
    have hp := Lib.hid fun o => hleaf 2 m.n [] o (by omega) (by omega)
    have hr := Lib.hid (hck #[.int .i64 2, .int .i64 m.n, .string ⟨#[]⟩, .slice none 0 0, .slice none 0 0])
    rw [hv]
    rw [hk] at f0
    replace hk := Lib.hid hk
    clear hv hleaf hck
    go_enter Try.func54, Try.ntmps54
    go_wp2_with fail
    refine bodyPost_ret (rvalue_ret _ (by rfl) (by rfl) (by rfl) (hr.out _)) rfl ?_
    exact hp.out _
  · have hv : mVal l d m = .ok (.mk 1 0 [] [] []) m.nx := by unfold mVal; cases d <;> simp [hk]
    have hp := Lib.hid fun o => hleaf 1 0 [] o (by omega) (by omega)
    have hr := Lib.hid (hck #[.int .i64 1, .int .i64 0, .string ⟨#[]⟩, .slice none 0 0, .slice none 0 0])
    rw [hv]
    rw [hk] at f0
    replace hk := Lib.hid hk
    clear hv hleaf hck
    go_enter Try.func54, Try.ntmps54
    go_wp2_with fail
    refine bodyPost_ret (rvalue_ret _ (by rfl) (by rfl) (by rfl) (hr.out _)) rfl ?_
    exact hp.out _
  · have hv : mVal l d m = .ok (.mk 3 m.n [] [] []) m.nx := by unfold mVal; cases d <;> simp [hk]
    have hp := Lib.hid fun o => hleaf 3 m.n [] o (by omega) (by omega)
    have hr := Lib.hid (hck #[.int .i64 3, .int .i64 m.n, .string ⟨#[]⟩, .slice none 0 0, .slice none 0 0])
    rw [hv]
    rw [hk] at f0
    replace hk := Lib.hid hk
    clear hv hleaf hck
    go_enter Try.func54, Try.ntmps54
    go_wp2_with fail
    refine bodyPost_ret (rvalue_ret _ (by rfl) (by rfl) (by rfl) (hr.out _)) rfl ?_
    exact hp.out _
  · have hv : mVal l d m = .ok (.mk 4 0 m.s [] []) m.nx := by unfold mVal; cases d <;> simp [hk]
    have hp := Lib.hid fun o => hleaf 4 0 m.s o (by omega) (by omega)
    have hr := Lib.hid (hck #[.int .i64 4, .int .i64 0, .string (str m.s), .slice none 0 0, .slice none 0 0])
    rw [hv]
    rw [hk] at f0
    replace hk := Lib.hid hk
    clear hv hleaf hck
    go_enter Try.func54, Try.ntmps54
    go_wp2_with fail
    refine bodyPost_ret (rvalue_ret _ (by rfl) (by rfl) (by rfl) (hr.out _)) rfl ?_
    exact hp.out _

set_option maxRecDepth 100000 in
set_option maxHeartbeats 1000000 in
theorem rvalue_no {d : Nat} (hlen : ws.length ≤ 1000001) {W : World} {i p : Nat} (hW : WsAt W g ws) (hAt : At l ws i p) (D : Int) (hk : (mTakeN l p).k ≠ 7 ∧ (mTakeN l p).k ≠ 8 ∧ (mTakeN l p).k ≠ 9 ∧ (mTakeN l p).k ≠ 10 ∧ (mTakeN l p).k ≠ 1 ∧ (mTakeN l p).k ≠ 3) :
    Calls Try.prog 54 #[.slice (some ⟨g, 0, none⟩) ws.length cp, .int .i64 (i : Int), .int .i64 D] W (RVPost W l ws i (mVal l d (mTakeN l p))) := by
  obtain ⟨H, hH⟩ : ∃ H, W.heap.size = H := ⟨_, rfl⟩
  obtain ⟨k1, k2, k3, k4, k5, k6⟩ := hk
  have hv : mVal l d (mTakeN l p) = .bad (wrongE (mTakeN l p)) := by unfold mVal; cases d <;> simp [k1, k2, k3, k4, k5, k6]
  rw [hv]
  have hi := hAt.lt
  have hilt : (i : Int) < (ws.length : Int) := by omega
  have hkw := w0_k hAt.2
  have hWa := fun o => hW.below ((Below.refl W.heap.size W).alloc (Nat.le_refl _) o) hW.1
  have f0 := fun o => ((hWa o).2 i _ hAt.get).1
  have f1 := fun o => ((hWa o).2 i _ hAt.get).2.1
  have f2 := fun o => ((hWa o).2 i _ hAt.get).2.2.1
  have f3 := fun o => ((hWa o).2 i _ hAt.get).2.2.2.1
  have f4 := fun o => ((hWa o).2 i _ hAt.get).2.2.2.2
  have hwr := fun W' => rwrong_any (W := W') hAt.2
  obtain ⟨x, hx⟩ : ∃ x, x = w0 l p := ⟨_, rfl⟩
  obtain ⟨e, he⟩ : ∃ e, e = wrongE (mTakeN l p) := ⟨_, rfl⟩
  rw [← hx] at f0 f1 f2 f3 f4 hwr hkw
  rw [← he] at hwr ⊢
  have e1 : ((x.k : Int) == 7) = false := by simp; omega
  have e2 : ((x.k : Int) == 8) = false := by simp; omega
  have e3 : ((x.k : Int) == 9) = false := by simp; omega
  have e4 : ((x.k : Int) == 10) = false := by simp; omega
  have e5 : ((x.k : Int) == 1) = false := by simp; omega
  have e6 : ((x.k : Int) == 3) = false := by simp; omega
  have hcw := fun o C => (Blk.made (W.alloc o) C 40 (H + 1) (by simp; omega)).cell
  have hz := fun o => (Blk.made W #[.int .i64 0, .int .i64 0, .string ⟨#[]⟩, .slice none 0 0, .slice none 0 0] 58 H hH).kept ((Below.refl (H + 1) (W.alloc (.cells #[.int .i64 0, .int .i64 0, .string ⟨#[]⟩, .slice none 0 0, .slice none 0 0] 58))).alloc (by simp; omega) o) (by omega)
  have hB := fun o o' => ((Below.refl H W).alloc (by omega) o).alloc (by simp; omega) o'
  replace hwr := Lib.hid hwr
  replace hz := Lib.hid hz
  replace hB := Lib.hid hB
  replace he := Lib.hid he
  replace hx := Lib.hid hx
  clear hv hkw k1 k2 k3 k4 k5 k6 hWa hW hAt
  go_enter Try.func54, Try.ntmps54
  go_wp2_with fail
  refine (hwr.out _).mono ?_
  rintro r w7 ⟨rfl, hb7⟩
  have h47 := (hz.out _).kept hb7 (by simp; omega)
  have hB7 := (hB.out _ _).trans (hb7.mono (by simp; omega))
  have r4 := h47.cell
  have s4 := h47.free
  have hzr := put5_cell h47 (.int .i64 0) (.int .i64 0) (.string ⟨#[]⟩) (.slice none 0 0) (.slice none 0 0)
  have hfin := RVPost.no (l := l) (ws := ws) (i0 := i) (e := e) (i' := (i : Int)) hH (below_put5 hB7 (Nat.le_refl H) (.int .i64 0) (.int .i64 0) (.string ⟨#[]⟩) (.slice none 0 0) (.slice none 0 0))
  replace hfin := Lib.hid hfin
  replace hzr := Lib.hid hzr
  clear hb7 h47 hB7 f0 f1 f2 f3 f4
  go_wp2_with fail
  refine bodyPost_ret (rvalue_ret _ (by rfl) (by rfl) (by rfl) hzr.out) rfl ?_
  exact hfin.out

set_option maxRecDepth 100000 in
set_option maxHeartbeats 1000000 in
theorem rvalue_deep (hlen : ws.length ≤ 1000001) {W : World} {i p : Nat} (hW : WsAt W g ws) (hAt : At l ws i p) (hk : (mTakeN l p).k = 1 ∨ (mTakeN l p).k = 3) :
    Calls Try.prog 54 #[.slice (some ⟨g, 0, none⟩) ws.length cp, .int .i64 (i : Int), .int .i64 32] W (RVPost W l ws i (mVal l 0 (mTakeN l p))) := by
  obtain ⟨H, hH⟩ : ∃ H, W.heap.size = H := ⟨_, rfl⟩
  have hv : mVal l 0 (mTakeN l p) = .bad 21 := by unfold mVal; rcases hk with hk | hk <;> simp [hk]
  rw [hv]
  have hi := hAt.lt
  have hilt : (i : Int) < (ws.length : Int) := by omega
  have hw := w0_eq hAt.2 (by omega : (mTakeN l p).k ≠ 0)
  have hWa := fun o => hW.below ((Below.refl W.heap.size W).alloc (Nat.le_refl _) o) hW.1
  have f0 := fun o => ((hWa o).2 i _ hAt.get).1
  have f1 := fun o => ((hWa o).2 i _ hAt.get).2.1
  have f2 := fun o => ((hWa o).2 i _ hAt.get).2.2.1
  have f3 := fun o => ((hWa o).2 i _ hAt.get).2.2.2.1
  have f4 := fun o => ((hWa o).2 i _ hAt.get).2.2.2.2
  rw [hw] at f0 f1 f2 f3 f4
  obtain ⟨m, hm⟩ : ∃ m, m = mTakeN l p := ⟨_, rfl⟩
  rw [← hm] at f0 f1 f2 f3 f4 hk
  have hcw := fun o C => (Blk.made (W.alloc o) C 40 (H + 1) (by simp; omega)).cell
  have hz := fun o => ((Blk.made W #[.int .i64 0, .int .i64 0, .string ⟨#[]⟩, .slice none 0 0, .slice none 0 0] 58 H hH).kept ((Below.refl (H + 1) (W.alloc (.cells #[.int .i64 0, .int .i64 0, .string ⟨#[]⟩, .slice none 0 0, .slice none 0 0] 58))).alloc (by simp; omega) o) (by omega)).cell
  have hp := fun o o' => RVPost.no (l := l) (ws := ws) (i0 := i) (e := 21) (i' := (i : Int)) hH (((Below.refl H W).alloc (by omega) o).alloc (by simp; omega) o')
  replace hz := Lib.hid hz
  replace hp := Lib.hid hp
  replace hm := Lib.hid hm
  clear hv hw hWa hW hAt
  rcases hk with hk | hk
  all_goals
    rw [hk] at f0
    replace hk := Lib.hid hk
    go_enter Try.func54, Try.ntmps54
    go_wp2_with fail
    refine bodyPost_ret (rvalue_ret _ (by rfl) (by rfl) (by rfl) (hz.out _)) rfl ?_
    exact hp.out _ _

/-- A tree from within. -/
theorem RVPost.pass {W W1 : World} {H i : Nat} {R : JR} {v0 v1 v2 v3 v4 : Value} {i' e' : Int} {W0 : World} (hH : W0.heap.size = H) (hB0 : Below H W0 W) (hs : H + 2 ≤ W.heap.size) (h1 : ∀ u ∈ [v0, v1, v2, v3, v4], u.oneCell' = true) (hB : Below W.heap.size W W1) (hbad : ∀ e, R = .bad e → e' = (e : Int))
    (hok : ∀ t q, R = .ok t q → e' = 0 ∧ JAt W1 (fun b => W.heap.size ≤ b ∧ b < W1.heap.size) t [v0, v1, v2, v3, v4] ∧ ∃ j : Nat, i' = (j : Int) ∧ i + 1 < j ∧ At l ws j q) :
    RVPost W0 l ws i R (.returned (.tuple #[.agg #[v0, v1, v2, v3, v4], .int .i64 i', .int .i64 e'])) (put5 W1 H v0 v1 v2 v3 v4) := by
  have hs1 := hB.size
  refine RVPost.fill hH (by omega) (hB0.trans (hB.mono (by omega))) h1 hbad (fun t q hq => ?_)
  obtain ⟨h2, h3, j, h4, h5, h6⟩ := hok t q hq
  exact ⟨h2, h3.mono (fun b hb => ⟨by omega, hb.2⟩), j, h4, by omega, h6⟩
set_option maxRecDepth 100000 in
set_option maxHeartbeats 1000000 in
theorem rvalue_in {d : Nat} (hd : d + 1 ≤ 32) (hV : RValC l g cp ws d) (hlen : ws.length ≤ 1000001) {W : World} {i p : Nat} (hW : WsAt W g ws) (hAt : At l ws i p) (hk : (mTakeN l p).k = 1 ∨ (mTakeN l p).k = 3) :
    Calls Try.prog 54 #[.slice (some ⟨g, 0, none⟩) ws.length cp, .int .i64 (i : Int), .int .i64 ((32 - (d + 1) : Nat) : Int)] W (RVPost W l ws i (mVal l (d + 1) (mTakeN l p))) := by
  obtain ⟨H, hH⟩ : ∃ H, W.heap.size = H := ⟨_, rfl⟩
  have hi := hAt.lt
  have hilt : (i : Int) < (ws.length : Int) := by omega
  have hiw : IntKind.i64.wrap ((i : Int) + 1) = ((i + 1 : Nat) : Int) := by simp [IntKind.wrap, IntKind.bits, IntKind.signed]; omega
  obtain ⟨D, hD⟩ : ∃ D : Int, D = ((32 - (d + 1) : Nat) : Int) := ⟨_, rfl⟩
  rw [← hD]
  have hD32 : (D == 32) = false := by rw [hD]; simp; omega
  have hDw : IntKind.i64.wrap (D + 1) = ((32 - d : Nat) : Int) := by rw [hD]; simp [IntKind.wrap, IntKind.bits, IntKind.signed]; omega
  have hw := w0_eq hAt.2 (by omega : (mTakeN l p).k ≠ 0)
  have hkw := w0_k hAt.2
  have hAt2 := hAt.next (by rw [hkw]; omega) (by rw [hkw]; omega)
  have hWa := fun o => hW.below ((Below.refl W.heap.size W).alloc (Nat.le_refl _) o) hW.1
  have hWb := fun o o' => hW.below (((Below.refl W.heap.size W).alloc (Nat.le_refl _) o).alloc (by simp) o') hW.1
  have f0 := fun o => ((hWa o).2 i _ hAt.get).1
  have f1 := fun o => ((hWa o).2 i _ hAt.get).2.1
  have f2 := fun o => ((hWa o).2 i _ hAt.get).2.2.1
  have f3 := fun o => ((hWa o).2 i _ hAt.get).2.2.2.1
  have f4 := fun o => ((hWa o).2 i _ hAt.get).2.2.2.2
  rw [hw] at f0 f1 f2 f3 f4
  obtain ⟨m, hm⟩ : ∃ m, m = mTakeN l p := ⟨_, rfl⟩
  rw [← hm] at f0 f1 f2 f3 f4 hk hAt2 ⊢
  have hcw := fun o C => (Blk.made (W.alloc o) C 40 (H + 1) (by simp; omega)).cell
  have hz := fun o => (Blk.made W #[.int .i64 0, .int .i64 0, .string ⟨#[]⟩, .slice none 0 0, .slice none 0 0] 58 H hH).kept ((Below.refl (H + 1) (W.alloc (.cells #[.int .i64 0, .int .i64 0, .string ⟨#[]⟩, .slice none 0 0, .slice none 0 0] 58))).alloc (by simp; omega) o) (by omega)
  have hB := fun o o' => ((Below.refl H W).alloc (by omega) o).alloc (by simp; omega) o'
  have hl := fun o o' => ritems_list hV hlen (hWb o o') hAt2
  have ho := fun o o' => ritems_obj hV hlen (hWb o o') hAt2
  rw [← hDw] at hl ho
  obtain ⟨D1, hD1⟩ : ∃ D1, D1 = IntKind.i64.wrap (D + 1) := ⟨_, rfl⟩
  rw [← hD1] at hl ho
  replace hD1 := hD1.symm
  obtain ⟨i2, hi2⟩ : ∃ i2, i2 = i + 1 := ⟨_, rfl⟩
  rw [← hi2] at hl ho hiw
  have hi2' := hi2
  replace hi2 := Lib.hid hi2
  replace hi2' := Lib.hid hi2'
  replace hz := Lib.hid hz
  replace hB := Lib.hid hB
  replace hm := Lib.hid hm
  clear hw hkw hAt2 hWa hWb hW hAt hV hD hDw
  rcases hk with hk | hk
  · have hv : mVal l (d + 1) m = mItems l (mVal l d) true m.nx := by rw [mVal]; simp [hk]
    rw [hv]
    obtain ⟨R, hR⟩ : ∃ R, R = mItems l (mVal l d) true m.nx := ⟨_, rfl⟩
    rw [← hR] at ho ⊢
    rw [hk] at f0
    replace ho := Lib.hid ho
    replace hk := Lib.hid hk
    replace hR := Lib.hid hR
    clear hl hv
    go_enter Try.func54, Try.ntmps54
    go_wp2_with fail
    refine (ho.out _ _).mono ?_
    rintro r W1 ⟨v0, v1, v2, v3, v4, i', e', rfl, hones, hB1, hbad, hok⟩
    have h1 := (hz.out _).kept hB1 (by simp; omega)
    have r4 := h1.cell
    have s4 := h1.free
    have hzr := put5_cell h1 v0 v1 v2 v3 v4
    have t0 := fun W' A => run_store Try.prog W' A v0 .plain (hones v0 (by simp))
    have t1 := fun W' A => run_store Try.prog W' A v1 .plain (hones v1 (by simp))
    have t2 := fun W' A => run_store Try.prog W' A v2 .plain (hones v2 (by simp))
    have t3 := fun W' A => run_store Try.prog W' A v3 .plain (hones v3 (by simp))
    have t4 := fun W' A => run_store Try.prog W' A v4 .plain (hones v4 (by simp))
    have hp := RVPost.pass (i := i) hH (hB.out _ _) (by simp; omega) hones hB1 hbad (hi2'.out ▸ hok)
    replace hp := Lib.hid hp
    replace hzr := Lib.hid hzr
    clear hB1 hbad hok h1 hones ho
    go_wp2_with fail
    refine bodyPost_ret (rvalue_ret _ (by rfl) (by rfl) (by rfl) hzr.out) rfl ?_
    exact hp.out
  · have hv : mVal l (d + 1) m = mItems l (mVal l d) false m.nx := by rw [mVal]; simp [hk]
    rw [hv]
    obtain ⟨R, hR⟩ : ∃ R, R = mItems l (mVal l d) false m.nx := ⟨_, rfl⟩
    rw [← hR] at hl ⊢
    rw [hk] at f0
    replace hl := Lib.hid hl
    replace hk := Lib.hid hk
    replace hR := Lib.hid hR
    clear ho hv
    go_enter Try.func54, Try.ntmps54
    go_wp2_with fail
    refine (hl.out _ _).mono ?_
    rintro r W1 ⟨v0, v1, v2, v3, v4, i', e', rfl, hones, hB1, hbad, hok⟩
    have h1 := (hz.out _).kept hB1 (by simp; omega)
    have r4 := h1.cell
    have s4 := h1.free
    have hzr := put5_cell h1 v0 v1 v2 v3 v4
    have t0 := fun W' A => run_store Try.prog W' A v0 .plain (hones v0 (by simp))
    have t1 := fun W' A => run_store Try.prog W' A v1 .plain (hones v1 (by simp))
    have t2 := fun W' A => run_store Try.prog W' A v2 .plain (hones v2 (by simp))
    have t3 := fun W' A => run_store Try.prog W' A v3 .plain (hones v3 (by simp))
    have t4 := fun W' A => run_store Try.prog W' A v4 .plain (hones v4 (by simp))
    have hp := RVPost.pass (i := i) hH (hB.out _ _) (by simp; omega) hones hB1 hbad (hi2'.out ▸ hok)
    replace hp := Lib.hid hp
    replace hzr := Lib.hid hzr
    clear hB1 hbad hok h1 hones hl
    go_wp2_with fail
    refine bodyPost_ret (rvalue_ret _ (by rfl) (by rfl) (by rfl) hzr.out) rfl ?_
    exact hp.out

/-- value over words, whatever stands there. -/
theorem rvalue_all (hlen : ws.length ≤ 1000001) : ∀ d, d ≤ 32 → RValC l g cp ws d := by
  intro d
  induction d with
  | zero =>
    intro _ W i p hW hAt
    by_cases h1 : (mTakeN l p).k = 7 ∨ (mTakeN l p).k = 8 ∨ (mTakeN l p).k = 9 ∨ (mTakeN l p).k = 10
    · exact rvalue_leaf hlen hW hAt _ h1
    · by_cases h2 : (mTakeN l p).k = 1 ∨ (mTakeN l p).k = 3
      · exact rvalue_deep hlen hW hAt h2
      · exact rvalue_no hlen hW hAt _ (by omega)
  | succ d ih =>
    intro hd W i p hW hAt
    by_cases h1 : (mTakeN l p).k = 7 ∨ (mTakeN l p).k = 8 ∨ (mTakeN l p).k = 9 ∨ (mTakeN l p).k = 10
    · exact rvalue_leaf hlen hW hAt _ h1
    · by_cases h2 : (mTakeN l p).k = 1 ∨ (mTakeN l p).k = 3
      · exact rvalue_in hd (ih (by omega)) hlen hW hAt h2
      · exact rvalue_no hlen hW hAt _ (by omega)

end Go.Proofs.Ytmembanbemljoaa
