/- avocet/avocetref07.items: a list. -/
import Derived.Test.YtmembanbemljoaaJr2
import Derived.Test.YtmembanbemljoaaJi
namespace Go.Proofs.Ytmembanbemljoaa
open Go.RowKit
set_option linter.unusedVariables false
set_option linter.unusedSimpArgs false

variable {l : List UInt8} {ws : List MT} {g cp : Nat}
theorem RVPost.fill {W W1 : World} {H i0 : Nat} {R : JR} {i' e' : Int} {v0 v1 v2 v3 v4 : Value} (hH : W.heap.size = H) (hs : H < W1.heap.size) (hB : Below H W W1) (h1 : ∀ u ∈ [v0, v1, v2, v3, v4], u.oneCell' = true)
    (hb : ∀ e, R = .bad e → e' = (e : Int)) (ho : ∀ t q, R = .ok t q → e' = 0 ∧ JAt W1 (fun b => H < b ∧ b < W1.heap.size) t [v0, v1, v2, v3, v4] ∧ ∃ j : Nat, i' = (j : Int) ∧ i0 < j ∧ At l ws j q) :
    RVPost W l ws i0 R (.returned (.tuple #[.agg #[v0, v1, v2, v3, v4], .int .i64 i', .int .i64 e'])) (put5 W1 H v0 v1 v2 v3 v4) := by
  refine ⟨v0, v1, v2, v3, v4, i', e', rfl, h1, by rw [hH]; exact below_put5 hB (Nat.le_refl _) _ _ _ _ _, hb, fun t q hq => ?_⟩
  obtain ⟨h2, h3, h4⟩ := ho t q hq
  refine ⟨h2, (h3.frame (fun b hb => heap_put5 _ _ _ _ _ _ _ _ (by omega))).mono (fun b hb => ⟨by omega, by rw [size_put5]; exact hb.2⟩), h4⟩

set_option maxRecDepth 100000 in
set_option maxHeartbeats 800000 in
theorem ritems_list {d : Nat} (hV : RValC l g cp ws d) (hlen : ws.length ≤ 1000001) {W : World} {i p : Nat} (hW : WsAt W g ws) (hAt : At l ws i p) :
    Calls Try.prog 80 #[.slice (some ⟨g, 0, none⟩) ws.length cp, .int .i64 (i : Int), .int .i64 ((32 - d : Nat) : Int), .int .i64 4] W (RVPost W l ws i (mItems l (mVal l d) false p)) := by
  obtain ⟨H, hH⟩ : ∃ H, W.heap.size = H := ⟨_, rfl⟩
  have hf := reads_val (l := l) d
  obtain ⟨f, hfe⟩ : ∃ f, f = mVal l d := ⟨_, rfl⟩
  obtain ⟨R, hR⟩ : ∃ R, R = mItems l f false p := ⟨_, rfl⟩
  rw [← hfe] at hf ⊢
  rw [← hR]
  obtain ⟨dI, hdI⟩ : ∃ dI : Int, dI = ((32 - d : Nat) : Int) := ⟨_, rfl⟩
  have hV' := Lib.hid fun W i p h1 h2 => hfe ▸ hdI ▸ hV W i p h1 h2
  rw [← hdI]
  obtain ⟨W2, hW2⟩ : ∃ W2, W2 = (W.alloc (.cells z5J 58)).alloc (.cells (outC false (.slice none 0 0) (.slice none 0 0)) 58) := ⟨_, rfl⟩
  have hB2 : Below H W W2 := by rw [hW2]; exact ((Below.refl H W).alloc (by omega) _).alloc (by simp; omega) _
  have hO2 : RBlk W W2 H false (.slice none 0 0) (.slice none 0 0) := by
    refine ⟨?_, ?_, hB2⟩
    · rw [hW2]; exact (Blk.made W _ _ H hH).kept ((Below.refl (H + 1) (W.alloc _)).alloc (by simp; omega) _) (by omega)
    · rw [hW2]; exact Blk.made _ _ _ (H + 1) (by simp; omega)
  have hgH : g < H := hH ▸ hW.1
  have hWs := Lib.hid fun W' (h : Below H W W') => hW.below h hgH
  have hk0 := w0_k hAt.2
  have hi := hAt.lt
  have hilt : (i : Int) < (ws.length : Int) := by omega
  obtain ⟨f0, -, -, -, -⟩ := (hWs.out W2 hB2).2 i _ hAt.get
  rw [hk0] at f0
  unfold z5J outC at hW2
  rw [show (objK false) = 5 from rfl] at hW2
  rw [hW2] at f0
  have hI2 : ItemsK W2 (H + 2) (.slice none 0 0) (.slice none 0 0) [] [] [] := ItemsK.nil _ _
  have r4 := hO2.b4.cell
  have s4 := hO2.b4.free
  have r5 := hO2.b5.cell
  replace hR := Lib.hid hR
  clear hV hdI hfe
  by_cases hk4 : (mTakeN l p).k = 4
  · have hki : (((mTakeN l p).k : Int) == 4) = true := by rw [hk4]; rfl
    have hRv : R = .ok (.mk 5 0 [] [] []) (mTakeN l p).nx := by rw [hR.out]; unfold mItems; rw [if_pos (by rw [hk4]; rfl)]; rfl
    have hwi : IntKind.i64.wrap ((i : Int) + 1) = ((i + 1 : Nat) : Int) := by simp [IntKind.wrap, IntKind.bits, IntKind.signed]; omega
    have hfin : RVPost W l ws i R (.returned (.tuple #[.agg #[.int .i64 5, .int .i64 0, .string ⟨#[]⟩, .slice none 0 0, .slice none 0 0], .int .i64 ((i + 1 : Nat) : Int), .int .i64 0])) ((W.alloc (.cells #[.int .i64 5, .int .i64 0, .string ⟨#[]⟩, .slice none 0 0, .slice none 0 0] 58)).alloc (.cells #[.int .i64 5, .int .i64 0, .string ⟨#[]⟩, .slice none 0 0, .slice none 0 0] 58)) := by
      refine ⟨_, _, _, _, _, _, _, rfl, by intro u hu; simp at hu; rcases hu with rfl | rfl | rfl | rfl | rfl <;> rfl, ((Below.refl W.heap.size W).alloc (Nat.le_refl _) _).alloc (by simp) _, fun e he => (by rw [hRv] at he; cases he), fun t q hq => ?_⟩
      rw [hRv] at hq
      cases hq
      exact ⟨rfl, .mk (RowAt.nil _ _ _) (vss := []) (RowAt.nil _ _ _) rfl (fun i x vs h => by simp at h), i + 1, rfl, by omega, hAt.next (by rw [hk0, hk4]; omega) (by rw [hk0, hk4]; omega)⟩
    have hzr := ((Blk.made W #[.int .i64 5, .int .i64 0, .string ⟨#[]⟩, .slice none 0 0, .slice none 0 0] 58 H hH).kept ((Below.refl (H + 1) (W.alloc _)).alloc (by simp; omega) (.cells #[.int .i64 5, .int .i64 0, .string ⟨#[]⟩, .slice none 0 0, .slice none 0 0] 58)) (by omega)).cell
    replace hfin := Lib.hid hfin
    replace hzr := Lib.hid hzr
    replace hk4 := Lib.hid hk4
    clear hO2 hI2 hW2 hRv r4 s4 r5
    go_enter Try.func80, Try.ntmps80
    go_wp2_with fail
    refine bodyPost_ret (items_ret _ (by rfl) (by rfl) (by rfl) hzr.out) rfl ?_
    exact hfin.out
  · have hki : (((mTakeN l p).k : Int) == 4) = false := by simp; omega
    have hRl : R = mLoop l f false p [] [] := by rw [hR.out]; unfold mItems; rw [if_neg (by exact hk4)]
    have hrel : RRel R W l ws f false H i (.int .i64 (i : Int)) W2 := ⟨i, p, [], _, _, [], [], rfl, Nat.le_refl _, hAt, hRl, Nat.zero_le _, Nat.zero_le _, hO2, hI2⟩
    rw [hW2] at hrel
    replace hrel := Lib.hid hrel
    replace hk4 := Lib.hid hk4
    clear hO2 hI2 hW2 r4 s4 r5 hRl hAt hB2 hW
    go_enter Try.func80, Try.ntmps80
    go_wp2_with fail
    go_loopw [1] (fun t wr => RRel R W l ws f false H i t wr) (fun t _ => ws.length - (intOf t).toNat)
    case atStart => exact hrel.out
    case round =>
      obtain ⟨i1, p1, xs, iv, kv, vss, ks, rfl, hi0, hAt1, hR1, hx, hkl, hO, hI⟩ := hrel
      clear hki hk4 f0 hk0 hilt hi
      have hWr := hWs.out wr hO.below
      have hi1 := hAt1.lt
      obtain ⟨ia, ic, rfl⟩ : ∃ ia ic, iv = .slice ia xs.length ic := by
        rcases hI.own.2 with ⟨rfl, h0⟩ | ⟨g, cap, cur, rfl, _⟩
        · exact ⟨none, 0, by rw [h0]⟩
        · exact ⟨_, _, rfl⟩
      obtain ⟨ka, kc, rfl⟩ : ∃ ka kc, kv = .slice ka ks.length kc := by
        rcases hI.keys.2 with ⟨rfl, h0⟩ | ⟨g, cap, cur, rfl, _⟩
        · exact ⟨none, 0, by rw [h0]⟩
        · exact ⟨_, _, rfl⟩
      have hVc := Lib.hid (hV'.out wr i1 p1 hWr hAt1)
      have hwi := item_within hf hAt1.2
      have hhead : mHead l f false p1 ks = f (mTakeN l p1) := rfl
      have hs0 := hO.b5.lt
      have hp1 := hAt1.2
      replace hO := Lib.hid hO
      replace hI := Lib.hid hI
      replace hR1 := Lib.hid hR1
      replace hAt1 := Lib.hid hAt1
      clear hWr
      go_wp2_with fail
      refine hVc.out.mono ?_
      rintro r W1 ⟨v0, v1, v2, v3, v4, i', e', rfl, hones, hB1, hbad, hok⟩
      obtain ⟨Y, hY⟩ : ∃ Y, W1.heap.size = Y := ⟨_, rfl⟩
      have hs1 := hB1.size
      have t0 := fun W' A => run_store Try.prog W' A v0 .plain (hones v0 (by simp))
      have t1 := fun W' A => run_store Try.prog W' A v1 .plain (hones v1 (by simp))
      have t2 := fun W' A => run_store Try.prog W' A v2 .plain (hones v2 (by simp))
      have t3 := fun W' A => run_store Try.prog W' A v3 .plain (hones v3 (by simp))
      have t4 := fun W' A => run_store Try.prog W' A v4 .plain (hones v4 (by simp))
      have hB3 := hB1.alloc hs1 (.cells #[v0, v1, v2, v3, v4] 58)
      have hO3 := hO.out.later hB3
      have hy3 := Blk.made W1 #[v0, v1, v2, v3, v4] 58 Y hY
      rcases hr : f (mTakeN l p1) with e1 | ⟨x, q⟩
      · rw [hr] at hwi
        have he1 : e1 ≠ 0 := hwi
        have hRb : R = .bad e1 := by rw [hR1.out]; exact loop_bad hf hp1 (by rw [hhead]; exact hr)
        obtain rfl := hbad e1 hr
        have hez : ((e1 : Int) != 0) = true := by simp; omega
        have hez2 : ((e1 : Int) == 0) = false := by simp; omega
        have r4 := hO3.b4.cell
        have s4 := hO3.b4.free
        have hzr := put5_cell hO3.b4 (.int .i64 0) (.int .i64 0) (.string ⟨#[]⟩) (.slice none 0 0) (.slice none 0 0)
        have hfin := RVPost.no (l := l) (ws := ws) (i0 := i) (e := e1) (i' := (i1 : Int)) hH (below_put5 hO3.below (Nat.le_refl H) (.int .i64 0) (.int .i64 0) (.string ⟨#[]⟩) (.slice none 0 0) (.slice none 0 0))
        rw [← hRb] at hfin
        unfold z5J at r4
        replace hfin := Lib.hid hfin
        replace hzr := Lib.hid hzr
        replace he1 := Lib.hid he1
        clear hO3 hy3 hB3 hB1 hbad hok hwi hr hRb hVc
        go_wp2_with fail
        refine bodyPost_ret (items_ret _ (by rfl) (by rfl) (by rfl) hzr.out) rfl ?_
        exact hfin.out
      · obtain ⟨rfl, hJ, j, rfl, hij, hAtj⟩ := hok x q hr
        have hRn := loop_ok (obj := false) (ks := ks) (xs := xs) hf hp1 (by rw [hhead]; exact hr)
        rw [← hR1.out] at hRn
        have hq2 := hAtj.2
        have hjl := hAtj.lt
        have hkq := w0_k hq2
        have hI1 := hI.out.later (fun b h1 h2 => hB1.block b h2) hs1
        have hJ3 : JAt (W1.alloc (.cells #[v0, v1, v2, v3, v4] 58)) (fun b => wr.heap.size ≤ b ∧ b < (W1.alloc (.cells #[v0, v1, v2, v3, v4] 58)).heap.size) x [v0, v1, v2, v3, v4] := (hJ.frame (fun b hb => heap_alloc_old W1 _ hb.2)).mono (fun b hb => ⟨hb.1, by simp; omega⟩)
        have k3 : (W1.alloc (.cells #[v0, v1, v2, v3, v4] 58)).cell? ⟨H + 1, 3, none⟩ = some (.slice ia xs.length ic) := hO3.b5.cell 3
        have k3a : ∀ o, ((W1.alloc (.cells #[v0, v1, v2, v3, v4] 58)).alloc o).cell? ⟨H + 1, 3, none⟩ = some (.slice ia xs.length ic) := fun o => (hO3.later ((Below.refl _ _).alloc (Nat.le_refl _) o)).b5.cell 3
        have y3 := hy3.cell
        have hown4 : ((W1.alloc (.cells #[v0, v1, v2, v3, v4] 58)).alloc (.cells #[v0, v1, v2, v3, v4] 58)).ownsRow (H + 2) 58 5 (.slice ia xs.length ic) xs.length vss.flatten := World.ownsRow.alloc (World.ownsRow.alloc hI1.own _) _
        have hfx : xs.length < 1099511627776 := by omega
        have hcell : ∀ n, n < 5 → ((W1.alloc (.cells #[v0, v1, v2, v3, v4] 58)).alloc (.cells #[v0, v1, v2, v3, v4] 58)).cell? ⟨Y + 1, n, none⟩ = [v0, v1, v2, v3, v4][n]? := fun n _ => ((Blk.made _ _ _ (Y + 1) (by simp; omega)).cell n).trans (by simp)
        replace hO3 := Lib.hid hO3
        replace hI1 := Lib.hid hI1
        replace hAtj := Lib.hid hAtj
        replace hRn := Lib.hid hRn
        replace hkq := Lib.hid hkq
        replace hB3 := Lib.hid hB3
        clear hbad hok hwi hr hVc hhead hy3 hB1 hJ
        go_wp2_with (at_builtin; refine wpList_appendR Try.underlying55 Try.infoJ (by rfl) (by decide) (by decide) _ _ rfl rfl rfl (H + 2) (.slice ia xs.length ic) xs.length vss.flatten (Y + 1) [v0, v1, v2, v3, v4] rfl rfl (by exact hown4) (by rfl) hcell hones hfx (by simp; omega) ?_)
        intro a9 c9 w9 hown9 hg9 hb9
        have hz9 : Blk w9 (H + 1) (outC false (.slice ia xs.length ic) (.slice ka ks.length kc)) 58 := (hg9.out.block (H + 1) (by simp; omega) (fun e => by have := (hown4.lt _ e.symm).1; omega)).trans ((heap_alloc_old (W1.alloc (.cells #[v0, v1, v2, v3, v4] 58)) _ (by simp; omega)).trans hO3.out.b5)
        have z9c : w9.cell? ⟨H + 1, 3, none⟩ = some (.slice ia xs.length ic) := hz9.cell 3
        have z9f := hz9.free 3
        have hit := rl_item hO.out hI.out hB3.out hown9.out hg9.out (by have := hb9.out; simpa [hY] using this)
        have hit2 := Lib.hid (hit.2 x hJ3)
        have hit1 := Lib.hid hit.1
        clear hit hown9 hg9 hb9 hz9 hown4 hcell k3 k3a y3 hJ3 t0 t1 t2 t3 t4 hI1 hO3 hB3
        obtain ⟨W6, hW6⟩ : ∃ W6, W6 = w9.setCell ⟨H + 1, 3, none⟩ (.slice a9 (xs.length + 1) c9) := ⟨_, rfl⟩
        rw [← hW6] at hit1 hit2
        obtain ⟨m0, m1, m2, m3, m4⟩ := (hWs.out W6 hit1.out.below).2 j _ hAtj.out.get
        have hwr := Lib.hid fun W' => rwrong_any (W := W') hq2
        have mk0 : W6.cell? ⟨g, j * 5, none⟩ = some (.int .i64 ((mTakeN l q).k : Int)) := by rw [← hkq.out]; exact m0
        obtain ⟨t, ht⟩ : ∃ t, t = mTakeN l q := ⟨_, rfl⟩
        have hkt := take_kinds hq2
        rw [← ht] at hRn hwr mk0 hkt
        replace ht := Lib.hid ht
        replace hkt := Lib.hid hkt
        have hjlt : (j : Int) < (ws.length : Int) := by omega
        have hjw : IntKind.i64.wrap ((j : Int) + 1) = ((j + 1 : Nat) : Int) := by simp [IntKind.wrap, IntKind.bits, IntKind.signed]; omega
        subst hW6
        by_cases hk4 : t.k = 4
        · have hki : ((t.k : Int) == 4) = true := by rw [hk4]; rfl
          have hRv : R = .ok (.mk 5 0 [] ks (xs ++ [x])) t.nx := by rw [hRn.out, if_pos (by rw [hk4]; rfl)]; rfl
          have r4 := hit1.out.b4.cell
          have s4 := hit1.out.b4.free
          have r5 := hit1.out.b5.cell
          have hnx : At l ws (j + 1) t.nx := by rw [ht.out]; exact hAtj.out.next (by rw [hkq.out, ← ht.out, hk4]; omega) (by rw [hkq.out, ← ht.out, hk4]; omega)
          have hfin := RVPost.fill (l := l) (ws := ws) (R := R) (i0 := i) (i' := ((j + 1 : Nat) : Int)) (e' := 0) hH hit1.out.b4.lt hit1.out.below (v0 := .int .i64 5) (v1 := .int .i64 0) (v2 := .string ⟨#[]⟩) (v3 := .slice a9 (xs.length + 1) c9) (v4 := .slice ka ks.length kc) (by intro u hu; simp at hu; rcases hu with rfl | rfl | rfl | rfl | rfl <;> rfl)
            (fun e he => by rw [hRv] at he; cases he) (fun t' q' hq => by
              rw [hRv] at hq
              cases hq
              exact ⟨rfl, (hit2.out.tree 5 0 []).mono (fun b hb => ⟨by omega, hb.2⟩), j + 1, rfl, by omega, hnx⟩)
          have hzr := put5_cell hit1.out.b4 (.int .i64 5) (.int .i64 0) (.string ⟨#[]⟩) (.slice a9 (xs.length + 1) c9) (.slice ka ks.length kc)
          unfold z5J at r4
          unfold outC at r5
          rw [show objK false = 5 from rfl] at r5
          replace hfin := Lib.hid hfin
          replace hzr := Lib.hid hzr
          replace hk4 := Lib.hid hk4
          clear hRv hnx m0 hit2 hit1 hwr
          go_wp2_with fail
          refine bodyPost_ret (items_ret _ (by rfl) (by rfl) (by rfl) hzr.out) rfl ?_
          exact hfin.out
        · have hki : ((t.k : Int) == 4) = false := by simp; omega
          by_cases hk6 : t.k = 6
          · have hk6i : ((t.k : Int) != 6) = false := by rw [hk6]; rfl
            have hk6j : ((t.k : Int) == 6) = true := by rw [hk6]; rfl
            have hRv := Lib.hid (show R = mLoop l f false t.nx ks (xs ++ [x]) by rw [hRn.out, if_neg (by exact hk4), if_neg (by simpa using hk6)]; rfl)
            have hnx : At l ws (j + 1) t.nx := by rw [ht.out]; exact hAtj.out.next (by rw [hkq.out, ← ht.out, hk6]; omega) (by rw [hkq.out, ← ht.out, hk6]; omega)
            have hrl : RRel R W l ws f false H i (.int .i64 ((j + 1 : Nat) : Int)) (w9.setCell ⟨H + 1, 3, none⟩ (.slice a9 (xs.length + 1) c9)) := ⟨j + 1, t.nx, xs ++ [x], _, _, _, ks, rfl, by omega, hnx, hRv.out, by simp; omega, by omega, hit1.out, hit2.out⟩
            replace hrl := Lib.hid hrl
            replace hk4 := Lib.hid hk4
            replace hk6 := Lib.hid hk6
            clear hnx m0 hit2 hit1 hwr
            go_wp2_with fail
            go_roundw
            case rel => exact hrl.out
            case measure => simp [intOf]; omega
          · have hk6i : ((t.k : Int) != 6) = true := by simp; omega
            have hk6j : ((t.k : Int) == 6) = false := by simp; omega
            have hRv : R = .bad (wrongE t) := by rw [hRn.out, if_neg (by exact hk4), if_pos (by simpa using hk6)]
            have r4 := hit1.out.b4.cell
            have s4 := hit1.out.b4.free
            have hbt := hit1.out.below
            have hb4' := hit1.out.b4
            rw [hkq.out, ← ht.out] at m0
            obtain ⟨k0, hk0'⟩ : ∃ k0 : Nat, k0 = (w0 l q).k := ⟨_, rfl⟩
            have hk00 : t.k = k0 := by rw [hk0', hkq.out, ht.out]
            rw [← hk0'] at hwr
            rw [hk00] at m0 mk0
            clear mk0
            unfold z5J at r4
            replace hk0' := Lib.hid hk0'
            rw [hk00] at hki hk6i hk6j
            replace hk00 := Lib.hid hk00
            replace hk4 := Lib.hid hk4
            replace hk6 := Lib.hid hk6
            replace hRv := Lib.hid hRv
            replace hbt := Lib.hid hbt
            replace hb4' := Lib.hid hb4'
            clear hit2 hit1 r4 s4
            go_wp2_with fail
            refine (hwr.out _).mono ?_
            rintro r w7 ⟨rfl, hb7⟩
            have h47 : Blk w7 H z5J 58 := hb4'.out.kept hb7 hb4'.out.lt
            have hB7 := hbt.out.trans (hb7.mono (Nat.le_of_lt hb4'.out.lt))
            have r4 := h47.cell
            have s4 := h47.free
            have hzr := put5_cell h47 (.int .i64 0) (.int .i64 0) (.string ⟨#[]⟩) (.slice none 0 0) (.slice none 0 0)
            have hfin := RVPost.no (l := l) (ws := ws) (i0 := i) (e := wrongE t) (i' := (j : Int)) hH (below_put5 hB7 (Nat.le_refl H) (.int .i64 0) (.int .i64 0) (.string ⟨#[]⟩) (.slice none 0 0) (.slice none 0 0))
            rw [← hRv.out] at hfin
            unfold z5J at r4
            replace hfin := Lib.hid hfin
            replace hzr := Lib.hid hzr
            clear hb7 h47 hB7 m0 m1 m2 m3 m4
            go_wp2_with fail
            refine bodyPost_ret (items_ret _ (by rfl) (by rfl) (by rfl) hzr.out) rfl ?_
            exact hfin.out

end Go.Proofs.Ytmembanbemljoaa
