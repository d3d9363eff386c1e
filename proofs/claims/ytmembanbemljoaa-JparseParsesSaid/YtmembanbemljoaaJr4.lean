/- avocet/avocetref07.items: an object. -/
import Derived.Test.YtmembanbemljoaaJr3
import Derived.Test.YtmembanbemljoaaSlx
import Derived.Deep.CutRange
namespace Go.Proofs.Ytmembanbemljoaa
open Go.RowKit
set_option linter.unusedVariables false
set_option linter.unusedSimpArgs false

variable {l : List UInt8} {ws : List MT} {g cp : Nat}
/-- A key is appended. -/
theorem rl_key {W0 W1 W2 : World} {H : Nat} {obj : Bool} {iv kv : Value} {xs : List JT} {vss : List (List Value)} {ks : List (List UInt8)} {k : List UInt8} {a' : Option Addr} {c' : Nat} (hO : RBlk W0 W1 H obj iv kv) (hI : ItemsK W1 (H + 2) iv kv xs vss ks)
    (hown : W2.ownsRow (H + 2) 9 1 (.slice a' (ks.length + 1) c') (ks.length + 1) (ks.map strV ++ [strV k])) (hg : (W1.alloc (.cells #[strV k] 9)).grownBy W2 kv.ownBlock)
    (hb : (Value.slice a' (ks.length + 1) c').ownBlock = kv.ownBlock ∨ (Value.slice a' (ks.length + 1) c').ownBlock = some (W1.heap.size + 1)) :
    RBlk W0 (W2.setCell ⟨H + 1, 4, none⟩ (.slice a' (ks.length + 1) c')) H obj iv (.slice a' (ks.length + 1) c') ∧ ItemsK (W2.setCell ⟨H + 1, 4, none⟩ (.slice a' (ks.length + 1) c')) (H + 2) iv (.slice a' (ks.length + 1) c') xs vss (ks ++ [k]) := by
  obtain ⟨G, hG⟩ : ∃ G, W2.setCell ⟨H + 1, 4, none⟩ (.slice a' (ks.length + 1) c') = G := ⟨_, rfl⟩
  have l4 := hO.b4.lt
  have l5 := hO.b5.lt
  have hs2 := hg.size
  simp at hs2
  have hlt := hI.keys.lt
  have hfar : ∀ k, k < H + 2 → W2.heap[k]? = W1.heap[k]? := by
    intro k h1
    rw [hg.block k (by simp; omega) (fun e => by have := hlt k e.symm; omega)]
    exact heap_alloc_old W1 _ (by omega)
  have hset : ∀ k, k ≠ H + 1 → G.heap[k]? = W2.heap[k]? := fun k hk => by rw [← hG]; exact Below.heap_setCell _ _ _ _ hk
  have hGs : G.heap.size = W2.heap.size := by rw [← hG]; simp
  have hb5' : Blk W2 (H + 1) (outC obj iv kv) 58 := (hfar _ (by omega)).trans hO.b5
  have hB2 : Below H W0 W2 := (hO.below.alloc (by omega) _).grown hg (by simp; omega) (fun k hk => by have := hlt k hk; omega)
  refine ⟨⟨?_, hb5'.set 4 _, hB2.setCell (by show H ≤ H + 1; omega) _⟩, ?_⟩
  · rw [hG]
    exact (hset H (by omega)).trans ((hfar H (by omega)).trans hO.b4)
  · have hI1 := hI.later (W' := W1.alloc (.cells #[strV k] 9)) (fun b h1 h2 => heap_alloc_old W1 _ h2) (by simp)
    have hp := hI1.key hown hg (by simpa using hb)
    exact hp.later (fun b h1 h2 => by rw [hG]; exact hset b (by omega)) (by rw [hG, hGs]; exact Nat.le_refl _)

set_option maxRecDepth 100000 in
set_option maxHeartbeats 800000 in
theorem ritems_obj {d : Nat} (hV : RValC l g cp ws d) (hlen : ws.length ≤ 1000001) {W : World} {i p : Nat} (hW : WsAt W g ws) (hAt : At l ws i p) :
    Calls Try.prog 80 #[.slice (some ⟨g, 0, none⟩) ws.length cp, .int .i64 (i : Int), .int .i64 ((32 - d : Nat) : Int), .int .i64 2] W (RVPost W l ws i (mItems l (mVal l d) true p)) := by
  obtain ⟨H, hH⟩ : ∃ H, W.heap.size = H := ⟨_, rfl⟩
  have hf := reads_val (l := l) d
  obtain ⟨f, hfe⟩ : ∃ f, f = mVal l d := ⟨_, rfl⟩
  obtain ⟨R, hR⟩ : ∃ R, R = mItems l f true p := ⟨_, rfl⟩
  rw [← hfe] at hf ⊢
  rw [← hR]
  obtain ⟨dI, hdI⟩ : ∃ dI : Int, dI = ((32 - d : Nat) : Int) := ⟨_, rfl⟩
  have hV' := Lib.hid fun W i p h1 h2 => hfe ▸ hdI ▸ hV W i p h1 h2
  rw [← hdI]
  obtain ⟨W2, hW2⟩ : ∃ W2, W2 = (W.alloc (.cells z5J 58)).alloc (.cells (outC true (.slice none 0 0) (.slice none 0 0)) 58) := ⟨_, rfl⟩
  have hB2 : Below H W W2 := by rw [hW2]; exact ((Below.refl H W).alloc (by omega) _).alloc (by simp; omega) _
  have hO2 : RBlk W W2 H true (.slice none 0 0) (.slice none 0 0) := by
    refine ⟨?_, ?_, hB2⟩
    · rw [hW2]; exact (Blk.made W _ _ H hH).kept ((Below.refl (H + 1) (W.alloc _)).alloc (by simp; omega) _) (by omega)
    · rw [hW2]; exact Blk.made _ _ _ (H + 1) (by simp; omega)
  have hgH : g < H := hH ▸ hW.1
  have hWs := Lib.hid fun W' (h : Below H W W') => hW.below h hgH
  have hk0 := w0_k hAt.2
  have hi := hAt.lt
  have hilt : (i : Int) < (ws.length : Int) := by omega
  obtain ⟨f0, -, -, -, -⟩ := (hWs.out W2 hB2).2 i _ hAt.get
  rw [hk0] at f0
  unfold z5J outC at hW2
  rw [show (objK true) = 6 from rfl] at hW2
  rw [hW2] at f0
  have hI2 : ItemsK W2 (H + 2) (.slice none 0 0) (.slice none 0 0) [] [] [] := ItemsK.nil _ _
  have r4 := hO2.b4.cell
  have s4 := hO2.b4.free
  have r5 := hO2.b5.cell
  replace hR := Lib.hid hR
  clear hV hdI hfe
  by_cases hk2 : (mTakeN l p).k = 2
  · have hki : (((mTakeN l p).k : Int) == 2) = true := by rw [hk2]; rfl
    have hRv : R = .ok (.mk 6 0 [] [] []) (mTakeN l p).nx := by rw [hR.out]; unfold mItems; rw [if_pos (by rw [hk2]; rfl)]; rfl
    have hwi : IntKind.i64.wrap ((i : Int) + 1) = ((i + 1 : Nat) : Int) := by simp [IntKind.wrap, IntKind.bits, IntKind.signed]; omega
    have hfin : RVPost W l ws i R (.returned (.tuple #[.agg #[.int .i64 6, .int .i64 0, .string ⟨#[]⟩, .slice none 0 0, .slice none 0 0], .int .i64 ((i + 1 : Nat) : Int), .int .i64 0])) ((W.alloc (.cells #[.int .i64 6, .int .i64 0, .string ⟨#[]⟩, .slice none 0 0, .slice none 0 0] 58)).alloc (.cells #[.int .i64 6, .int .i64 0, .string ⟨#[]⟩, .slice none 0 0, .slice none 0 0] 58)) := by
      refine ⟨_, _, _, _, _, _, _, rfl, by intro u hu; simp at hu; rcases hu with rfl | rfl | rfl | rfl | rfl <;> rfl, ((Below.refl W.heap.size W).alloc (Nat.le_refl _) _).alloc (by simp) _, fun e he => (by rw [hRv] at he; cases he), fun t q hq => ?_⟩
      rw [hRv] at hq
      cases hq
      exact ⟨rfl, .mk (RowAt.nil _ _ _) (vss := []) (RowAt.nil _ _ _) rfl (fun i x vs h => by simp at h), i + 1, rfl, by omega, hAt.next (by rw [hk0, hk2]; omega) (by rw [hk0, hk2]; omega)⟩
    have hzr := ((Blk.made W #[.int .i64 6, .int .i64 0, .string ⟨#[]⟩, .slice none 0 0, .slice none 0 0] 58 H hH).kept ((Below.refl (H + 1) (W.alloc _)).alloc (by simp; omega) (.cells #[.int .i64 6, .int .i64 0, .string ⟨#[]⟩, .slice none 0 0, .slice none 0 0] 58)) (by omega)).cell
    replace hfin := Lib.hid hfin
    replace hzr := Lib.hid hzr
    replace hk2 := Lib.hid hk2
    clear hO2 hI2 hW2 hRv r4 s4 r5
    go_enter Try.func80, Try.ntmps80
    go_wp2_with fail
    refine bodyPost_ret (items_ret _ (by rfl) (by rfl) (by rfl) hzr.out) rfl ?_
    exact hfin.out
  · have hki : (((mTakeN l p).k : Int) == 2) = false := by simp; omega
    have hRl : R = mLoop l f true p [] [] := by rw [hR.out]; unfold mItems; rw [if_neg (by exact hk2)]
    have hrel : RRel R W l ws f true H i (.int .i64 (i : Int)) W2 := ⟨i, p, [], _, _, [], [], rfl, Nat.le_refl _, hAt, hRl, Nat.zero_le _, Nat.zero_le _, hO2, hI2⟩
    rw [hW2] at hrel
    replace hrel := Lib.hid hrel
    replace hk2 := Lib.hid hk2
    clear hO2 hI2 hW2 r4 s4 r5 hRl hAt hB2 hW
    go_enter Try.func80, Try.ntmps80
    go_wp2_with fail
    go_loopw [1] (fun t wr => RRel R W l ws f true H i t wr) (fun t _ => ws.length - (intOf t).toNat)
    case atStart => exact hrel.out
    case round =>
      obtain ⟨i1, p1, xs, iv, kv, vss, ks, rfl, hi0, hAt1, hR1, hx, hkl, hO, hI⟩ := hrel
      clear hki hk2 f0 hk0 hilt hi
      have hWr := hWs.out wr hO.below
      have hi1 := hAt1.lt
      obtain ⟨ia, ic, rfl⟩ : ∃ ia ic, iv = .slice ia xs.length ic := by
        rcases hI.own.2 with ⟨rfl, h0⟩ | ⟨g, cap, cur, rfl, _⟩
        · exact ⟨none, 0, by rw [h0]⟩
        · exact ⟨_, _, rfl⟩
      obtain ⟨ka, kc, rfl⟩ : ∃ ka kc, kv = .slice ka ks.length kc := by
        rcases hI.keys.2 with ⟨rfl, h0⟩ | ⟨g, cap, cur, rfl, _⟩
        · exact ⟨none, 0, by rw [h0]⟩
        · exact ⟨_, _, rfl⟩
      obtain ⟨a0, a1, a2, a3, a4⟩ := hWr.2 i1 _ hAt1.get
      have hkw := w0_k hAt1.2
      rw [hkw] at a0
      have hilt : (i1 : Int) < (ws.length : Int) := by omega
      have hwr1 := fun W' => rwrong_any (W := W') hAt1.2
      obtain ⟨m, hm⟩ : ∃ m, m = mTakeN l p1 := ⟨_, rfl⟩
      rw [← hm] at a0
      have hkd := take_kinds hAt1.2
      rw [← hm] at hkd
      by_cases hk10 : m.k = 10
      rotate_left
      · have hk10i : ((m.k : Int) != 10) = true := by simp; omega
        have hk10j : ((m.k : Int) == 10) = false := by simp; omega
        have hRb : R = .bad (wrongE m) := by rw [hR1]; exact loop_bad hf hAt1.2 (by unfold mHead; rw [if_pos rfl, ← hm, if_pos (by simpa using hk10)])
        rw [hkw, ← hm] at hwr1
        replace hwr1 := Lib.hid hwr1
        replace hk10 := Lib.hid hk10
        replace hm := Lib.hid hm
        replace hRb := Lib.hid hRb
        replace hO := Lib.hid hO
        replace hAt1 := Lib.hid hAt1
        replace hR1 := Lib.hid hR1
        replace hkw := Lib.hid hkw
        replace hkd := Lib.hid hkd
        clear hI hWr
        go_wp2_with fail
        refine (hwr1.out _).mono ?_
        rintro r w7 ⟨rfl, hb7⟩
        have h47 : Blk w7 H z5J 58 := hO.out.b4.kept hb7 hO.out.b4.lt
        have hB7 := hO.out.below.trans (hb7.mono (Nat.le_of_lt hO.out.b4.lt))
        have r4 := h47.cell
        have s4 := h47.free
        have hzr := put5_cell h47 (.int .i64 0) (.int .i64 0) (.string ⟨#[]⟩) (.slice none 0 0) (.slice none 0 0)
        have hfin := RVPost.no (l := l) (ws := ws) (i0 := i) (e := wrongE m) (i' := (i1 : Int)) hH (below_put5 hB7 (Nat.le_refl H) (.int .i64 0) (.int .i64 0) (.string ⟨#[]⟩) (.slice none 0 0) (.slice none 0 0))
        rw [← hRb.out] at hfin
        unfold z5J at r4
        replace hfin := Lib.hid hfin
        replace hzr := Lib.hid hzr
        clear hb7 h47 hB7 a0 a1 a2 a3 a4
        go_wp2_with fail
        refine bodyPost_ret (items_ret _ (by rfl) (by rfl) (by rfl) hzr.out) rfl ?_
        exact hfin.out
      · have hk10i : ((m.k : Int) != 10) = false := by rw [hk10]; rfl
        have hk10j : ((m.k : Int) == 10) = true := by rw [hk10]; rfl
        have hwm : w0 l p1 = m := by rw [hm]; exact w0_eq hAt1.2 (by rw [← hm]; omega)
        rw [hwm] at a2
        have k4c : ∀ z : Nat, (wr.drewN z).cell? ⟨H + 1, 4, none⟩ = some (.slice ka ks.length kc) := fun z => hO.b5.cell 4
        have a2z : ∀ z : Nat, (wr.drewN z).cell? ⟨g, i1 * 5 + 2, none⟩ = some (.string (str m.s)) := fun z => a2
        have hkrow := hI.keys
        replace hk10 := Lib.hid hk10
        replace hm := Lib.hid hm
        replace hkd := Lib.hid hkd
        replace hO := Lib.hid hO
        replace hI := Lib.hid hI
        replace hR1 := Lib.hid hR1
        replace hAt1 := Lib.hid hAt1
        replace hkrow := Lib.hid hkrow
        clear hWr hwm hkw a1 a3 a4 hwr1
        obtain ⟨V, hV0⟩ : ∃ V, V = wr := ⟨_, rfl⟩
        subst hV0
        have hgV : g < V.heap.size := by have := hO.out.b5.lt; omega
        go_wp2_with fail
        go_loopw [12] (fun t wx => ∃ k q : Nat, t = .int .i64 (k : Int) ∧ k ≤ ks.length ∧ wx = V.drewN q ∧ Hid (∀ j, j < k → ks[j]? ≠ some m.s)) (fun t _ => ks.length - (intOf t).toNat)
        case atStart => exact ⟨0, 0, rfl, Nat.zero_le _, rfl, fun j hj => absurd hj (by omega)⟩
        case round =>
          obtain ⟨k, q, rfl, hk, hwx, hno⟩ := hrel
          by_cases hlt : k < ks.length
          · obtain ⟨_, kb, kcc, hkv, _, hkrd⟩ := RowAt.own (ok := fun _ => True) hkrow.out (fun _ _ => trivial)
            obtain ⟨bk, off, rfl, _, hcell⟩ := hkrd (by omega)
            simp only [Value.slice.injEq, true_and] at hkv
            obtain ⟨rfl, rfl⟩ := hkv
            have hlti : (k : Int) < (ks.length : Int) := by omega
            obtain ⟨x, hx⟩ : ∃ x, ks[k]? = some x := ⟨ks[k], List.getElem?_eq_getElem hlt⟩
            have c0 : ∀ z : Nat, (wr.drewN z).cell? ⟨bk, off + k, none⟩ = some (.string (str x)) := by
              intro z
              rw [hwx]
              show V.cell? _ = _
              rw [hcell k (by omega), List.getElem?_map, hx]
              rfl
            have k4 : ∀ z : Nat, (wr.drewN z).cell? ⟨H + 1, 4, none⟩ = some (.slice (some ⟨bk, off, none⟩) ks.length kc) := by intro z; rw [hwx]; exact k4c (q + z)
            have k4w : wr.cell? ⟨H + 1, 4, none⟩ = some (.slice (some ⟨bk, off, none⟩) ks.length kc) := by rw [hwx]; exact k4c q
            have a2w : ∀ z : Nat, (wr.drewN z).cell? ⟨g, i1 * 5 + 2, none⟩ = some (.string (str m.s)) := by intro z; rw [hwx]; exact a2z (q + z)
            have hs1 := str_toList m.s
            have hs2 := str_toList x
            have hks : ks.length ≤ 1000001 := by omega
            by_cases hkx : x = m.s
            · have hRb : R = .bad 23 := by
                rw [hR1.out]
                refine loop_bad hf hAt1.out.2 ?_
                unfold mHead
                rw [if_pos rfl, ← hm.out, if_neg (by simpa using hk10.out), if_pos (by rw [← hkx]; exact List.mem_of_getElem? hx)]
              have hOw : RBlk W wr H true (.slice ia xs.length ic) (.slice (some ⟨bk, off, none⟩) ks.length kc) := by rw [hwx]; exact ⟨hO.out.b4.drewN q, hO.out.b5.drewN q, below_drewN hO.out.below q⟩
              have r4 : ∀ (z j : Nat), (wr.drewN z).cell? ⟨H, j, none⟩ = z5J[j]? := fun z j => hOw.b4.cell j
              have s4 : ∀ (z j : Nat), (wr.drewN z).frozen? ⟨H, j, none⟩ = false := fun z j => hOw.b4.free j
              have hzr := Lib.hid fun z : Nat => put5_cell (w := wr.drewN z) (hOw.b4.drewN z) (.int .i64 0) (.int .i64 0) (.string ⟨#[]⟩) (.slice none 0 0) (.slice none 0 0)
              have hfin := Lib.hid fun z : Nat => hRb ▸ RVPost.no (l := l) (ws := ws) (i0 := i) (e := 23) (i' := (i1 : Int)) hH (below_put5 (below_drewN hOw.below z) (Nat.le_refl H) (.int .i64 0) (.int .i64 0) (.string ⟨#[]⟩) (.slice none 0 0) (.slice none 0 0))
              unfold z5J at r4
              subst hkx
              replace hx := Lib.hid hx
              replace hwx := Lib.hid hwx
              clear hcell hOw k4c a2z hno hkrd hRb
              go_wp2_with fail
              go_quiet (fail)
              go_wp2_with fail
              refine bodyPost_ret (items_ret _ (by rfl) (by rfl) (by rfl) (hzr.out _)) rfl ?_
              exact hfin.out _
            · have he : (x == m.s) = false := by simpa using hkx
              have hno2 := Lib.hid fun j (hj : j < k + 1) => (by
                rcases Nat.lt_or_ge j k with h | h
                · exact hno.out j h
                · rw [show j = k from by omega, hx]
                  intro e
                  exact hkx (Option.some.inj e) : ks[j]? ≠ some m.s)
              replace hkx := Lib.hid hkx
              replace hx := Lib.hid hx
              replace hwx := Lib.hid hwx
              clear hcell hno hkrd k4c a2z
              go_wp2_with fail
              go_quiet (fail)
              go_wp2_with fail
              go_roundw
              case rel => exact ⟨k + 1, _, rfl, by omega, by rw [hwx.out]; exact drew2 _ _ _, hno2⟩
              case measure => simp [intOf]; omega
          · obtain rfl : k = ks.length := by omega
            have hnm : m.s ∉ ks := by
              intro hmem
              obtain ⟨j, hj, he⟩ := List.getElem_of_mem hmem
              exact hno.out j hj (by rw [List.getElem?_eq_getElem hj, he])
            have hOw : RBlk W wr H true (.slice ia xs.length ic) (.slice ka ks.length kc) := by rw [hwx]; exact ⟨hO.out.b4.drewN q, hO.out.b5.drewN q, below_drewN hO.out.below q⟩
            have hIw : ItemsK wr (H + 2) (.slice ia xs.length ic) (.slice ka ks.length kc) xs vss ks := by rw [hwx]; exact hI.out.later (fun b h1 h2 => rfl) (Nat.le_refl _)
            have hWw := hWs.out wr hOw.below
            have a2x : wr.cell? ⟨g, i1 * 5 + 2, none⟩ = some (.string (str m.s)) := by rw [hwx]; exact a2z q
            have a2y : ∀ o, (wr.alloc o).cell? ⟨g, i1 * 5 + 2, none⟩ = some (.string (str m.s)) := fun o => (((Below.refl wr.heap.size wr).alloc (Nat.le_refl _) o).cell (p := ⟨g, i1 * 5 + 2, none⟩) hWw.1).trans a2x
            have k4x : wr.cell? ⟨H + 1, 4, none⟩ = some (.slice ka ks.length kc) := hOw.b5.cell 4
            have k4y : ∀ o, (wr.alloc o).cell? ⟨H + 1, 4, none⟩ = some (.slice ka ks.length kc) := fun o => (hOw.later ((Below.refl wr.heap.size wr).alloc (Nat.le_refl _) o)).b5.cell 4
            obtain ⟨Y3, hY3⟩ : ∃ Y, wr.heap.size = Y := ⟨_, rfl⟩
            have hl5 := hOw.b5.lt
            have hkown : (wr.alloc (.cells #[.string (str m.s)] 9)).ownsRow (H + 2) 9 1 (.slice ka ks.length kc) ks.length (ks.map strV) := World.ownsRow.alloc hIw.keys _
            have hmade := Blk.made wr #[.string (str m.s)] 9 Y3 hY3
            have hcell1 : ∀ j, j < 1 → (wr.alloc (.cells #[.string (str m.s)] 9)).cell? ⟨Y3, j, none⟩ = [.string (str m.s)][j]? := by
              intro j hj
              rw [hmade.cell j]
              obtain rfl : j = 0 := by omega
              rfl
            have hfk : ks.length < 1099511627776 := by omega
            replace hnm := Lib.hid hnm
            replace hOw := Lib.hid hOw
            replace hIw := Lib.hid hIw
            replace hWw := Lib.hid hWw
            replace hwx := Lib.hid hwx
            clear hno hk hmade k4c a2z
            go_wp2_with fail
            go_cut [] from 65 to 74 (fun W4 => ∃ ka2 kc2, RBlk W W4 H true (.slice ia xs.length ic) (.slice ka2 (ks.length + 1) kc2) ∧ ItemsK W4 (H + 2) (.slice ia xs.length ic) (.slice ka2 (ks.length + 1) kc2) xs vss (ks ++ [m.s]))
            case first =>
              go_region_law (refine step_appendR Try.underlying56 Try.infoS (by rfl) (by decide) (by decide) (by rfl) _ _ (by rfl) (by rfl) (H + 2) (.slice ka ks.length kc) ks.length (ks.map strV) Y3 [.string (str m.s)] (by rfl) (by rfl) (by exact hkown) (by rfl) (by exact hcell1) (by intro u hu; simp at hu; rw [hu]; rfl) hfk (by simp; omega) ?_; intro a4 c4 w4 hown4 hg4 hb4; have hz4 : Blk w4 (H + 1) (outC true (.slice ia xs.length ic) (.slice ka ks.length kc)) 58 := (hg4.out.block (H + 1) (by simp; omega) (fun e => by have := (hkown.lt _ e.symm).1; omega)).trans ((heap_alloc_old wr _ hl5).trans hOw.out.b5); have z4c : w4.cell? ⟨H + 1, 4, none⟩ = some (.slice ka ks.length kc) := hz4.cell 4; have z4f := hz4.free 4)
              all_goals
                go_wp2_with fail
                go_meet
                case rel => exact ⟨a4, c4, rl_key hOw.out hIw.out hown4.out (show (wr.alloc (.cells #[strV m.s] 9)).grownBy w4 _ from ⟨hg4.out.os, hg4.out.tape, hg4.out.output, hg4.out.size, hg4.out.block⟩) (by have := hb4.out; simpa using this)⟩
            case rest =>
              obtain ⟨ka2, kc2, hO4, hI4⟩ := hcut
              have hAt2 : At l ws (i1 + 1) m.nx := by rw [hm.out]; exact hAt1.out.next (by rw [w0_k hAt1.out.2, ← hm.out, hk10.out]; omega) (by rw [w0_k hAt1.out.2, ← hm.out, hk10.out]; omega)
              have hWr4 := hWs.out wc hO4.below
              obtain ⟨b0, b1, b2, b3, b4⟩ := hWr4.2 (i1 + 1) _ hAt2.get
              have hkc := w0_k hAt2.2
              have hi2 := hAt2.lt
              have hilt2 : ((i1 + 1 : Nat) : Int) < (ws.length : Int) := by omega
              have hiw2 : IntKind.i64.wrap ((i1 : Int) + 1) = ((i1 + 1 : Nat) : Int) := by simp [IntKind.wrap, IntKind.bits, IntKind.signed]; omega
              obtain ⟨i2, hi2e⟩ : ∃ i2, i2 = i1 + 1 := ⟨_, rfl⟩
              rw [← hi2e] at b0 b1 b2 b3 b4 hilt2 hiw2 hAt2 hi2
              have hR4 : mHead l f true p1 ks = (if (mTakeN l m.nx).k ≠ 5 then .bad (wrongE (mTakeN l m.nx)) else f (mTakeN l (mTakeN l m.nx).nx)) := by
                unfold mHead
                rw [if_pos rfl, ← hm.out, if_neg (by simpa using hk10.out), if_neg hnm.out]
              have hkeys : mKeys l true p1 ks = ks ++ [m.s] := by unfold mKeys; rw [if_pos rfl, ← hm.out]
              by_cases hc5 : (mTakeN l m.nx).k = 5
              rotate_left
              · have hc5i : (((mTakeN l m.nx).k : Int) != 5) = true := by simp; omega
                have hRb : R = .bad (wrongE (mTakeN l m.nx)) := by rw [hR1.out]; exact loop_bad hf hAt1.out.2 (by rw [hR4, if_pos (by simpa using hc5)])
                have hwr2 := fun W' => rwrong_any (W := W') hAt2.2
                rw [hkc] at hwr2 b0
                obtain ⟨c1, hc1⟩ : ∃ c1, c1 = mTakeN l m.nx := ⟨_, rfl⟩
                rw [← hc1] at hwr2 b0 hc5i hRb
                replace hc5 := Lib.hid hc5
                replace hc1 := Lib.hid hc1
                replace hwr2 := Lib.hid hwr2
                replace hRb := Lib.hid hRb
                replace hR4 := Lib.hid hR4
                replace hkeys := Lib.hid hkeys
                replace hAt2 := Lib.hid hAt2
                replace hkc := Lib.hid hkc
                replace hO4 := Lib.hid hO4
                replace hi2e := Lib.hid hi2e
                clear hO hI hOw hIw k4x k4y a2x a2y hkown hcell1 hkrow hWw hWr4 hI4
                go_wp2_with fail
                refine (hwr2.out _).mono ?_
                rintro r w7 ⟨rfl, hb7⟩
                have h47 : Blk w7 H z5J 58 := hO4.out.b4.kept hb7 hO4.out.b4.lt
                have hB7 := hO4.out.below.trans (hb7.mono (Nat.le_of_lt hO4.out.b4.lt))
                have r4 := h47.cell
                have s4 := h47.free
                have hzr := put5_cell h47 (.int .i64 0) (.int .i64 0) (.string ⟨#[]⟩) (.slice none 0 0) (.slice none 0 0)
                have hfin := RVPost.no (l := l) (ws := ws) (i0 := i) (e := wrongE c1) (i' := (i2 : Int)) hH (below_put5 hB7 (Nat.le_refl H) (.int .i64 0) (.int .i64 0) (.string ⟨#[]⟩) (.slice none 0 0) (.slice none 0 0))
                rw [← hRb.out] at hfin
                unfold z5J at r4
                replace hfin := Lib.hid hfin
                replace hzr := Lib.hid hzr
                clear hb7 h47 hB7 b0 b1 b2 b3 b4
                go_wp2_with fail
                refine bodyPost_ret (items_ret _ (by rfl) (by rfl) (by rfl) hzr.out) rfl ?_
                exact hfin.out
              · have hc5i : (((mTakeN l m.nx).k : Int) != 5) = false := by rw [hc5]; rfl
                rw [hkc, hc5] at b0
                have hAt3 : At l ws (i1 + 2) (mTakeN l m.nx).nx := by
                  have := hAt2.next (by rw [hkc, hc5]; omega) (by rw [hkc, hc5]; omega)
                  rwa [show i2 + 1 = i1 + 2 from by omega] at this
                have hiw3 : IntKind.i64.wrap ((i2 : Int) + 1) = ((i1 + 2 : Nat) : Int) := by rw [hi2e]; simp [IntKind.wrap, IntKind.bits, IntKind.signed]; omega
                have hhead : mHead l f true p1 ks = f (mTakeN l (mTakeN l m.nx).nx) := by rw [hR4, if_neg (by simpa using hc5)]
                obtain ⟨p3, hp3⟩ : ∃ p3, p3 = (mTakeN l m.nx).nx := ⟨_, rfl⟩
                rw [← hp3] at hAt3 hhead
                have hp1 := hAt1.out.2
                have hi3 := hAt3.lt
                have hWr3 := hWr4
                obtain ⟨i3, hi3e⟩ : ∃ i3, i3 = i1 + 2 := ⟨_, rfl⟩
                rw [← hi3e] at hAt3 hiw3 hi3
                replace hc5 := Lib.hid hc5
                replace hi2e := Lib.hid hi2e
                have hi3l : i1 < i3 := by omega
                replace hi3e := Lib.hid hi3e
                replace hp3 := Lib.hid hp3
                replace hR4 := Lib.hid hR4
                replace hhead := Lib.hid hhead
                replace hkeys := Lib.hid hkeys
                replace hAt2 := Lib.hid hAt2
                replace hkc := Lib.hid hkc
                clear hO hI hOw hIw k4x k4y a2x a2y hkown hcell1 hkrow hWw hWr4
                have hO := hO4
                have hI := hI4
                clear hO4 hI4
                have hVc := Lib.hid (hV'.out wc i3 p3 hWr3 hAt3)
                have hwi := item_within hf hAt3.2
                have hs0 := hO.b5.lt
                replace hO := Lib.hid hO
                replace hI := Lib.hid hI
                go_wp2_with fail
                refine hVc.out.mono ?_
                rintro r W1 ⟨v0, v1, v2, v3, v4, i', e', rfl, hones, hB1, hbad, hok⟩
                obtain ⟨Y, hY⟩ : ∃ Y, W1.heap.size = Y := ⟨_, rfl⟩
                have hs1 := hB1.size
                have t0 := fun W' A => run_store Try.prog W' A v0 .plain (hones v0 (by simp))
                have t1 := fun W' A => run_store Try.prog W' A v1 .plain (hones v1 (by simp))
                have t2 := fun W' A => run_store Try.prog W' A v2 .plain (hones v2 (by simp))
                have t3 := fun W' A => run_store Try.prog W' A v3 .plain (hones v3 (by simp))
                have t4 := fun W' A => run_store Try.prog W' A v4 .plain (hones v4 (by simp))
                have hB3 := hB1.alloc hs1 (.cells #[v0, v1, v2, v3, v4] 58)
                have hO3 := hO.out.later hB3
                have hy3 := Blk.made W1 #[v0, v1, v2, v3, v4] 58 Y hY
                rcases hr : f (mTakeN l p3) with e1 | ⟨x, q⟩
                · rw [hr] at hwi
                  have he1 : e1 ≠ 0 := hwi
                  have hRb : R = .bad e1 := by rw [hR1.out]; exact loop_bad hf hp1 (by rw [hhead.out]; exact hr)
                  obtain rfl := hbad e1 hr
                  have hez : ((e1 : Int) != 0) = true := by simp; omega
                  have hez2 : ((e1 : Int) == 0) = false := by simp; omega
                  have r4 := hO3.b4.cell
                  have s4 := hO3.b4.free
                  have hzr := put5_cell hO3.b4 (.int .i64 0) (.int .i64 0) (.string ⟨#[]⟩) (.slice none 0 0) (.slice none 0 0)
                  have hfin := RVPost.no (l := l) (ws := ws) (i0 := i) (e := e1) (i' := (i3 : Int)) hH (below_put5 hO3.below (Nat.le_refl H) (.int .i64 0) (.int .i64 0) (.string ⟨#[]⟩) (.slice none 0 0) (.slice none 0 0))
                  rw [← hRb] at hfin
                  unfold z5J at r4
                  replace hfin := Lib.hid hfin
                  replace hzr := Lib.hid hzr
                  replace he1 := Lib.hid he1
                  clear hO3 hy3 hB3 hB1 hbad hok hwi hr hRb hVc
                  go_wp2_with fail
                  refine bodyPost_ret (items_ret _ (by rfl) (by rfl) (by rfl) hzr.out) rfl ?_
                  exact hfin.out
                · obtain ⟨rfl, hJ, j, rfl, hij, hAtj⟩ := hok x q hr
                  have hRn := loop_ok (obj := true) (ks := ks) (xs := xs) hf hp1 (by rw [hhead.out]; exact hr)
                  rw [← hR1.out, hkeys.out] at hRn
                  have hq2 := hAtj.2
                  have hjl := hAtj.lt
                  have hkq := w0_k hq2
                  have hI1 := hI.out.later (fun b h1 h2 => hB1.block b h2) hs1
                  have hJ3 : JAt (W1.alloc (.cells #[v0, v1, v2, v3, v4] 58)) (fun b => wc.heap.size ≤ b ∧ b < (W1.alloc (.cells #[v0, v1, v2, v3, v4] 58)).heap.size) x [v0, v1, v2, v3, v4] := (hJ.frame (fun b hb => heap_alloc_old W1 _ hb.2)).mono (fun b hb => ⟨hb.1, by simp; omega⟩)
                  have k3 : (W1.alloc (.cells #[v0, v1, v2, v3, v4] 58)).cell? ⟨H + 1, 3, none⟩ = some (.slice ia xs.length ic) := hO3.b5.cell 3
                  have k3a : ∀ o, ((W1.alloc (.cells #[v0, v1, v2, v3, v4] 58)).alloc o).cell? ⟨H + 1, 3, none⟩ = some (.slice ia xs.length ic) := fun o => (hO3.later ((Below.refl _ _).alloc (Nat.le_refl _) o)).b5.cell 3
                  have y3 := hy3.cell
                  have hown4 : ((W1.alloc (.cells #[v0, v1, v2, v3, v4] 58)).alloc (.cells #[v0, v1, v2, v3, v4] 58)).ownsRow (H + 2) 58 5 (.slice ia xs.length ic) xs.length vss.flatten := World.ownsRow.alloc (World.ownsRow.alloc hI1.own _) _
                  have hfx : xs.length < 1099511627776 := by omega
                  have hcell : ∀ n, n < 5 → ((W1.alloc (.cells #[v0, v1, v2, v3, v4] 58)).alloc (.cells #[v0, v1, v2, v3, v4] 58)).cell? ⟨Y + 1, n, none⟩ = [v0, v1, v2, v3, v4][n]? := fun n _ => ((Blk.made _ _ _ (Y + 1) (by simp; omega)).cell n).trans (by simp)
                  replace hO3 := Lib.hid hO3
                  replace hI1 := Lib.hid hI1
                  replace hAtj := Lib.hid hAtj
                  replace hRn := Lib.hid hRn
                  replace hkq := Lib.hid hkq
                  replace hB3 := Lib.hid hB3
                  clear hbad hok hwi hr hVc hy3 hB1 hJ
                  go_wp2_with (at_builtin; refine wpList_appendR Try.underlying55 Try.infoJ (by rfl) (by decide) (by decide) _ _ rfl rfl rfl (H + 2) (.slice ia xs.length ic) xs.length vss.flatten (Y + 1) [v0, v1, v2, v3, v4] rfl rfl (by exact hown4) (by rfl) hcell hones hfx (by simp; omega) ?_)
                  intro a9 c9 w9 hown9 hg9 hb9
                  have hz9 : Blk w9 (H + 1) (outC true (.slice ia xs.length ic) (.slice ka2 (ks.length + 1) kc2)) 58 := (hg9.out.block (H + 1) (by simp; omega) (fun e => by have := (hown4.lt _ e.symm).1; omega)).trans ((heap_alloc_old (W1.alloc (.cells #[v0, v1, v2, v3, v4] 58)) _ (by simp; omega)).trans hO3.out.b5)
                  have z9c : w9.cell? ⟨H + 1, 3, none⟩ = some (.slice ia xs.length ic) := hz9.cell 3
                  have z9f := hz9.free 3
                  have hit := rl_item hO.out hI.out hB3.out hown9.out hg9.out (by have := hb9.out; simpa [hY] using this)
                  have hit2 := Lib.hid (hit.2 x hJ3)
                  have hit1 := Lib.hid hit.1
                  clear hit hown9 hg9 hb9 hz9 hown4 hcell k3 k3a y3 hJ3 t0 t1 t2 t3 t4 hI1 hO3 hB3
                  obtain ⟨W6, hW6⟩ : ∃ W6, W6 = w9.setCell ⟨H + 1, 3, none⟩ (.slice a9 (xs.length + 1) c9) := ⟨_, rfl⟩
                  rw [← hW6] at hit1 hit2
                  obtain ⟨m0, m1, m2, m3, m4⟩ := (hWs.out W6 hit1.out.below).2 j _ hAtj.out.get
                  have hwr := Lib.hid fun W' => rwrong_any (W := W') hq2
                  have mk0 : W6.cell? ⟨g, j * 5, none⟩ = some (.int .i64 ((mTakeN l q).k : Int)) := by rw [← hkq.out]; exact m0
                  obtain ⟨t, ht⟩ : ∃ t, t = mTakeN l q := ⟨_, rfl⟩
                  have hkt := take_kinds hq2
                  rw [← ht] at hRn hwr mk0 hkt
                  replace ht := Lib.hid ht
                  replace hkt := Lib.hid hkt
                  have hjlt : (j : Int) < (ws.length : Int) := by omega
                  have hjw : IntKind.i64.wrap ((j : Int) + 1) = ((j + 1 : Nat) : Int) := by simp [IntKind.wrap, IntKind.bits, IntKind.signed]; omega
                  subst hW6
                  by_cases hk2 : t.k = 2
                  · have hki : ((t.k : Int) == 2) = true := by rw [hk2]; rfl
                    have hRv : R = .ok (.mk 6 0 [] (ks ++ [m.s]) (xs ++ [x])) t.nx := by rw [hRn.out, if_pos (by rw [hk2]; rfl)]; rfl
                    have r4 := hit1.out.b4.cell
                    have s4 := hit1.out.b4.free
                    have r5 := hit1.out.b5.cell
                    have hnx : At l ws (j + 1) t.nx := by rw [ht.out]; exact hAtj.out.next (by rw [hkq.out, ← ht.out, hk2]; omega) (by rw [hkq.out, ← ht.out, hk2]; omega)
                    have hfin := RVPost.fill (l := l) (ws := ws) (R := R) (i0 := i) (i' := ((j + 1 : Nat) : Int)) (e' := 0) hH hit1.out.b4.lt hit1.out.below (v0 := .int .i64 6) (v1 := .int .i64 0) (v2 := .string ⟨#[]⟩) (v3 := .slice a9 (xs.length + 1) c9) (v4 := .slice ka2 (ks.length + 1) kc2) (by intro u hu; simp at hu; rcases hu with rfl | rfl | rfl | rfl | rfl <;> rfl)
                      (fun e he => by rw [hRv] at he; cases he) (fun t' q' hq => by
                        rw [hRv] at hq
                        cases hq
                        exact ⟨rfl, (hit2.out.tree 6 0 []).mono (fun b hb => ⟨by omega, hb.2⟩), j + 1, rfl, by omega, hnx⟩)
                    have hzr := put5_cell hit1.out.b4 (.int .i64 6) (.int .i64 0) (.string ⟨#[]⟩) (.slice a9 (xs.length + 1) c9) (.slice ka2 (ks.length + 1) kc2)
                    unfold z5J at r4
                    unfold outC at r5
                    rw [show objK true = 6 from rfl] at r5
                    replace hfin := Lib.hid hfin
                    replace hzr := Lib.hid hzr
                    replace hk2 := Lib.hid hk2
                    clear hRv hnx m0 hit2 hit1 hwr
                    go_wp2_with fail
                    refine bodyPost_ret (items_ret _ (by rfl) (by rfl) (by rfl) hzr.out) rfl ?_
                    exact hfin.out
                  · have hki : ((t.k : Int) == 2) = false := by simp; omega
                    by_cases hk6 : t.k = 6
                    · have hk6i : ((t.k : Int) != 6) = false := by rw [hk6]; rfl
                      have hk6j : ((t.k : Int) == 6) = true := by rw [hk6]; rfl
                      have hRv := Lib.hid (show R = mLoop l f true t.nx (ks ++ [m.s]) (xs ++ [x]) by rw [hRn.out, if_neg (by exact hk2), if_neg (by simpa using hk6)])
                      have hnx : At l ws (j + 1) t.nx := by rw [ht.out]; exact hAtj.out.next (by rw [hkq.out, ← ht.out, hk6]; omega) (by rw [hkq.out, ← ht.out, hk6]; omega)
                      have hrl : RRel R W l ws f true H i (.int .i64 ((j + 1 : Nat) : Int)) (w9.setCell ⟨H + 1, 3, none⟩ (.slice a9 (xs.length + 1) c9)) := ⟨j + 1, t.nx, xs ++ [x], _, _, _, ks ++ [m.s], rfl, by omega, hnx, hRv.out, by simp; omega, by simp; omega, hit1.out, hit2.out⟩
                      replace hrl := Lib.hid hrl
                      replace hk2 := Lib.hid hk2
                      replace hk6 := Lib.hid hk6
                      clear hnx m0 hit2 hit1 hwr
                      go_wp2_with fail
                      go_roundw
                      case rel => exact hrl.out
                      case measure => simp [intOf]; omega
                    · have hk6i : ((t.k : Int) != 6) = true := by simp; omega
                      have hk6j : ((t.k : Int) == 6) = false := by simp; omega
                      have hRv : R = .bad (wrongE t) := by rw [hRn.out, if_neg (by exact hk2), if_pos (by simpa using hk6)]
                      have r4 := hit1.out.b4.cell
                      have s4 := hit1.out.b4.free
                      have hbt := hit1.out.below
                      have hb4' := hit1.out.b4
                      rw [hkq.out, ← ht.out] at m0
                      obtain ⟨k0, hk0'⟩ : ∃ k0 : Nat, k0 = (w0 l q).k := ⟨_, rfl⟩
                      have hk00 : t.k = k0 := by rw [hk0', hkq.out, ht.out]
                      rw [← hk0'] at hwr
                      rw [hk00] at m0 mk0
                      clear mk0
                      unfold z5J at r4
                      replace hk0' := Lib.hid hk0'
                      rw [hk00] at hki hk6i hk6j
                      replace hk00 := Lib.hid hk00
                      replace hk2 := Lib.hid hk2
                      replace hk6 := Lib.hid hk6
                      replace hRv := Lib.hid hRv
                      replace hbt := Lib.hid hbt
                      replace hb4' := Lib.hid hb4'
                      clear hit2 hit1 r4 s4
                      go_wp2_with fail
                      refine (hwr.out _).mono ?_
                      rintro r w7 ⟨rfl, hb7⟩
                      have h47 : Blk w7 H z5J 58 := hb4'.out.kept hb7 hb4'.out.lt
                      have hB7 := hbt.out.trans (hb7.mono (Nat.le_of_lt hb4'.out.lt))
                      have r4 := h47.cell
                      have s4 := h47.free
                      have hzr := put5_cell h47 (.int .i64 0) (.int .i64 0) (.string ⟨#[]⟩) (.slice none 0 0) (.slice none 0 0)
                      have hfin := RVPost.no (l := l) (ws := ws) (i0 := i) (e := wrongE t) (i' := (j : Int)) hH (below_put5 hB7 (Nat.le_refl H) (.int .i64 0) (.int .i64 0) (.string ⟨#[]⟩) (.slice none 0 0) (.slice none 0 0))
                      rw [← hRv.out] at hfin
                      unfold z5J at r4
                      replace hfin := Lib.hid hfin
                      replace hzr := Lib.hid hzr
                      clear hb7 h47 hB7 m0 m1 m2 m3 m4
                      go_wp2_with fail
                      refine bodyPost_ret (items_ret _ (by rfl) (by rfl) (by rfl) hzr.out) rfl ?_
                      exact hfin.out

end Go.Proofs.Ytmembanbemljoaa
