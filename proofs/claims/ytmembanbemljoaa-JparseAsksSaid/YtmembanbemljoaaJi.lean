/- The parser's list: the walk. -/
import Derived.Test.YtmembanbemljoaaJl
import Derived.Test.YtmembanbemljoaaLexv
import Derived.Deep.CutRange
namespace Go.Proofs.Ytmembanbemljoaa
open Go.RowKit
set_option linter.unusedVariables false
set_option linter.unusedSimpArgs false

variable {X : Nat} {a : Option Addr} {b off c : Nat} {l : List UInt8}
theorem Near.undrew {X B : Nat} {w w1 : World} (h : Near X B w.drew w1) : Near X B w w1 := ⟨((Below.refl X w).drew).trans h.below, h.far⟩
theorem Any.keep {W W' : World} {X : Nat} {bv : Value} {p e : Int} (h : Any W X bv p e) (hs : W'.heap[X]? = W.heap[X]?) : Any W' X bv p e := by
  obtain ⟨k, n, s, at_, nx, hP⟩ := h
  exact ⟨k, n, s, at_, nx, hs.trans hP⟩
theorem Took.keep {W W' : World} {X : Nat} {bv : Value} {m : MT} (h : Took W X bv m) (hs : W'.heap[X]? = W.heap[X]?) : Took W' X bv m := by
  rcases h with ⟨h1, h2⟩ | ⟨h1, h2, p, h3⟩
  · exact .inl ⟨h1, hs.trans h2⟩
  · exact .inr ⟨h1, h2, p, h3.keep hs⟩
theorem Bad.keep {W W' : World} {X : Nat} {bv : Value} {e : Nat} (h : Bad W X bv e) (hs : W'.heap[X]? = W.heap[X]?) : Bad W' X bv e := by
  obtain ⟨h2, p, h3⟩ := h
  exact ⟨h2, p, h3.keep hs⟩
theorem Near.blk {X B Y : Nat} {w w' : World} {C : Array Value} {T : TypeId} (h : Blk w Y C T) (hn : Near X B w w') (h1 : Y < B) (h2 : Y ≠ X) : Blk w' Y C T := (hn.far Y h1 h2).trans h
theorem heap_put5 (w : World) (H k : Nat) (v0 v1 v2 v3 v4 : Value) (hk : k ≠ H) : (put5 w H v0 v1 v2 v3 v4).heap[k]? = w.heap[k]? := by
  unfold put5
  have h : ∀ (w : World) (j : Nat) (v : Value), (w.setCell ⟨H, j, none⟩ v).heap[k]? = w.heap[k]? := fun w j v => Below.heap_setCell _ _ _ _ hk
  rw [h, h, h, h, h]
theorem size_put5 (w : World) (H : Nat) (v0 v1 v2 v3 v4 : Value) : (put5 w H v0 v1 v2 v3 v4).heap.size = w.heap.size := by
  unfold put5
  simp
/-- The result's block is filled: what is told. -/
theorem VPost.ret {W0 W1 : World} {X H4 : Nat} {bv : Value} {R : JR} {v0 v1 v2 v3 v4 : Value} (hX : X < H4) (hH : W0.heap.size = H4) (hs : H4 < W1.heap.size) (hN : Near X H4 W0 W1) (h1 : ∀ u ∈ [v0, v1, v2, v3, v4], u.oneCell' = true)
    (hb : ∀ e, R = .bad e → Bad W1 X bv e) (ho : ∀ t q, R = .ok t q → Any W1 X bv (q : Int) 0 ∧ JAt W1 (fun b => H4 < b ∧ b < W1.heap.size) t [v0, v1, v2, v3, v4]) :
    VPost W0 X bv R (.returned (.agg #[v0, v1, v2, v3, v4])) (put5 W1 H4 v0 v1 v2 v3 v4) := by
  have hx : (put5 W1 H4 v0 v1 v2 v3 v4).heap[X]? = W1.heap[X]? := heap_put5 _ _ _ _ _ _ _ _ (by omega)
  refine ⟨v0, v1, v2, v3, v4, rfl, h1, ?_, fun e he => (hb e he).keep hx, fun t q hq => ?_⟩
  · rw [hH]
    exact hN.put5 (Nat.le_of_lt hX) (Nat.le_refl _) _ _ _ _ _
  · obtain ⟨h2, h3⟩ := ho t q hq
    refine ⟨h2.keep hx, ?_⟩
    refine (h3.frame (fun b hb => heap_put5 _ _ _ _ _ _ _ _ (by omega))).mono (fun b hb => ⟨by omega, by rw [size_put5]; exact hb.2⟩)

/-- What follows an item. -/
theorem loop_ok {f : MT → JR} (hf : Reads l f) {obj : Bool} {p q : Nat} {ks : List (List UInt8)} {xs : List JT} {x : JT} (hp : p ≤ l.length) (hr : mHead l f obj p ks = .ok x q) :
    mLoop l f obj p ks xs = (if (mTakeN l q).k = endK obj then .ok (.mk (objK obj) 0 [] (mKeys l obj p ks) (xs ++ [x])) (mTakeN l q).nx
    else if (mTakeN l q).k ≠ 6 then .bad (wrongE (mTakeN l q)) else mLoop l f obj (mTakeN l q).nx (mKeys l obj p ks) (xs ++ [x])) := by
  rw [loop_eq hf hp, hr]
  rfl
theorem loop_bad {f : MT → JR} (hf : Reads l f) {obj : Bool} {p e : Nat} {ks : List (List UInt8)} {xs : List JT} (hp : p ≤ l.length) (hr : mHead l f obj p ks = .bad e) : mLoop l f obj p ks xs = .bad e := by
  rw [loop_eq hf hp, hr]
  rfl
theorem Any.meas {W : World} {X n : Nat} {bv : Value} {p e : Int} (h : Any W X bv p e) : lexMeas W X n = if e = 0 then n + 1 - p.toNat else 0 := by
  obtain ⟨k, n', s, at_, nx, hP⟩ := h
  have c1 := hP.cell 1
  have c2 := hP.cell 2
  unfold lexMeas posOf
  simp at c1 c2
  rw [c1, c2]
  rfl

set_option maxRecDepth 100000 in
set_option maxHeartbeats 4000000 in
theorem plist_any {d : Nat} (hV : ValC X a b off c l d) {W : World} {p : Nat} (hE : PEnv W X a b off c l) (hX : X < W.heap.size) (hp : p ≤ l.length) (hs : Any W X (.slice a l.length c) (p : Int) 0) :
    Calls Try.prog 79 #[.pointer (some ⟨X, 0, none⟩), .int .i64 ((32 - d : Nat) : Int)] W (VPost W X (.slice a l.length c) (mItems l (mVal l d) false p)) := by
  obtain ⟨H4, hH⟩ : ∃ H, W.heap.size = H := ⟨_, rfl⟩
  rw [hH] at hX
  have hf := reads_val (l := l) d
  obtain ⟨f, hfe⟩ : ∃ f, f = mVal l d := ⟨_, rfl⟩
  obtain ⟨R, hR⟩ : ∃ R, R = mItems l f false p := ⟨_, rfl⟩
  rw [← hfe] at hf ⊢
  rw [← hR]
  obtain ⟨dI, hdI⟩ : ∃ dI : Int, dI = ((32 - d : Nat) : Int) := ⟨_, rfl⟩
  have hV' := Lib.hid fun W m h1 h2 h3 h4 => hfe ▸ hdI ▸ hV W m h1 h2 h3 h4
  rw [← hdI]
  -- the world behind the two new blocks
  obtain ⟨W2, hW2⟩ : ∃ W2, W2 = (W.alloc (.cells z5J 58)).alloc (.cells (listC (.slice none 0 0)) 58) := ⟨_, rfl⟩
  have hb4 : Blk W2 H4 z5J 58 := by rw [hW2]; exact (Blk.made W _ _ H4 hH).kept ((Below.refl (H4 + 1) (W.alloc _)).alloc (by simp; omega) _) (by omega)
  have hb5 : Blk W2 (H4 + 1) (listC (.slice none 0 0)) 58 := by rw [hW2]; exact Blk.made _ _ _ (H4 + 1) (by simp; omega)
  have hB2 : Below H4 W W2 := by rw [hW2]; exact ((Below.refl H4 W).alloc (by omega) _).alloc (by simp; omega) _
  have hs2 : W2.heap.size = H4 + 2 := by rw [hW2]; simp; omega
  have htk := Lib.hid (ptake_any (hE.below hB2 (by omega)) hp (hs.keep (hB2.block X hX)))
  have hkd := take_kinds hp
  obtain ⟨m, hm⟩ : ∃ m, m = mTakeN l p := ⟨_, rfl⟩
  rw [← hm] at htk hkd
  replace hB2 := Lib.hid hB2
  replace hb4 := Lib.hid hb4
  replace hb5 := Lib.hid hb5
  replace hE := Lib.hid hE
  replace hkd := Lib.hid hkd
  replace hm := Lib.hid hm
  unfold z5J listC at hW2
  replace hR := Lib.hid hR
  clear hV hs hdI hfe
  go_enter Try.func79, Try.ntmps79
  go_wp2_with fail
  rw [← hW2]
  clear hW2
  refine htk.out.mono ?_
  rintro r W3 ⟨rfl, hN3, hT3⟩
  clear htk
  rw [hs2] at hN3
  have g4 := hN3.far H4 (by omega) (by omega)
  have g5 := hN3.far (H4 + 1) (by omega) (by omega)
  have h4 : Blk W3 H4 z5J 58 := g4.trans hb4.out
  have h5 : Blk W3 (H4 + 1) (listC (.slice none 0 0)) 58 := g5.trans hb5.out
  have hNw : Near X H4 W W3 := (Near.ofBelow hB2.out (by omega)).later hN3 (by omega)
  have hs3 : H4 + 2 ≤ W3.heap.size := by have := hN3.below.size; omega
  clear g4 g5 hb4 hb5 hB2 hN3 hs2
  by_cases hk4 : m.k = 4
  · have hk4i : ((m.k : Int) == 4) = true := by rw [hk4]; rfl
    have he : m.e = 0 := by have := hkd.out; omega
    have hG : Good W3 X (.slice a l.length c) m := by
      rcases hT3 with h | h
      · exact h.2
      · omega
    have hRv : R = .ok (.mk 5 0 [] [] []) m.nx := by
      rw [hR.out]
      unfold mItems
      rw [← hm.out, if_pos (by rw [hk4]; rfl)]
      rfl
    have r4 := h4.cell
    have s4 := h4.free
    have r5 := h5.cell
    have hfin := VPost.ret (R := R) hX hH (by omega : H4 < W3.heap.size) hNw (v0 := .int .i64 5) (v1 := .int .i64 0) (v2 := .string ⟨#[]⟩) (v3 := .slice none 0 0) (v4 := .slice none 0 0) (by intro u hu; simp at hu; rcases hu with rfl | rfl | rfl | rfl | rfl <;> rfl)
      (fun e he => by rw [hRv] at he; cases he) (fun t q hq => by
        rw [hRv] at hq
        cases hq
        exact ⟨hG.any, .mk (RowAt.nil _ _ _) (vss := []) (RowAt.nil _ _ _) rfl (fun i x vs h => by simp at h)⟩)
    have hzr := put5_cell (w := W3) h4 (.int .i64 5) (.int .i64 0) (.string ⟨#[]⟩) (.slice none 0 0) (.slice none 0 0)
    unfold z5J at r4
    unfold listC at r5
    replace hfin := Lib.hid hfin
    replace hzr := Lib.hid hzr
    replace hk4 := Lib.hid hk4
    replace hNw := Lib.hid hNw
    clear hT3 hG hRv h4 h5
    go_wp2_with fail
    refine bodyPost_ret (list_ret _ (by rfl) hzr.out) rfl ?_
    exact hfin.out
  · have hk4i : ((m.k : Int) == 4) = false := by simp; omega
    have hRl : R = mLoop l f false p [] [] := by
      rw [hR.out]
      unfold mItems
      rw [← hm.out, if_neg (by exact hk4)]
    have hrel : LRel R W X a b off c l f H4 (.int .i64 (m.k : Int)) W3 := by
      rcases hT3 with ⟨he, hG⟩ | ⟨h0, hB⟩
      · rw [hm.out] at he hG ⊢
        exact .inl ⟨p, [], .slice none 0 0, [], rfl, hp, he, hG, hRl, Nat.zero_le _, h4, h5, ItemsO.nil _ _, hNw⟩
      · refine .inr ⟨m.e, .slice none 0 0, _, rfl, hB, ?_, h4, h5, ⟨_, _, _, rfl⟩, hNw⟩
        rw [hRl, hm.out]
        exact loop_dead hf hp (by rw [← hm.out]; exact hB.1)
    replace hrel := Lib.hid hrel
    replace hk4 := Lib.hid hk4
    clear hT3 h4 h5 hNw hRl hs3
    go_wp2_with fail
    go_loopw [7] (fun t wr => LRel R W X a b off c l f H4 t wr) (fun _ wr => lexMeas wr X l.length)
    case atStart => exact hrel.out
    case round =>
      rcases hrel with ⟨pp, xs, iv, vss, rfl, hA⟩ | ⟨e, iv, k, rfl, hD⟩
      rotate_left
      · obtain ⟨ia, ni, ic, rfl⟩ := hD.one
        obtain ⟨he0, pI, hAny⟩ := hD.bad
        obtain ⟨k1, n1, s1, a1, x1, hP⟩ := hAny
        have c2 := hP.cell 2
        have hez : ((e : Int) == 0) = false := by simp; omega
        have r4 := hD.b4.cell
        have s4 := hD.b4.free
        have r5 := hD.b5.cell
        have hfin := VPost.ret (R := R) hX hH hD.b4.lt hD.near (v0 := .int .i64 5) (v1 := .int .i64 0) (v2 := .string ⟨#[]⟩) (v3 := .slice ia ni ic) (v4 := .slice none 0 0) (by intro u hu; simp at hu; rcases hu with rfl | rfl | rfl | rfl | rfl <;> rfl)
          (fun e he => by have := hD.res; rw [this] at he; cases he; exact hD.bad) (fun t q hq => by rw [hD.res] at hq; cases hq)
        have hzr := put5_cell (w := wr) hD.b4 (.int .i64 5) (.int .i64 0) (.string ⟨#[]⟩) (.slice ia ni ic) (.slice none 0 0)
        unfold z5J at r4
        unfold listC at r5
        replace hfin := Lib.hid hfin
        replace hzr := Lib.hid hzr
        replace he0 := Lib.hid he0
        clear hD hP hV' hkd hm hR hk4 hk4i hE
        go_wp2_with fail
        refine bodyPost_ret (list_ret _ (by rfl) hzr.out) rfl ?_
        exact hfin.out
      · obtain ⟨m, hm⟩ : ∃ m, m = mTakeN l pp := ⟨_, rfl⟩
        have hG := hA.good
        have he := hA.word
        have hkd := take_kinds hA.pos
        rw [← hm] at hG he hkd ⊢
        have hEr := hE.out.near hA.near
        have hAny := hG.any
        have hmeas : lexMeas wr X l.length = l.length + 1 - m.nx := by rw [hAny.meas]; simp
        have c2 : wr.cell? ⟨X, 2, none⟩ = some (.int .i64 0) := Blk.cell hG 2
        have hVc := Lib.hid (hV'.out wr.drew m (hEr.below (Below.refl (wr.heap.size) wr).drew (by have := hA.b4.lt; omega)) (by show X < wr.heap.size; have := hA.b4.lt; omega) (.inl ⟨he, hG⟩) (fun _ => by omega))
        have h5 := hA.b5
        have h5d : Blk wr.drew (H4 + 1) (listC iv) 58 := h5
        have hl5 : H4 + 1 < wr.drew.heap.size := h5d.lt
        have hone := hA.items.own
        obtain ⟨ia, ic, rfl⟩ : ∃ ia ic, iv = .slice ia xs.length ic := by
          rcases hone.2 with ⟨rfl, h0⟩ | ⟨g, cap, cur, rfl, _⟩
          · exact ⟨none, 0, by rw [h0]⟩
          · exact ⟨_, _, rfl⟩
        have hfew : xs.length < 1099511627776 := by have := hA.few; have := hA.pos; have := hE.out.big; omega
        have k5 : wr.cell? ⟨H4 + 1, 3, none⟩ = some (.slice ia xs.length ic) := h5.cell 3
        replace hEr := Lib.hid hEr
        replace hA := Lib.hid hA
        replace hm := Lib.hid hm
        replace hkd := Lib.hid hkd
        replace he := Lib.hid he
        replace hmeas := Lib.hid hmeas
        have hiown : wr.drew.ownsRow (H4 + 2) 58 5 (.slice ia xs.length ic) xs.length vss.flatten := hone
        clear hG hAny hV' hone
        go_wp2_with fail
        go_cut [] from 21 to 29 (fun W6 => LItem W X (.slice a l.length c) H4 (f m) xs W6)
        case first =>
          go_region_law (first
            | (go_simp; go_at_call 50; refine hVc.out.mono ?_; rintro r w1 ⟨v0, v1, v2, v3, v4, rfl, hones, hN1, hbad, hok⟩; obtain ⟨Y, hY⟩ : ∃ Y, w1.heap.size = Y := ⟨_, rfl⟩; have hz5 : Blk w1 (H4 + 1) (listC (.slice ia xs.length ic)) 58 := Near.blk h5d hN1 hl5 (by omega); have hz6 : Blk ((w1.alloc (.cells #[v0, v1, v2, v3, v4] 58))) (H4 + 1) (listC (.slice ia xs.length ic)) 58 := hz5.kept ((Below.refl Y w1).alloc (by omega) _) (by have := hz5.lt; omega); have hownA := own_near hiown hN1 (by omega : X < H4 + 2) (.cells #[v0, v1, v2, v3, v4] 58); have hYl : H4 + 2 ≤ Y := (by have := hz5.lt; omega); have z5c : w1.cell? ⟨H4 + 1, 3, none⟩ = some (.slice ia xs.length ic) := hz5.cell 3; have z6c : (w1.alloc (.cells #[v0, v1, v2, v3, v4] 58)).cell? ⟨H4 + 1, 3, none⟩ = some (.slice ia xs.length ic) := hz6.cell 3)
            | (refine step_appendR Try.underlying55 Try.infoJ (by rfl) (by decide) (by decide) (by rfl) _ _ (by rfl) (by rfl) (H4 + 2) (.slice ia xs.length ic) xs.length vss.flatten Y [v0, v1, v2, v3, v4] (by rfl) (by rfl) (by exact hownA) (by rfl) (fun j _ => ((Blk.made w1 _ _ Y hY).cell j).trans (by simp)) hones hfew (by simp; omega) ?_; intro a' c' w2 hown2 hg2 hb2; have hz7 : Blk w2 (H4 + 1) (listC (.slice ia xs.length ic)) 58 := (hg2.out.block (H4 + 1) (by simp; omega) (fun e => by have := (hiown.lt _ e.symm).1; omega)).trans hz6; have z7c : w2.cell? ⟨H4 + 1, 3, none⟩ = some (.slice ia xs.length ic) := hz7.cell 3; have z7f := hz7.free 3))
          all_goals
            go_wp2_with fail
            go_meet
            case rel => exact list_item hX hA.out.b4 hA.out.b5 hA.out.items hA.out.near hN1.undrew hown2.out hg2.out (by have := hb2.out; simpa using this) hbad hok
        case rest =>
          obtain ⟨ja, jc, hN6, h46, h56, hbad, hok⟩ := hcut
          have hE6 := hE.out.near hN6
          have hX6 : X < wc.heap.size := by have := h46.lt; omega
          have hs6 := hN6.below.size
          rcases hr : f m with e1 | ⟨x, q⟩
          · have hB6 := hbad e1 hr
            have hRb : R = .bad e1 := by rw [hA.out.res]; exact loop_bad hf hA.out.pos (by unfold mHead; simp only [Bool.false_eq_true, if_false]; rw [← hm.out]; exact hr)
            have htk := Lib.hid (ptake_bad hB6)
            have hfl := Lib.hid (pfail_bad hB6 20)
            have hlt : lexMeas wc X l.length < lexMeas wr X l.length := by
              obtain ⟨h1, pI, h2⟩ := hB6
              have h3 : (e1 : Int) ≠ 0 := by omega
              rw [h2.meas, hmeas.out, if_neg h3]
              have := hkd.out
              have := he.out
              omega
            have hdead := Lib.hid (⟨hB6, hRb, h46, h56, ⟨_, _, _, rfl⟩, hN6⟩ : LDead R W X (.slice a l.length c) H4 wc e1 (.slice ja (xs.length + 1) jc))
            replace hlt := Lib.hid hlt
            clear hbad hok hB6 hRb h46 h56 hN6 hVc h5 h5d k5 hiown c2 hr
            go_wp2_with fail
            refine htk.out.mono ?_
            rintro r w7 ⟨rfl, rfl⟩
            go_wp2_with fail
            refine hfl.out.mono ?_
            rintro r w7 ⟨rfl, rfl⟩
            go_wp2_with fail
            go_roundw
            case rel => exact .inr ⟨_, _, _, rfl, hdead.out⟩
            case measure => exact hlt.out
          · obtain ⟨hA6, vs6, hI6⟩ := hok x q hr
            have hwi := (hf m).2 (by have := hkd.out; have := he.out; omega) (by have := hkd.out; have := he.out; omega)
            rw [hr] at hwi
            have hq1 : m.nx ≤ q := hwi.1
            have hq2 : q ≤ l.length := hwi.2
            have hRn := loop_ok (obj := false) (ks := []) (xs := xs) (p := pp) (q := q) (x := x) hf hA.out.pos (by unfold mHead; simp only [Bool.false_eq_true, if_false]; rw [← hm.out]; exact hr)
            rw [← hA.out.res] at hRn
            have hfewq : xs.length ≤ q := by have := hA.out.few; have := hkd.out; have := he.out; omega
            have hmn : m.nx ≤ l.length := by have := hkd.out; have := he.out; omega
            have hl46 := h46.lt
            have hl56 := h56.lt
            have htk := Lib.hid (ptake_any hE6 hq2 hA6)
            have hkt := take_kinds hq2
            obtain ⟨t, ht⟩ : ∃ t, t = mTakeN l q := ⟨_, rfl⟩
            rw [← ht] at hRn htk hkt
            have hposm : lexMeas wr X l.length = l.length + 1 - m.nx := hmeas.out
            replace hkt := Lib.hid hkt
            replace ht := Lib.hid ht
            replace hE6 := Lib.hid hE6
            clear hbad hok hVc h5 h5d k5 hiown c2 hr
            by_cases ht4 : t.k = 4
            · have ht4i : ((t.k : Int) == 4) = true := by rw [ht4]; rfl
              have hRv : R = .ok (.mk 5 0 [] [] (xs ++ [x])) t.nx := by rw [hRn, if_pos (by rw [ht4]; rfl)]; rfl
              replace hRv := Lib.hid hRv
              have ht4' := Lib.hid ht4
              clear hRn ht4
              go_wp2_with fail
              refine htk.out.mono ?_
              rintro r w7 ⟨rfl, hN7, hT7⟩
              have h47 := Near.blk h46 hN7 hl46 (by omega)
              have h57 := Near.blk h56 hN7 hl56 (by omega)
              have hI7 := hI6.later (fun b h1 h2 => hN7.far b h2 (by omega)) hN7.below.size
              have hN := hN6.later hN7 (by omega)
              have hGt : Good w7 X (.slice a l.length c) t := by
                rcases hT7 with h | h
                · exact h.2
                · have := h.1; have := ht4'.out; omega
              have hfin := VPost.ret (R := R) hX hH h47.lt hN (v0 := .int .i64 5) (v1 := .int .i64 0) (v2 := .string ⟨#[]⟩) (v3 := .slice ja (xs.length + 1) jc) (v4 := .slice none 0 0) (by intro u hu; simp at hu; rcases hu with rfl | rfl | rfl | rfl | rfl <;> rfl)
                (fun e he => by rw [hRv.out] at he; cases he) (fun t' q' hq => by
                  rw [hRv.out] at hq
                  cases hq
                  exact ⟨hGt.any, (hI7.tree (ks := []) (World.ownsRow_nil _ _ _ _) 5 0 []).mono (fun b hb => ⟨by omega, hb.2⟩)⟩)
              have r4 := h47.cell
              have s4 := h47.free
              have r5 := h57.cell
              have hzr := put5_cell (w := w7) h47 (.int .i64 5) (.int .i64 0) (.string ⟨#[]⟩) (.slice ja (xs.length + 1) jc) (.slice none 0 0)
              unfold z5J at r4
              unfold listC at r5
              replace hfin := Lib.hid hfin
              replace hzr := Lib.hid hzr
              clear hN7 hT7 h47 h57 hI7 hN hGt hI6 h46 h56 hN6 hA6 htk
              go_wp2_with fail
              refine bodyPost_ret (list_ret _ (by rfl) hzr.out) rfl ?_
              exact hfin.out
            · have ht4i : ((t.k : Int) == 4) = false := by simp; omega
              by_cases ht6 : t.k = 6
              · have ht6i : ((t.k : Int) == 6) = true := by rw [ht6]; rfl
                have hRv : R = mLoop l f false t.nx [] (xs ++ [x]) := by rw [hRn, if_neg (by exact ht4), if_neg (by simpa using ht6)]; rfl
                replace hRv := Lib.hid hRv
                have ht6' := Lib.hid ht6
                have ht4' := Lib.hid ht4
                clear hRn ht6 ht4
                go_wp2_with fail
                refine htk.out.mono ?_
                rintro r w7 ⟨rfl, hN7, hT7⟩
                have h47 := Near.blk h46 hN7 hl46 (by omega)
                have h57 := Near.blk h56 hN7 hl56 (by omega)
                have hI7 := hI6.later (fun b h1 h2 => hN7.far b h2 (by omega)) hN7.below.size
                have hN := hN6.later hN7 (by omega)
                have hGt : Good w7 X (.slice a l.length c) t := by
                  rcases hT7 with h | h
                  · exact h.2
                  · have := h.1; have := ht6'.out; omega
                have htn : q < t.nx ∧ t.nx ≤ l.length := by have := hkt.out; have := ht6'.out; omega
                have htk2 := Lib.hid (ptake_any (hE6.out.near hN7) htn.2 hGt.any)
                have hk2 := take_kinds htn.2
                have hs7 := hN.below.size
                have hl47 := h47.lt
                have hl57 := h57.lt
                clear hN7 hT7 hGt hI6 h46 h56 hN6 hA6 htk
                go_wp2_with fail
                refine htk2.out.mono ?_
                rintro r w8 ⟨rfl, hN8, hT8⟩
                have h48 := Near.blk h47 hN8 hl47 (by omega)
                have h58 := Near.blk h57 hN8 hl57 (by omega)
                have hI8 := hI7.later (fun b h1 h2 => hN8.far b h2 (by omega)) hN8.below.size
                have hNf := hN.later hN8 (by omega)
                have hboth : (LRel R W X a b off c l f H4 (.int .i64 ((mTakeN l t.nx).k : Int)) w8) ∧ lexMeas w8 X l.length < lexMeas wr X l.length := by
                  rcases hT8 with ⟨hz, hG8⟩ | ⟨hz, hB8⟩
                  · refine ⟨.inl ⟨t.nx, xs ++ [x], _, vs6, rfl, htn.2, hz, hG8, hRv.out, by simp; omega, h48, h58, hI8, hNf⟩, ?_⟩
                    rw [hG8.any.meas, hposm, if_pos rfl]
                    have := hk2
                    simp
                    omega
                  · refine ⟨.inr ⟨_, _, _, rfl, hB8, by rw [hRv.out]; exact loop_dead hf htn.2 hB8.1, h48, h58, ⟨_, _, _, rfl⟩, hNf⟩, ?_⟩
                    obtain ⟨h1, pI, h2⟩ := hB8
                    have h3 : ((mTakeN l t.nx).e : Int) ≠ 0 := by omega
                    rw [h2.meas, hposm, if_neg h3]
                    omega
                replace hboth := Lib.hid hboth
                clear hN8 hT8 h47 h57 hI7 hN h48 h58 hI8 hNf htk2
                go_wp2_with fail
                go_roundw
                case rel => exact hboth.out.1
                case measure => exact hboth.out.2
              · have ht6i : ((t.k : Int) == 6) = false := by simp; omega
                have hRv : R = .bad (wrongE t) := by rw [hRn, if_neg (by exact ht4), if_pos (by simpa using ht6)]
                replace hRv := Lib.hid hRv
                have ht6' := Lib.hid ht6
                have ht4' := Lib.hid ht4
                clear hRn ht6 ht4
                go_wp2_with fail
                refine htk.out.mono ?_
                rintro r w7 ⟨rfl, hN7, hT7⟩
                have h47 := Near.blk h46 hN7 hl46 (by omega)
                have h57 := Near.blk h56 hN7 hl56 (by omega)
                have hN := hN6.later hN7 (by omega)
                have hfl := Lib.hid (pfail_took hT7)
                have hs7 := hN.below.size
                have hl47 := h47.lt
                have hl57 := h57.lt
                clear hN7 hT7 hI6 h46 h56 hN6 hA6 htk
                go_wp2_with fail
                refine hfl.out.mono ?_
                rintro r w8 ⟨rfl, hN8, hB8⟩
                have h48 := Near.blk h47 hN8 hl47 (by omega)
                have h58 := Near.blk h57 hN8 hl57 (by omega)
                have hNf := hN.later hN8 (by omega)
                have hboth : (∀ kk : Int, LRel R W X a b off c l f H4 (.int .i64 kk) w8) ∧ lexMeas w8 X l.length < lexMeas wr X l.length := by
                  refine ⟨fun kk => .inr ⟨_, _, _, rfl, hB8, hRv.out, h48, h58, ⟨_, _, _, rfl⟩, hNf⟩, ?_⟩
                  obtain ⟨h1, pI, h2⟩ := hB8
                  have h3 : ((wrongE t : Nat) : Int) ≠ 0 := by omega
                  rw [h2.meas, hposm, if_neg h3]
                  omega
                replace hboth := Lib.hid hboth
                clear hN8 h47 h57 hN h48 h58 hNf hfl hB8
                go_wp2_with fail
                go_roundw
                case rel => exact hboth.out.1 _
                case measure => exact hboth.out.2

end Go.Proofs.Ytmembanbemljoaa
