/- The parser's object: the walk. -/
import Derived.Test.YticfioblapjkmaaGreatJpa
import Derived.Deep.CutRange
namespace Go.Proofs.YticfioblapjkmaaGreat
open Go.RowKit
set_option linter.unusedVariables false
set_option linter.unusedSimpArgs false

variable {X : Nat} {a : Option Addr} {b off c : Nat} {l : List UInt8}
theorem object_ret {W : World} {H : Nat} {v0 v1 v2 v3 v4 : Value} (tmps : Array Value) (hz : tmps[4]?.getD undef = .pointer (some ⟨H, 0, none⟩)) (hc : ∀ j, W.cell? ⟨H, j, none⟩ = (#[v0, v1, v2, v3, v4] : Array Value)[j]?) :
    (results Tryz.f36 tmps).run Tryz.prog W = .ok (.agg #[v0, v1, v2, v3, v4]) W := by
  simp [results, Tryz.results36, go_sem, hz, hc]
/-- An item's beginning, its key looked at. -/
def S2 (W : World) (X : Nat) (bv : Value) (l : List UInt8) (f : MT → JR) (m : MT) (R1 : JR) : Prop :=
  (∃ e, Bad W X bv e ∧ R1 = .bad e) ∨ (Any W X bv (m.nx : Int) 0 ∧ R1 = (if (mTakeN l m.nx).k ≠ 5 then .bad (wrongE (mTakeN l m.nx)) else f (mTakeN l (mTakeN l m.nx).nx)))
theorem owant {W : World} {f : MT → JR} {m : MT} {R1 : JR} (hE : PEnv W X a b off c l) (hm : m.nx ≤ l.length) (h : S2 W X (.slice a l.length c) l f m R1) :
    Calls Tryz.prog 21 #[.pointer (some ⟨X, 0, none⟩), .int .i64 5] W fun r W' => r = .returned (.tuple #[]) ∧ Near X W.heap.size W W' ∧ S3 W' X (.slice a l.length c) l f R1 := by
  rcases h with ⟨e, hB, hR⟩ | ⟨hA, hR⟩
  · refine (pwant_bad hB 5 (by decide)).mono ?_
    rintro r W' ⟨rfl, rfl⟩
    exact ⟨rfl, Near.refl _ _ _, .inl ⟨e, hB, hR⟩⟩
  · refine (pwant_any hE hm hA 5 (by decide)).mono ?_
    rintro r W' ⟨rfl, hN, hW⟩
    refine ⟨rfl, hN, ?_⟩
    rcases hW with ⟨h1, h2, h3⟩ | ⟨h1, h2⟩
    · refine .inr ⟨(mTakeN l m.nx).nx, h3.any, by have := take_kinds hm; omega, ?_⟩
      rw [hR, if_neg (by omega)]
    · refine .inl ⟨_, h2, ?_⟩
      rw [hR, if_pos h1]

set_option maxRecDepth 100000 in
set_option maxHeartbeats 4000000 in
theorem pobject_any {d : Nat} (hV : ValC X a b off c l d) {W : World} {p : Nat} (hE : PEnv W X a b off c l) (hX : X < W.heap.size) (hp : p ≤ l.length) (hs : Any W X (.slice a l.length c) (p : Int) 0) :
    Calls Tryz.prog 36 #[.pointer (some ⟨X, 0, none⟩), .int .i64 ((32 - d : Nat) : Int)] W (VPost W X (.slice a l.length c) (mItems l (mVal l d) true p)) := by
  obtain ⟨H4, hH⟩ : ∃ H, W.heap.size = H := ⟨_, rfl⟩
  rw [hH] at hX
  have hf := reads_val (l := l) d
  obtain ⟨f, hfe⟩ : ∃ f, f = mVal l d := ⟨_, rfl⟩
  obtain ⟨R, hR⟩ : ∃ R, R = mItems l f true p := ⟨_, rfl⟩
  rw [← hfe] at hf ⊢
  rw [← hR]
  obtain ⟨dI, hdI⟩ : ∃ dI : Int, dI = ((32 - d : Nat) : Int) := ⟨_, rfl⟩
  have hV' := Lib.hid fun W m h1 h2 h3 h4 => hfe ▸ hdI ▸ hV W m h1 h2 h3 h4
  rw [← hdI]
  -- the world behind the two new blocks
  obtain ⟨W2, hW2⟩ : ∃ W2, W2 = (W.alloc (.cells z5J 25)).alloc (.cells (objC (.slice none 0 0) (.slice none 0 0)) 25) := ⟨_, rfl⟩
  have hb4 : Blk W2 H4 z5J 25 := by rw [hW2]; exact (Blk.made W _ _ H4 hH).kept ((Below.refl (H4 + 1) (W.alloc _)).alloc (by simp; omega) _) (by omega)
  have hb5 : Blk W2 (H4 + 1) (objC (.slice none 0 0) (.slice none 0 0)) 25 := by rw [hW2]; exact Blk.made _ _ _ (H4 + 1) (by simp; omega)
  have hB2 : Below H4 W W2 := by rw [hW2]; exact ((Below.refl H4 W).alloc (by omega) _).alloc (by simp; omega) _
  have hs2 : W2.heap.size = H4 + 2 := by rw [hW2]; simp; omega
  have htk := Lib.hid (ptake_any (hE.below hB2 (by omega)) hp (hs.keep (hB2.block X hX)))
  have hkd := take_kinds hp
  obtain ⟨m, hm⟩ : ∃ m, m = mTakeN l p := ⟨_, rfl⟩
  rw [← hm] at htk hkd
  replace hB2 := Lib.hid hB2
  replace hb4 := Lib.hid hb4
  replace hb5 := Lib.hid hb5
  replace hE := Lib.hid hE
  replace hkd := Lib.hid hkd
  replace hm := Lib.hid hm
  unfold z5J objC at hW2
  replace hR := Lib.hid hR
  clear hV hs hdI hfe
  go_enter Tryz.func36, Tryz.ntmps36
  go_wp2_with fail
  rw [← hW2]
  clear hW2
  refine htk.out.mono ?_
  rintro r W3 ⟨rfl, hN3, hT3⟩
  clear htk
  rw [hs2] at hN3
  have g4 := hN3.far H4 (by omega) (by omega)
  have g5 := hN3.far (H4 + 1) (by omega) (by omega)
  have h4 : Blk W3 H4 z5J 25 := g4.trans hb4.out
  have h5 : Blk W3 (H4 + 1) (objC (.slice none 0 0) (.slice none 0 0)) 25 := g5.trans hb5.out
  have hNw : Near X H4 W W3 := (Near.ofBelow hB2.out (by omega)).later hN3 (by omega)
  have hs3 : H4 + 2 ≤ W3.heap.size := by have := hN3.below.size; omega
  clear g4 g5 hb4 hb5 hB2 hN3 hs2
  by_cases hk2 : m.k = 2
  · have hk2i : ((m.k : Int) == 2) = true := by rw [hk2]; rfl
    have he : m.e = 0 := by have := hkd.out; omega
    have hG : Good W3 X (.slice a l.length c) m := by
      rcases hT3 with h | h
      · exact h.2
      · omega
    have hRv : R = .ok (.mk 6 0 [] [] []) m.nx := by
      rw [hR.out]
      unfold mItems
      rw [← hm.out, if_pos (by rw [hk2]; rfl)]
      rfl
    have r4 := h4.cell
    have s4 := h4.free
    have r5 := h5.cell
    have hfin := VPost.ret (R := R) hX hH (by omega : H4 < W3.heap.size) hNw (v0 := .int .i64 6) (v1 := .int .i64 0) (v2 := .string ⟨#[]⟩) (v3 := .slice none 0 0) (v4 := .slice none 0 0) (by intro u hu; simp at hu; rcases hu with rfl | rfl | rfl | rfl | rfl <;> rfl)
      (fun e he => by rw [hRv] at he; cases he) (fun t q hq => by
        rw [hRv] at hq
        cases hq
        exact ⟨hG.any, .mk (RowAt.nil _ _ _) (vss := []) (RowAt.nil _ _ _) rfl (fun i x vs h => by simp at h)⟩)
    have hzr := put5_cell (w := W3) h4 (.int .i64 6) (.int .i64 0) (.string ⟨#[]⟩) (.slice none 0 0) (.slice none 0 0)
    unfold z5J at r4
    unfold objC at r5
    replace hfin := Lib.hid hfin
    replace hzr := Lib.hid hzr
    replace hk2 := Lib.hid hk2
    replace hNw := Lib.hid hNw
    clear hT3 hG hRv h4 h5
    go_wp2_with fail
    refine bodyPost_ret (object_ret _ (by rfl) hzr.out) rfl ?_
    exact hfin.out
  · have hk2i : ((m.k : Int) == 2) = false := by simp; omega
    have hRl : R = mLoop l f true p [] [] := by
      rw [hR.out]
      unfold mItems
      rw [← hm.out, if_neg (by exact hk2)]
    have hO : OBlk W W3 X H4 (.slice none 0 0) (.slice none 0 0) := ⟨h4, h5, hNw⟩
    have hrel : ORel R W X a b off c l f H4 (.int .i64 (m.k : Int)) W3 := by
      rcases hT3 with ⟨he, hG⟩ | ⟨h0, hB⟩
      · rw [hm.out] at he hG ⊢
        exact .inl ⟨p, [], .slice none 0 0, .slice none 0 0, [], [], rfl, hp, he, hG, hRl, ⟨Nat.zero_le _, Nat.zero_le _⟩, hO, ItemsK.nil _ _⟩
      · refine .inr ⟨m.e, .slice none 0 0, .slice none 0 0, _, rfl, hB, ?_, hO, ⟨_, _, _, rfl⟩, ⟨_, _, _, rfl⟩⟩
        rw [hRl, hm.out]
        exact oloop_dead hp (by rw [← hm.out]; exact hB.1)
    replace hrel := Lib.hid hrel
    replace hk2 := Lib.hid hk2
    clear hT3 h4 h5 hNw hRl hs3 hO
    go_wp2_with fail
    go_loopw [7] (fun t wr => ORel R W X a b off c l f H4 t wr) (fun _ wr => lexMeas wr X l.length)
    case atStart => exact hrel.out
    case round =>
      rcases hrel with ⟨pp, xs, iv, kv, vss, ks, rfl, hA⟩ | ⟨e, iv, kv, k, rfl, hD⟩
      rotate_left
      · obtain ⟨⟨ia, ni, ic, rfl⟩, ka, nk, kc, rfl⟩ := hD.one
        obtain ⟨he0, pI, hAny⟩ := hD.bad
        obtain ⟨k1, n1, s1, a1, x1, hP⟩ := hAny
        have c2 := hP.cell 2
        have hez : ((e : Int) == 0) = false := by simp; omega
        have r4 := hD.blk.b4.cell
        have s4 := hD.blk.b4.free
        have r5 := hD.blk.b5.cell
        have hfin := VPost.ret (R := R) hX hH hD.blk.b4.lt hD.blk.near (v0 := .int .i64 6) (v1 := .int .i64 0) (v2 := .string ⟨#[]⟩) (v3 := .slice ia ni ic) (v4 := .slice ka nk kc) (by intro u hu; simp at hu; rcases hu with rfl | rfl | rfl | rfl | rfl <;> rfl)
          (fun e he => by have := hD.res; rw [this] at he; cases he; exact hD.bad) (fun t q hq => by rw [hD.res] at hq; cases hq)
        have hzr := put5_cell (w := wr) hD.blk.b4 (.int .i64 6) (.int .i64 0) (.string ⟨#[]⟩) (.slice ia ni ic) (.slice ka nk kc)
        unfold z5J at r4
        unfold objC at r5
        replace hfin := Lib.hid hfin
        replace hzr := Lib.hid hzr
        replace he0 := Lib.hid he0
        clear hD hP hV' hkd hm hR hk2 hk2i hE
        go_wp2_with fail
        refine bodyPost_ret (object_ret _ (by rfl) hzr.out) rfl ?_
        exact hfin.out
      · obtain ⟨m, hm⟩ : ∃ m, m = mTakeN l pp := ⟨_, rfl⟩
        have hG := hA.good
        have he := hA.word
        have hkd := take_kinds hA.pos
        rw [← hm] at hG he hkd ⊢
        have hEr := hE.out.near hA.blk.near
        have hmeas : lexMeas wr X l.length = l.length + 1 - m.nx := by rw [hG.any.meas]; simp
        have c2 : wr.cell? ⟨X, 2, none⟩ = some (.int .i64 0) := Blk.cell hG 2
        have c5 : wr.cell? ⟨X, 5, none⟩ = some (.string (str m.s)) := Blk.cell hG 5
        have hone := hA.items.own
        have honk := hA.items.keys
        obtain ⟨ia, ic, rfl⟩ : ∃ ia ic, iv = .slice ia xs.length ic := by
          rcases hone.2 with ⟨rfl, h0⟩ | ⟨g, cap, cur, rfl, _⟩
          · exact ⟨none, 0, by rw [h0]⟩
          · exact ⟨_, _, rfl⟩
        obtain ⟨ka, kc, rfl⟩ : ∃ ka kc, kv = .slice ka ks.length kc := by
          rcases honk.2 with ⟨rfl, h0⟩ | ⟨g, cap, cur, rfl, _⟩
          · exact ⟨none, 0, by rw [h0]⟩
          · exact ⟨_, _, rfl⟩
        have hfew : xs.length < 1099511627776 ∧ ks.length < 1099511627776 := by have := hA.few; have := hA.pos; have := hE.out.big; omega
        have hmn : m.nx ≤ l.length := by omega
        have k4 : wr.cell? ⟨H4 + 1, 4, none⟩ = some (.slice ka ks.length kc) := hA.blk.b5.cell 4
        have hct := Lib.hid (scontains_any (RowAt.own (ok := fun _ => True) honk (fun _ _ => trivial)) m.s (by omega))
        obtain ⟨R1, hR1⟩ : ∃ R1, R1 = mHead l f true pp ks := ⟨_, rfl⟩
        have hR1' := hR1
        unfold mHead at hR1'
        rw [if_pos rfl, ← hm] at hR1'
        replace hR1 := Lib.hid hR1
        replace hR1' := Lib.hid hR1'
        replace hEr := Lib.hid hEr
        replace hA := Lib.hid hA
        replace hm := Lib.hid hm
        replace hkd := Lib.hid hkd
        replace he := Lib.hid he
        replace hmeas := Lib.hid hmeas
        replace hG := Lib.hid hG
        clear hone honk
        go_upto_region 7 with fail
        go_cut [8] from 22 to 26 (fun v8 wx => v8 = .string (str m.s) ∧ wx = wr)
        case first =>
          go_wp2_with fail
          go_meet
          case rel => exact ⟨rfl, rfl⟩
        case rest =>
          obtain ⟨rfl, rfl⟩ := hcut
          go_step
          go_step
          go_cut [] from 27 to 38 (fun W2 => Near X wc.heap.size wc W2 ∧ S2 W2 X (.slice a l.length c) l f m R1)
          case first =>
            by_cases hk10 : m.k = 10
            · have hk10i : ((m.k : Int) != 10) = false := by rw [hk10]; rfl
              have hk10j : ((m.k : Int) == 10) = true := by rw [hk10]; rfl
              by_cases hmem : m.s ∈ ks
              · have hR2 : R1 = .bad 23 := by rw [hR1'.out, if_neg (by simpa using hk10), if_pos hmem]
                rw [decide_eq_true hmem] at hct
                have hfl := Lib.hid (pfail_any hG.out.any 23 (by decide))
                replace hR2 := Lib.hid hR2
                replace hk10 := Lib.hid hk10
                replace hmem := Lib.hid hmem
                go_wp2_with fail
                refine hct.out.mono ?_
                rintro r w2 ⟨rfl, rfl⟩
                go_wp2_with fail
                refine hfl.out.mono ?_
                rintro r w2 ⟨rfl, hN2, hB2⟩
                replace hN2 := Lib.hid hN2
                replace hB2 := Lib.hid hB2
                go_wp2_with fail
                go_meet
                case rel => exact ⟨hN2.out, .inl ⟨23, hB2.out, hR2.out⟩⟩
              · have hR2 : R1 = (if (mTakeN l m.nx).k ≠ 5 then .bad (wrongE (mTakeN l m.nx)) else f (mTakeN l (mTakeN l m.nx).nx)) := by rw [hR1'.out, if_neg (by simpa using hk10), if_neg hmem]
                rw [decide_eq_false hmem] at hct
                replace hR2 := Lib.hid hR2
                replace hk10 := Lib.hid hk10
                replace hmem := Lib.hid hmem
                go_wp2_with fail
                refine hct.out.mono ?_
                rintro r w2 ⟨rfl, rfl⟩
                go_wp2_with fail
                go_meet
                case rel => exact ⟨Near.refl _ _ _, .inr ⟨hG.out.any, hR2.out⟩⟩
            · have hk10i : ((m.k : Int) != 10) = true := by simp; omega
              have hk10j : ((m.k : Int) == 10) = false := by simp; omega
              have hR2 : R1 = .bad 20 := by rw [hR1'.out, if_pos (by simpa using hk10)]; unfold wrongE; rw [if_neg (by simpa using he.out)]
              have hfl := Lib.hid (pfail_any hG.out.any 20 (by decide))
              replace hR2 := Lib.hid hR2
              replace hk10 := Lib.hid hk10
              go_wp2_with fail
              refine hfl.out.mono ?_
              rintro r w2 ⟨rfl, hN2, hB2⟩
              replace hN2 := Lib.hid hN2
              replace hB2 := Lib.hid hB2
              go_wp2_with fail
              go_meet
              case rel => exact ⟨hN2.out, .inl ⟨20, hB2.out, hR2.out⟩⟩
          case rest =>
            obtain ⟨hN2, hS2⟩ := hcut
            have hO2 := hA.out.blk.near' hX hN2
            have hI2 := hA.out.items.later (fun b h1 h2 => hN2.far b h2 (by omega)) hN2.below.size
            have hE2 := hEr.out.near hN2
            have hwt := Lib.hid (owant hE2 hmn hS2)
            clear hct k4 c2 c5 hN2 hS2
            go_wp2_with fail
            refine hwt.out.mono ?_
            rintro r w3 ⟨rfl, hN3, hS3⟩
            have hO3 := hO2.near' hX hN3
            have hI3 := hI2.later (fun b h1 h2 => hN3.far b h2 (by have := hO2.b5.lt; omega)) hN3.below.size
            have hE3 := hE2.near hN3
            obtain ⟨Y3, hY3⟩ : ∃ Y, w3.heap.size = Y := ⟨_, rfl⟩
            have k43 : w3.cell? ⟨H4 + 1, 4, none⟩ = some (.slice ka ks.length kc) := hO3.b5.cell 4
            have hkown : (w3.alloc (.cells #[strV m.s] 9)).ownsRow (H4 + 2) 9 1 (.slice ka ks.length kc) ks.length (ks.map strV) := World.ownsRow.alloc hI3.keys _
            have hl53 := hO3.b5.lt
            have hfk := hfew.2
            have hmade := Blk.made w3 #[strV m.s] 9 Y3 hY3
            replace hO3 := Lib.hid hO3
            replace hI3 := Lib.hid hI3
            replace hE3 := Lib.hid hE3
            replace hS3 := Lib.hid hS3
            replace hfew := Lib.hid hfew
            clear hN3 hO2 hI2 hE2 hwt
            have hcell1 : ∀ j, j < 1 → (w3.alloc (.cells #[strV m.s] 9)).cell? ⟨Y3, j, none⟩ = [strV m.s][j]? := by
              intro j hj
              rw [hmade.cell j]
              obtain rfl : j = 0 := by omega
              rfl
            unfold strV at hkown hmade hcell1
            go_wp2_with (at_builtin; refine wpList_appendR Tryz.underlying23 Tryz.infoS (by rfl) (by decide) (by decide) _ _ rfl rfl rfl (H4 + 2) (.slice ka ks.length kc) ks.length (ks.map strV) Y3 [.string (str m.s)] rfl rfl (by exact hkown) (by rfl) hcell1 (by intro u hu; simp at hu; rw [hu]; rfl) hfk (by simp; omega) ?_)
            intro a4 c4 w4 hown4 hg4 hb4
            have hz4 : Blk w4 (H4 + 1) (objC (.slice ia xs.length ic) (.slice ka ks.length kc)) 25 := (hg4.out.block (H4 + 1) (by simp; omega) (fun e => by have := (hkown.lt _ e.symm).1; omega)).trans ((heap_alloc_old w3 _ hl53).trans hO3.out.b5)
            have z4c : w4.cell? ⟨H4 + 1, 4, none⟩ = some (.slice ka ks.length kc) := hz4.cell 4
            have z4f := hz4.free 4
            have hKey := obj_key hX hO3.out hI3.out (k := m.s) hown4.out hg4.out (by rw [hY3]; exact hb4.out)
            replace hKey := Lib.hid hKey
            clear hown4 hg4 hb4 hz4 hkown hcell1 hmade k43 hI3 hO3
            go_wp2_with fail
            generalize hW5 : w4.setCell ⟨H4 + 1, 4, none⟩ (.slice a4 (ks.length + 1) c4) = W5 at hKey ⊢
            obtain ⟨hO5, hI5, hX5⟩ := hKey.out
            have hS5 : S3 W5.drew X (.slice a l.length c) l f R1 := hS3.out.keep hX5
            have hE5 : PEnv W5.drew X a b off c l := (hE.out.near hO5.near).below (Below.refl W5.heap.size W5).drew (by have := hO5.b4.lt; omega)
            have htk5 := Lib.hid (take3 hf hE5 hS5)
            have h55 : Blk W5.drew (H4 + 1) (objC (.slice ia xs.length ic) (.slice a4 (ks.length + 1) c4)) 25 := hO5.b5
            have hl55 : H4 + 1 < W5.drew.heap.size := h55.lt
            have hiown : W5.drew.ownsRow (H4 + 2) 25 5 (.slice ia xs.length ic) xs.length vss.flatten := hI5.own
            have k53 : W5.cell? ⟨H4 + 1, 3, none⟩ = some (.slice ia xs.length ic) := hO5.b5.cell 3
            have hfx := hfew.out.1
            have hXW5 : X < W5.drew.heap.size := by omega
            replace hO5 := Lib.hid hO5
            replace hI5 := Lib.hid hI5
            replace hE5 := Lib.hid hE5
            clear hKey hS5 hS3 z4c z4f hW5 hX5
            go_cut [] from 47 to 56 (fun W6 => OItem W X (.slice a l.length c) H4 R1 xs (.slice a4 (ks.length + 1) c4) (ks ++ [m.s]) W6)
            case first =>
              go_region_law (first
                | (go_simp; go_at_call 20; refine htk5.out.mono ?_; rintro r w6 ⟨m2, rfl, hN6, hT6, hR6, hb6⟩; have hE6 := hE5.out.near hN6; have hs6 := hN6.below.size; have hz6 : Blk w6 (H4 + 1) (objC (.slice ia xs.length ic) (.slice a4 (ks.length + 1) c4)) 25 := Near.blk h55 hN6 hl55 (by omega); have z6c : w6.cell? ⟨H4 + 1, 3, none⟩ = some (.slice ia xs.length ic) := hz6.cell 3; have hVc := Lib.hid (hV'.out w6 m2 hE6 (by omega) hT6 hb6))
                | (go_simp; go_at_call 19; refine hVc.out.mono ?_; rintro r w7 ⟨v0, v1, v2, v3, v4, rfl, hones, hN7, hbad, hok⟩; obtain ⟨Y, hY⟩ : ∃ Y, w7.heap.size = Y := ⟨_, rfl⟩; have hNN := hN6.undrew.later hN7 hs6; have hz7 : Blk w7 (H4 + 1) (objC (.slice ia xs.length ic) (.slice a4 (ks.length + 1) c4)) 25 := Near.blk hz6 hN7 hz6.lt (by omega); have hz8 : Blk ((w7.alloc (.cells #[v0, v1, v2, v3, v4] 25))) (H4 + 1) (objC (.slice ia xs.length ic) (.slice a4 (ks.length + 1) c4)) 25 := hz7.kept ((Below.refl Y w7).alloc (by omega) _) (by have := hz7.lt; omega); have hownA := own_near hI5.out.own hNN (by omega : X < H4 + 2) (.cells #[v0, v1, v2, v3, v4] 25); have hYl : H4 + 2 ≤ Y := (by have := hz7.lt; omega); have z7c : w7.cell? ⟨H4 + 1, 3, none⟩ = some (.slice ia xs.length ic) := hz7.cell 3; have z8c : (w7.alloc (.cells #[v0, v1, v2, v3, v4] 25)).cell? ⟨H4 + 1, 3, none⟩ = some (.slice ia xs.length ic) := hz8.cell 3)
                | (refine step_appendR Tryz.underlying22 Tryz.infoJ (by rfl) (by decide) (by decide) (by rfl) _ _ (by rfl) (by rfl) (H4 + 2) (.slice ia xs.length ic) xs.length vss.flatten Y [v0, v1, v2, v3, v4] (by rfl) (by rfl) (by exact hownA) (by rfl) (fun j _ => ((Blk.made w7 _ _ Y hY).cell j).trans (by simp)) hones hfx (by simp; omega) ?_; intro a9 c9 w9 hown9 hg9 hb9; have hz9 : Blk w9 (H4 + 1) (objC (.slice ia xs.length ic) (.slice a4 (ks.length + 1) c4)) 25 := (hg9.out.block (H4 + 1) (by simp; omega) (fun e => by have := (hiown.lt _ e.symm).1; omega)).trans hz8; have z9c : w9.cell? ⟨H4 + 1, 3, none⟩ = some (.slice ia xs.length ic) := hz9.cell 3; have z9f := hz9.free 3))
              all_goals
                go_wp2_with fail
                go_meet
                case rel => exact obj_item hX hO5.out hI5.out hNN hown9.out hg9.out (by have := hb9.out; simpa using this) (fun e he => hbad e (hR6 ▸ he)) (fun t q hq => ⟨(hok t q (hR6 ▸ hq)).1, (hok t q (hR6 ▸ hq)).2.mono (fun b hb => ⟨Nat.le_trans hs6 hb.1, hb.2⟩)⟩)
            case rest =>
              obtain ⟨ja, jc, hO6, hbad, hok⟩ := hcut
              have hE6 := hE.out.near hO6.near
              have hX6 : X < wc.heap.size := by have := hO6.b4.lt; omega
              have hs6 := hO6.near.below.size
              rcases hr : R1 with e1 | ⟨x, q⟩
              · have hB6 := hbad e1 hr
                have hRb : R = .bad e1 := by rw [hA.out.res]; exact loop_bad hf hA.out.pos (by rw [← hR1.out]; exact hr)
                have htk := Lib.hid (ptake_bad hB6)
                have hfl := Lib.hid (pfail_bad hB6 20)
                have hboth : (∀ kk : Int, ORel R W X a b off c l f H4 (.int .i64 kk) wc) ∧ lexMeas wc X l.length < l.length + 1 - m.nx := by
                  refine ⟨fun kk => .inr ⟨_, _, _, _, rfl, hB6, hRb, hO6, ⟨_, _, _, rfl⟩, ⟨_, _, _, rfl⟩⟩, ?_⟩
                  obtain ⟨h1, pI, h2⟩ := hB6
                  have h3 : (e1 : Int) ≠ 0 := by omega
                  rw [h2.meas, if_neg h3]
                  omega
                replace hboth := Lib.hid hboth
                clear hbad hok hB6 hRb hO6 htk5 h55 hiown k53 hr
                go_wp2_with fail
                refine htk.out.mono ?_
                rintro r w7 ⟨rfl, rfl⟩
                go_wp2_with fail
                refine hfl.out.mono ?_
                rintro r w7 ⟨rfl, rfl⟩
                go_wp2_with fail
                go_roundw
                case rel => exact hboth.out.1 _
                case measure => rw [hmeas.out]; exact hboth.out.2
              · obtain ⟨hA6, vs6, hI6⟩ := hok x q hr
                have hwi := head_within hf (obj := true) hA.out.pos ks
                rw [← hR1.out, hr] at hwi
                have hmv : m.nx ≤ q := by
                  have h1 := hR1'.out
                  rw [hr] at h1
                  by_cases hc1 : m.k ≠ 10
                  · rw [if_pos hc1] at h1; cases h1
                  · rw [if_neg hc1] at h1
                    by_cases hc2 : m.s ∈ ks
                    · rw [if_pos hc2] at h1; cases h1
                    · rw [if_neg hc2] at h1
                      by_cases hc3 : (mTakeN l m.nx).k ≠ 5
                      · rw [if_pos hc3] at h1; cases h1
                      · rw [if_neg hc3] at h1
                        have hkc := take_kinds hmn
                        have hci : (mTakeN l m.nx).nx ≤ l.length := by omega
                        have := item_within hf hci
                        rw [← h1] at this
                        have h5 : (mTakeN l m.nx).nx ≤ q := this.1
                        omega
                have hq2 : q ≤ l.length := hwi.2
                have hRn := loop_ok (obj := true) (ks := ks) (xs := xs) (p := pp) (q := q) (x := x) hf hA.out.pos (by rw [← hR1.out]; exact hr)
                rw [← hA.out.res] at hRn
                have hkeys : mKeys l true pp ks = ks ++ [m.s] := by unfold mKeys; rw [if_pos rfl, ← hm.out]
                rw [hkeys] at hRn
                have hfewq : xs.length ≤ q ∧ ks.length ≤ q := by have := hA.out.few; have := hkd.out; have := he.out; omega
                have hl46 := hO6.b4.lt
                have hl56 := hO6.b5.lt
                have htk := Lib.hid (ptake_any hE6 hq2 hA6)
                have hkt := take_kinds hq2
                obtain ⟨t, ht⟩ : ∃ t, t = mTakeN l q := ⟨_, rfl⟩
                rw [← ht] at hRn htk hkt
                have hposm := hmeas.out
                replace hposm := Lib.hid hposm
                replace hkt := Lib.hid hkt
                replace ht := Lib.hid ht
                replace hE6 := Lib.hid hE6
                clear hbad hok htk5 h55 hiown k53 hr hkeys hwi
                by_cases ht2 : t.k = 2
                · have ht2i : ((t.k : Int) == 2) = true := by rw [ht2]; rfl
                  have hRv : R = .ok (.mk 6 0 [] (ks ++ [m.s]) (xs ++ [x])) t.nx := by rw [hRn, if_pos (by rw [ht2]; rfl)]; rfl
                  replace hRv := Lib.hid hRv
                  have ht2' := Lib.hid ht2
                  clear hRn ht2
                  go_wp2_with fail
                  refine htk.out.mono ?_
                  rintro r w7 ⟨rfl, hN7, hT7⟩
                  have hO7 := hO6.near' hX hN7
                  have hI7 := hI6.later (fun b h1 h2 => hN7.far b h2 (by omega)) hN7.below.size
                  have hGt : Good w7 X (.slice a l.length c) t := by
                    rcases hT7 with h | h
                    · exact h.2
                    · have := h.1; have := ht2'.out; omega
                  have hfin := VPost.ret (R := R) hX hH hO7.b4.lt hO7.near (v0 := .int .i64 6) (v1 := .int .i64 0) (v2 := .string ⟨#[]⟩) (v3 := .slice ja (xs.length + 1) jc) (v4 := .slice a4 (ks.length + 1) c4) (by intro u hu; simp at hu; rcases hu with rfl | rfl | rfl | rfl | rfl <;> rfl)
                    (fun e he => by rw [hRv.out] at he; cases he) (fun t' q' hq => by
                      rw [hRv.out] at hq
                      cases hq
                      exact ⟨hGt.any, (hI7.tree 6 0 []).mono (fun b hb => ⟨by omega, hb.2⟩)⟩)
                  have r4 := hO7.b4.cell
                  have s4 := hO7.b4.free
                  have r5 := hO7.b5.cell
                  have hzr := put5_cell (w := w7) hO7.b4 (.int .i64 6) (.int .i64 0) (.string ⟨#[]⟩) (.slice ja (xs.length + 1) jc) (.slice a4 (ks.length + 1) c4)
                  unfold z5J at r4
                  unfold objC at r5
                  replace hfin := Lib.hid hfin
                  replace hzr := Lib.hid hzr
                  clear hN7 hT7 hO7 hI7 hGt hI6 hO6 hA6 htk
                  go_wp2_with fail
                  refine bodyPost_ret (object_ret _ (by rfl) hzr.out) rfl ?_
                  exact hfin.out
                · have ht2i : ((t.k : Int) == 2) = false := by simp; omega
                  by_cases ht6 : t.k = 6
                  · have ht6i : ((t.k : Int) == 6) = true := by rw [ht6]; rfl
                    have hRv : R = mLoop l f true t.nx (ks ++ [m.s]) (xs ++ [x]) := by rw [hRn, if_neg (by exact ht2), if_neg (by simpa using ht6)]
                    replace hRv := Lib.hid hRv
                    have ht6' := Lib.hid ht6
                    have ht2' := Lib.hid ht2
                    clear hRn ht6 ht2
                    go_wp2_with fail
                    refine htk.out.mono ?_
                    rintro r w7 ⟨rfl, hN7, hT7⟩
                    have hO7 := hO6.near' hX hN7
                    have hI7 := hI6.later (fun b h1 h2 => hN7.far b h2 (by omega)) hN7.below.size
                    have hGt : Good w7 X (.slice a l.length c) t := by
                      rcases hT7 with h | h
                      · exact h.2
                      · have := h.1; have := ht6'.out; omega
                    have htn : q < t.nx ∧ t.nx ≤ l.length := by have := hkt.out; have := ht6'.out; omega
                    have htk2 := Lib.hid (ptake_any (hE6.out.near hN7) htn.2 hGt.any)
                    have hk2 := take_kinds htn.2
                    have hl47 := hO7.b4.lt
                    have hl57 := hO7.b5.lt
                    clear hN7 hT7 hGt hI6 hO6 hA6 htk
                    go_wp2_with fail
                    refine htk2.out.mono ?_
                    rintro r w8 ⟨rfl, hN8, hT8⟩
                    have hO8 := hO7.near' hX hN8
                    have hI8 := hI7.later (fun b h1 h2 => hN8.far b h2 (by omega)) hN8.below.size
                    have hboth : (ORel R W X a b off c l f H4 (.int .i64 ((mTakeN l t.nx).k : Int)) w8) ∧ lexMeas w8 X l.length < l.length + 1 - m.nx := by
                      rcases hT8 with ⟨hz, hG8⟩ | ⟨hz, hB8⟩
                      · refine ⟨.inl ⟨t.nx, xs ++ [x], _, _, vs6, ks ++ [m.s], rfl, htn.2, hz, hG8, hRv.out, by simp; omega, hO8, hI8⟩, ?_⟩
                        rw [hG8.any.meas, if_pos rfl]
                        have := hk2
                        simp
                        omega
                      · refine ⟨.inr ⟨_, _, _, _, rfl, hB8, by rw [hRv.out]; exact oloop_dead htn.2 hB8.1, hO8, ⟨_, _, _, rfl⟩, ⟨_, _, _, rfl⟩⟩, ?_⟩
                        obtain ⟨h1, pI, h2⟩ := hB8
                        have h3 : ((mTakeN l t.nx).e : Int) ≠ 0 := by omega
                        rw [h2.meas, if_neg h3]
                        omega
                    replace hboth := Lib.hid hboth
                    clear hN8 hT8 hO7 hI7 hO8 hI8 htk2
                    go_wp2_with fail
                    go_roundw
                    case rel => exact hboth.out.1
                    case measure => rw [hposm.out]; exact hboth.out.2
                  · have ht6i : ((t.k : Int) == 6) = false := by simp; omega
                    have hRv : R = .bad (wrongE t) := by rw [hRn, if_neg (by exact ht2), if_pos (by simpa using ht6)]
                    replace hRv := Lib.hid hRv
                    have ht6' := Lib.hid ht6
                    have ht2' := Lib.hid ht2
                    clear hRn ht6 ht2
                    go_wp2_with fail
                    refine htk.out.mono ?_
                    rintro r w7 ⟨rfl, hN7, hT7⟩
                    have hO7 := hO6.near' hX hN7
                    have hfl := Lib.hid (pfail_took hT7)
                    have hl47 := hO7.b4.lt
                    have hl57 := hO7.b5.lt
                    clear hN7 hT7 hI6 hO6 hA6 htk
                    go_wp2_with fail
                    refine hfl.out.mono ?_
                    rintro r w8 ⟨rfl, hN8, hB8⟩
                    have hO8 := hO7.near' hX hN8
                    have hboth : (∀ kk : Int, ORel R W X a b off c l f H4 (.int .i64 kk) w8) ∧ lexMeas w8 X l.length < l.length + 1 - m.nx := by
                      refine ⟨fun kk => .inr ⟨_, _, _, _, rfl, hB8, hRv.out, hO8, ⟨_, _, _, rfl⟩, ⟨_, _, _, rfl⟩⟩, ?_⟩
                      obtain ⟨h1, pI, h2⟩ := hB8
                      have h3 : ((wrongE t : Nat) : Int) ≠ 0 := by omega
                      rw [h2.meas, if_neg h3]
                      omega
                    replace hboth := Lib.hid hboth
                    clear hN8 hO7 hO8 hfl hB8
                    go_wp2_with fail
                    go_roundw
                    case rel => exact hboth.out.1 _
                    case measure => rw [hposm.out]; exact hboth.out.2

end Go.Proofs.YticfioblapjkmaaGreat
