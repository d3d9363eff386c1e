/- The reference's whole: the character that stands first. -/
import Derived.Test.YtmembanbemljoaaUend
import Derived.Test.YtmembanbemljoaaRef5
import Derived.Deep.RegionLaw
namespace Go.Proofs.Ytmembanbemljoaa
open Go.RowKit
set_option linter.unusedVariables false
set_option linter.unusedSimpArgs false

theorem starts_at {W : World} {a : Option Addr} {b off c K v : Nat} {m : List UInt8} {o1 : Obj} (hb : BytesAt W a b off m) (hK : W.heap.size = K) (hlen : m.length ≤ c) :
    Calls Try.prog 92 #[.slice a m.length c, .slice (some ⟨K + 1, 0, none⟩) (uenc v).length (uenc v).length] ((W.alloc o1).alloc (.cells ((uenc v).map bv).toArray 5))
      fun r w' => r = .returned (.bool ((uenc v).isPrefixOf m)) ∧ ∃ n, w' = ((W.alloc o1).alloc (.cells ((uenc v).map bv).toArray 5)).drewN n :=
  rstarts_any a (some ⟨K + 1, 0, none⟩) b off c (K + 1) 0 _ m (uenc v) m.length _ _
    ((hb.below ((Below.refl W.heap.size W).alloc (Nat.le_refl _) o1)).below ((Below.refl (W.alloc o1).heap.size (W.alloc o1)).alloc (Nat.le_refl _) _))
    (BytesAt.made _ (uenc v) _ _ _ _ (by simp; omega) rfl) rfl rfl hlen
theorem notest {m : List UInt8} {n : Nat} (h : ∀ k, 1 ≤ k → k < n → wtest m 0 k = false) (hn : wtest m 0 n = false) : ∀ k, 1 ≤ k → k < n + 1 → wtest m 0 k = false := by
  intro k h1 h2
  rcases Nat.lt_or_ge k n with h3 | h3
  · exact h k h1 h3
  · obtain rfl : k = n := by omega
    exact hn
/-- What the reference's whole keeps from size to size. -/
def WholeRel (w : World) (H : Nat) (m : List UInt8) (t : Value) (wr : World) : Prop :=
  ∃ n : Nat, t = .int .i64 (n : Int) ∧ 1 ≤ n ∧ n ≤ 5 ∧ Below H w wr ∧ Blk wr H #[.int .i64 0, .int .i64 64, .int .i64 4096, .int .i64 262144] 2 ∧ Blk wr (H + 1) #[.int .i64 0, .int .i64 192, .int .i64 224, .int .i64 240] 2 ∧ ∀ k, 1 ≤ k → k < n → wtest m 0 k = false
set_option maxRecDepth 100000 in
set_option maxHeartbeats 8000000 in
theorem rwhole_any {w : World} {a : Option Addr} {b off c : Nat} {m : List UInt8} (hbw : BytesAt w a b off m) (hlen : m.length ≤ c) (hbig : m.length ≤ 1000000) :
    Calls Try.prog 84 #[.slice a m.length c] w fun r w' => r = .returned (.int .i64 (wholeV m 0)) ∧ Below w.heap.size w w' := by
  obtain ⟨H, hH⟩ : ∃ H, w.heap.size = H := ⟨_, rfl⟩
  have h0 : WholeRel w H m (.int .i64 1) ((w.alloc (.cells #[.int .i64 0, .int .i64 64, .int .i64 4096, .int .i64 262144] 2)).alloc (.cells #[.int .i64 0, .int .i64 192, .int .i64 224, .int .i64 240] 2)) := by
    refine ⟨1, rfl, by omega, by omega, ((Below.refl H w).alloc (by omega) _).alloc (by simp; omega) _, (Blk.made w _ _ H hH).kept ((Below.refl (H + 1) (w.alloc (.cells #[.int .i64 0, .int .i64 64, .int .i64 4096, .int .i64 262144] 2))).alloc (by simp; omega) _) (by omega), Blk.made _ _ _ (H + 1) (by simp; omega), fun k h1 h2 => by omega⟩
  replace h0 := Lib.hid h0
  have hbx := Lib.hid fun wr (h : Below H w wr) => hbw.below (hH ▸ h)
  obtain ⟨R, hR⟩ : ∃ R, R = wholeV m 0 := ⟨_, rfl⟩
  rw [hH, ← hR]
  replace hR := Lib.hid hR
  clear hbw
  go_enter Try.func84, Try.ntmps84
  go_wp2
  go_loopw [5] (fun t wr => WholeRel w H m t wr) (fun t _ => 5 - (intOf t).toNat)
  case atStart => exact h0.out
  case round =>
    obtain ⟨n, rfl, hn1, hn5, hB, hS, hM, hno⟩ := hrel
    have hb := hbx.out _ hB
    clear h0 hbx
    have hcase : n = 1 ∨ n = 2 ∨ n = 3 ∨ n = 4 ∨ n = 5 := by omega
    clear hn1 hn5
    rcases hcase with rfl | rfl | rfl | rfl | rfl
    -- the size 1
    · by_cases hl : 1 ≤ m.length
      rotate_left
      · have hlt : ¬ (1 : Int) ≤ (m.length : Int) := by omega
        have hV : wholeV m 0 = -1 := wtest_none ((wtest_long (l := m) (p := 0) (n := 1) (by omega)).resolve_right (by decide)) ((wtest_long (l := m) (p := 0) (n := 2) (by omega)).resolve_right (by decide)) ((wtest_long (l := m) (p := 0) (n := 3) (by omega)).resolve_right (by decide)) ((wtest_long (l := m) (p := 0) (n := 4) (by omega)).resolve_right (by decide))
        replace hV := Lib.hid hV
        have hB' := Lib.hid hB
        clear hB hb hS hM
        go_wp2_with fail
        go_ret
        rw [hR.out, hV.out]
        exact ⟨rfl, hB'.out⟩
      have hli : (1 : Int) ≤ (m.length : Int) := by omega
      have hc0 := fun k => (hb.drewN k).2 0 (by omega)
      have hc0' := hb.2 0 (by omega)
      have hi0 := fun W => hb.idx m.length c rfl 0 W (by omega) (by omega)
      have hx0 := bN_lt m 0
      have hcv : cvN m 0 1 = (bN m 0 : Int) := rfl
      have eb0 : ((m[0]?.getD 0).toNat : Int) = (bN m 0 : Int) := rfl
      rw [eb0, Nat.add_zero] at hc0'
      simp only [eb0, Nat.add_zero] at hc0
      obtain ⟨b0, hb0⟩ : ∃ x, x = bN m 0 := ⟨_, rfl⟩
      rw [← hb0] at hx0 hcv hc0'
      simp only [← hb0] at hc0
      clear hb0 eb0
      have hs := fun k j => (hS.drewN k).cell j
      have hm := fun k j => (hM.drewN k).cell j
      have hS' := Lib.hid hS
      have hM' := Lib.hid hM
      have hB' := Lib.hid hB
      have hbb := Lib.hid hb
      have hno' := Lib.hid hno
      clear hS hM hB hb hno
      obtain ⟨v, hv0⟩ : ∃ v, v = b0 := ⟨_, rfl⟩
      subst hv0
      replace hcv := Lib.hid hcv
      cases hch : isChr (v : Int) with
      | false =>
        have hn : wtest m 0 1 = false := by unfold wtest; rw [hcv.out, hch]; rfl
        replace hn := Lib.hid hn
        go_wp2_with fail
        refine wp_loop_rounds 1 ?_
        rw [rounds_succ]
        go_wp2_with (go_at_call 73; refine (rchar_any _ _).mono ?_; rintro r w' ⟨rfl, rfl⟩)
        go_roundw
        case rel => exact ⟨2, rfl, by omega, by omega, (by first | exact hB'.out | exact below_drewN hB'.out _), hS'.out, hM'.out, notest hno'.out hn.out⟩
        case measure => simp [intOf]
      | true =>
        have hK : ∃ K, wr.heap.size = K := ⟨_, rfl⟩
        obtain ⟨K, hK⟩ := hK
        have hHK : H + 1 < K := by have := hM'.out.lt; omega
        have hv := Lib.hid (show v ≤ 1114111 from by have := isChr_iff.1 hch; omega)
        have hto : wtest m 0 1 = (((uenc v).length == 1) && (uenc v).isPrefixOf m) := by unfold wtest; rw [hcv.out, hch]; rfl
        have hBa := Lib.hid fun (q : Nat) o1 o2 => (hB'.out.alloc (by first | omega | (simp; omega)) o1).alloc (by first | omega | (simp; omega)) o2
        have hBb := Lib.hid fun (q : Nat) o1 => hB'.out.alloc (by first | omega | (simp; omega)) o1
        have hSa := Lib.hid fun (q : Nat) o1 o2 => (hS'.out.kept ((Below.refl (H + 2) wr).alloc (by first | omega | (simp; omega)) o1) (by omega)).kept ((Below.refl (H + 2) (wr.alloc o1)).alloc (by first | omega | (simp; omega)) o2) (by omega)
        have hSb := Lib.hid fun (q : Nat) o1 => (hS'.out.kept ((Below.refl (H + 2) wr).alloc (by first | omega | (simp; omega)) o1) (by omega))
        have hMa := Lib.hid fun (q : Nat) o1 o2 => (hM'.out.kept ((Below.refl (H + 2) wr).alloc (by first | omega | (simp; omega)) o1) (by omega)).kept ((Below.refl (H + 2) (wr.alloc o1)).alloc (by first | omega | (simp; omega)) o2) (by omega)
        have hMb := Lib.hid fun (q : Nat) o1 => (hM'.out.kept ((Below.refl (H + 2) wr).alloc (by first | omega | (simp; omega)) o1) (by omega))
        have hst := Lib.hid fun (q : Nat) o1 => starts_at (v := v) (o1 := o1) hbb.out (show wr.heap.size = K from hK) hlen
        obtain ⟨pr, hpr⟩ : ∃ pr, pr = (uenc v).isPrefixOf m := ⟨_, rfl⟩
        rw [← hpr] at hto
        replace hpr := Lib.hid hpr
        by_cases hle : (uenc v).length = 1
        · have hle2 : (((uenc v).length : Int) == 1) = true := by rw [hle]; rfl
          have hto2 : wtest m 0 1 = pr := by rw [hto, hle]; simp
          replace hto2 := Lib.hid hto2
          clear hto hle
          cases pr with
          | true =>
            have hVv := Lib.hid ((wtest_n hto2.out).trans hcv.out)
            go_wp2_with fail
            refine wp_loop_rounds 1 ?_
            rw [rounds_succ]
            go_wp2_with (first | (go_at_call 73; refine (rchar_any _ _).mono ?_; rintro r w' ⟨rfl, rfl⟩) | (go_at_call 74; refine (rput_any v _ hv.out).mono ?_; rintro r w' ⟨rfl, rfl⟩) | (go_at_call 92; refine (hst.out 0 _).mono ?_; rintro r w' ⟨rfl, n3, rfl⟩; rw [← hpr.out]))
            go_ret
            rw [hR.out, hVv.out]
            exact ⟨rfl, below_drewN (hBa.out 0 _ _) _⟩
          | false =>
            go_wp2_with fail
            refine wp_loop_rounds 1 ?_
            rw [rounds_succ]
            go_wp2_with (first | (go_at_call 73; refine (rchar_any _ _).mono ?_; rintro r w' ⟨rfl, rfl⟩) | (go_at_call 74; refine (rput_any v _ hv.out).mono ?_; rintro r w' ⟨rfl, rfl⟩) | (go_at_call 92; refine (hst.out 0 _).mono ?_; rintro r w' ⟨rfl, n3, rfl⟩; rw [← hpr.out]))
            go_roundw
            case rel => exact ⟨2, rfl, by omega, by omega, below_drewN (hBa.out 0 _ _) _, (hSa.out 0 _ _).drewN _, (hMa.out 0 _ _).drewN _, notest hno'.out hto2.out⟩
            case measure => simp [intOf]
        · have hle2 : (((uenc v).length : Int) == 1) = false := by simp; omega
          have hn : wtest m 0 1 = false := by rw [hto]; simp [hle]
          replace hn := Lib.hid hn
          clear hto hle
          go_wp2_with fail
          refine wp_loop_rounds 1 ?_
          rw [rounds_succ]
          go_wp2_with (first | (go_at_call 73; refine (rchar_any _ _).mono ?_; rintro r w' ⟨rfl, rfl⟩) | (go_at_call 74; refine (rput_any v _ hv.out).mono ?_; rintro r w' ⟨rfl, rfl⟩) | (go_at_call 92; refine (hst.out 0 _).mono ?_; rintro r w' ⟨rfl, n3, rfl⟩; rw [← hpr.out]))
          go_roundw
          case rel => exact ⟨2, rfl, by omega, by omega, hBb.out 0 _, hSb.out 0 _, hMb.out 0 _, notest hno'.out hn.out⟩
          case measure => simp [intOf]
    -- the size 2
    · by_cases hl : 2 ≤ m.length
      rotate_left
      · have hlt : ¬ (2 : Int) ≤ (m.length : Int) := by omega
        have hV : wholeV m 0 = -1 := wtest_none (hno 1 (by decide) (by decide)) ((wtest_long (l := m) (p := 0) (n := 2) (by omega)).resolve_right (by decide)) ((wtest_long (l := m) (p := 0) (n := 3) (by omega)).resolve_right (by decide)) ((wtest_long (l := m) (p := 0) (n := 4) (by omega)).resolve_right (by decide))
        replace hV := Lib.hid hV
        have hB' := Lib.hid hB
        clear hB hb hS hM
        go_wp2_with fail
        go_ret
        rw [hR.out, hV.out]
        exact ⟨rfl, hB'.out⟩
      have hli : (2 : Int) ≤ (m.length : Int) := by omega
      have hc0 := fun k => (hb.drewN k).2 0 (by omega)
      have hc0' := hb.2 0 (by omega)
      have hi0 := fun W => hb.idx m.length c rfl 0 W (by omega) (by omega)
      have hx0 := bN_lt m 0
      have hc1 := fun k => (hb.drewN k).2 1 (by omega)
      have hc1' := hb.2 1 (by omega)
      have hi1 := fun W => hb.idx m.length c rfl 1 W (by omega) (by omega)
      have hx1 := bN_lt m 1
      have hcv : cvN m 0 2 = ((bN m 0 : Int) - 192) * 64 + ((bN m 1 : Int) - 128) := rfl
      have eb0 : ((m[0]?.getD 0).toNat : Int) = (bN m 0 : Int) := rfl
      rw [eb0, Nat.add_zero] at hc0'
      simp only [eb0, Nat.add_zero] at hc0
      obtain ⟨b0, hb0⟩ : ∃ x, x = bN m 0 := ⟨_, rfl⟩
      rw [← hb0] at hx0 hcv hc0'
      simp only [← hb0] at hc0
      clear hb0 eb0
      have eb1 : ((m[1]?.getD 0).toNat : Int) = (bN m 1 : Int) := rfl
      rw [eb1] at hc1'
      simp only [eb1] at hc1
      obtain ⟨b1, hb1⟩ : ∃ x, x = bN m 1 := ⟨_, rfl⟩
      rw [← hb1] at hx1 hcv hc1'
      simp only [← hb1] at hc1
      clear hb1 eb1
      have hs := fun k j => (hS.drewN k).cell j
      have hm := fun k j => (hM.drewN k).cell j
      have hS' := Lib.hid hS
      have hM' := Lib.hid hM
      have hB' := Lib.hid hB
      have hbb := Lib.hid hb
      have hno' := Lib.hid hno
      clear hS hM hB hb hno
      obtain ⟨V, hV⟩ : ∃ V, ((b0 : Int) - 192) * 64 + ((b1 : Int) - 128) = V := ⟨_, rfl⟩
      rw [hV] at hcv
      replace hcv := Lib.hid hcv
      cases hch : isChr V with
      | false =>
        have hn : wtest m 0 2 = false := by unfold wtest; rw [hcv.out, hch]; rfl
        replace hn := Lib.hid hn
        go_wp2_with fail
        go_quiet (fail)
        go_wp2_with fail
        refine wp_loop_rounds 2 ?_
        rw [rounds_succ]
        go_wp2_with fail
        refine wp_loop_rounds 1 ?_
        rw [rounds_succ]
        go_wp2_with fail
        rw [rounds_succ]
        go_wp2_with (go_at_call 73; refine (rchar_any _ _).mono ?_; rintro r w' ⟨rfl, rfl⟩)
        go_roundw
        case rel => exact ⟨3, rfl, by omega, by omega, (by first | exact hB'.out | exact below_drewN hB'.out _), hS'.out, hM'.out, notest hno'.out hn.out⟩
        case measure => simp [intOf]
      | true =>
        have hK : ∃ K, wr.heap.size = K := ⟨_, rfl⟩
        obtain ⟨K, hK⟩ := hK
        have hHK : H + 1 < K := by have := hM'.out.lt; omega
        obtain ⟨v, rfl⟩ : ∃ v : Nat, V = (v : Int) := ⟨V.toNat, by have := (isChr_iff.1 hch).1; omega⟩
        have hv := Lib.hid (show v ≤ 1114111 from by have := isChr_iff.1 hch; omega)
        have hto : wtest m 0 2 = (((uenc v).length == 2) && (uenc v).isPrefixOf m) := by unfold wtest; rw [hcv.out, hch]; rfl
        have hBa := Lib.hid fun q o1 o2 => ((below_drewN hB'.out q).alloc (by first | omega | (simp; omega)) o1).alloc (by first | omega | (simp; omega)) o2
        have hBb := Lib.hid fun q o1 => (below_drewN hB'.out q).alloc (by first | omega | (simp; omega)) o1
        have hSa := Lib.hid fun q o1 o2 => ((hS'.out.drewN q).kept ((Below.refl (H + 2) (wr.drewN q)).alloc (by first | omega | (simp; omega)) o1) (by omega)).kept ((Below.refl (H + 2) ((wr.drewN q).alloc o1)).alloc (by first | omega | (simp; omega)) o2) (by omega)
        have hSb := Lib.hid fun q o1 => ((hS'.out.drewN q).kept ((Below.refl (H + 2) (wr.drewN q)).alloc (by first | omega | (simp; omega)) o1) (by omega))
        have hMa := Lib.hid fun q o1 o2 => ((hM'.out.drewN q).kept ((Below.refl (H + 2) (wr.drewN q)).alloc (by first | omega | (simp; omega)) o1) (by omega)).kept ((Below.refl (H + 2) ((wr.drewN q).alloc o1)).alloc (by first | omega | (simp; omega)) o2) (by omega)
        have hMb := Lib.hid fun q o1 => ((hM'.out.drewN q).kept ((Below.refl (H + 2) (wr.drewN q)).alloc (by first | omega | (simp; omega)) o1) (by omega))
        have hst := Lib.hid fun q o1 => starts_at (v := v) (o1 := o1) (hbb.out.drewN q) (show (wr.drewN q).heap.size = K from hK) hlen
        obtain ⟨pr, hpr⟩ : ∃ pr, pr = (uenc v).isPrefixOf m := ⟨_, rfl⟩
        rw [← hpr] at hto
        replace hpr := Lib.hid hpr
        by_cases hle : (uenc v).length = 2
        · have hle2 : (((uenc v).length : Int) == 2) = true := by rw [hle]; rfl
          have hto2 : wtest m 0 2 = pr := by rw [hto, hle]; simp
          replace hto2 := Lib.hid hto2
          clear hto hle
          cases pr with
          | true =>
            have hVv := Lib.hid ((wtest_n hto2.out).trans hcv.out)
            go_wp2_with fail
            go_quiet (fail)
            go_wp2_with fail
            refine wp_loop_rounds 2 ?_
            rw [rounds_succ]
            go_wp2_with fail
            refine wp_loop_rounds 1 ?_
            rw [rounds_succ]
            go_wp2_with fail
            rw [rounds_succ]
            go_wp2_with (first | (go_at_call 73; refine (rchar_any _ _).mono ?_; rintro r w' ⟨rfl, rfl⟩) | (go_at_call 74; refine (rput_any v _ hv.out).mono ?_; rintro r w' ⟨rfl, rfl⟩) | (go_at_call 92; refine (hst.out _ _).mono ?_; rintro r w' ⟨rfl, n3, rfl⟩; rw [← hpr.out]))
            go_ret
            rw [hR.out, hVv.out]
            exact ⟨rfl, below_drewN (hBa.out _ _ _) _⟩
          | false =>
            go_wp2_with fail
            go_quiet (fail)
            go_wp2_with fail
            refine wp_loop_rounds 2 ?_
            rw [rounds_succ]
            go_wp2_with fail
            refine wp_loop_rounds 1 ?_
            rw [rounds_succ]
            go_wp2_with fail
            rw [rounds_succ]
            go_wp2_with (first | (go_at_call 73; refine (rchar_any _ _).mono ?_; rintro r w' ⟨rfl, rfl⟩) | (go_at_call 74; refine (rput_any v _ hv.out).mono ?_; rintro r w' ⟨rfl, rfl⟩) | (go_at_call 92; refine (hst.out _ _).mono ?_; rintro r w' ⟨rfl, n3, rfl⟩; rw [← hpr.out]))
            go_roundw
            case rel => exact ⟨3, rfl, by omega, by omega, below_drewN (hBa.out _ _ _) _, (hSa.out _ _ _).drewN _, (hMa.out _ _ _).drewN _, notest hno'.out hto2.out⟩
            case measure => simp [intOf]
        · have hle2 : (((uenc v).length : Int) == 2) = false := by simp; omega
          have hn : wtest m 0 2 = false := by rw [hto]; simp [hle]
          replace hn := Lib.hid hn
          clear hto hle
          go_wp2_with fail
          go_quiet (fail)
          go_wp2_with fail
          refine wp_loop_rounds 2 ?_
          rw [rounds_succ]
          go_wp2_with fail
          refine wp_loop_rounds 1 ?_
          rw [rounds_succ]
          go_wp2_with fail
          rw [rounds_succ]
          go_wp2_with (first | (go_at_call 73; refine (rchar_any _ _).mono ?_; rintro r w' ⟨rfl, rfl⟩) | (go_at_call 74; refine (rput_any v _ hv.out).mono ?_; rintro r w' ⟨rfl, rfl⟩) | (go_at_call 92; refine (hst.out _ _).mono ?_; rintro r w' ⟨rfl, n3, rfl⟩; rw [← hpr.out]))
          go_roundw
          case rel => exact ⟨3, rfl, by omega, by omega, hBb.out _ _, hSb.out _ _, hMb.out _ _, notest hno'.out hn.out⟩
          case measure => simp [intOf]
    -- the size 3
    · by_cases hl : 3 ≤ m.length
      rotate_left
      · have hlt : ¬ (3 : Int) ≤ (m.length : Int) := by omega
        have hV : wholeV m 0 = -1 := wtest_none (hno 1 (by decide) (by decide)) (hno 2 (by decide) (by decide)) ((wtest_long (l := m) (p := 0) (n := 3) (by omega)).resolve_right (by decide)) ((wtest_long (l := m) (p := 0) (n := 4) (by omega)).resolve_right (by decide))
        replace hV := Lib.hid hV
        have hB' := Lib.hid hB
        clear hB hb hS hM
        go_wp2_with fail
        go_ret
        rw [hR.out, hV.out]
        exact ⟨rfl, hB'.out⟩
      have hli : (3 : Int) ≤ (m.length : Int) := by omega
      have hc0 := fun k => (hb.drewN k).2 0 (by omega)
      have hc0' := hb.2 0 (by omega)
      have hi0 := fun W => hb.idx m.length c rfl 0 W (by omega) (by omega)
      have hx0 := bN_lt m 0
      have hc1 := fun k => (hb.drewN k).2 1 (by omega)
      have hc1' := hb.2 1 (by omega)
      have hi1 := fun W => hb.idx m.length c rfl 1 W (by omega) (by omega)
      have hx1 := bN_lt m 1
      have hc2 := fun k => (hb.drewN k).2 2 (by omega)
      have hc2' := hb.2 2 (by omega)
      have hi2 := fun W => hb.idx m.length c rfl 2 W (by omega) (by omega)
      have hx2 := bN_lt m 2
      have hcv : cvN m 0 3 = ((bN m 0 : Int) - 224) * 4096 + ((bN m 1 : Int) - 128) * 64 + ((bN m 2 : Int) - 128) := rfl
      have eb0 : ((m[0]?.getD 0).toNat : Int) = (bN m 0 : Int) := rfl
      rw [eb0, Nat.add_zero] at hc0'
      simp only [eb0, Nat.add_zero] at hc0
      obtain ⟨b0, hb0⟩ : ∃ x, x = bN m 0 := ⟨_, rfl⟩
      rw [← hb0] at hx0 hcv hc0'
      simp only [← hb0] at hc0
      clear hb0 eb0
      have eb1 : ((m[1]?.getD 0).toNat : Int) = (bN m 1 : Int) := rfl
      rw [eb1] at hc1'
      simp only [eb1] at hc1
      obtain ⟨b1, hb1⟩ : ∃ x, x = bN m 1 := ⟨_, rfl⟩
      rw [← hb1] at hx1 hcv hc1'
      simp only [← hb1] at hc1
      clear hb1 eb1
      have eb2 : ((m[2]?.getD 0).toNat : Int) = (bN m 2 : Int) := rfl
      rw [eb2] at hc2'
      simp only [eb2] at hc2
      obtain ⟨b2, hb2⟩ : ∃ x, x = bN m 2 := ⟨_, rfl⟩
      rw [← hb2] at hx2 hcv hc2'
      simp only [← hb2] at hc2
      clear hb2 eb2
      have hs := fun k j => (hS.drewN k).cell j
      have hm := fun k j => (hM.drewN k).cell j
      have hS' := Lib.hid hS
      have hM' := Lib.hid hM
      have hB' := Lib.hid hB
      have hbb := Lib.hid hb
      have hno' := Lib.hid hno
      clear hS hM hB hb hno
      obtain ⟨V, hV⟩ : ∃ V, ((b0 : Int) - 224) * 4096 + ((b1 : Int) - 128) * 64 + ((b2 : Int) - 128) = V := ⟨_, rfl⟩
      rw [hV] at hcv
      replace hcv := Lib.hid hcv
      cases hch : isChr V with
      | false =>
        have hn : wtest m 0 3 = false := by unfold wtest; rw [hcv.out, hch]; rfl
        replace hn := Lib.hid hn
        go_wp2_with fail
        go_quiet (fail)
        go_wp2_with fail
        refine wp_loop_rounds 3 ?_
        rw [rounds_succ]
        go_wp2_with fail
        refine wp_loop_rounds 2 ?_
        rw [rounds_succ]
        go_wp2_with fail
        rw [rounds_succ]
        go_wp2_with fail
        rw [rounds_succ]
        go_wp2_with fail
        refine wp_loop_rounds 1 ?_
        rw [rounds_succ]
        go_wp2_with fail
        rw [rounds_succ]
        go_wp2_with (go_at_call 73; refine (rchar_any _ _).mono ?_; rintro r w' ⟨rfl, rfl⟩)
        go_roundw
        case rel => exact ⟨4, rfl, by omega, by omega, (by first | exact hB'.out | exact below_drewN hB'.out _), hS'.out, hM'.out, notest hno'.out hn.out⟩
        case measure => simp [intOf]
      | true =>
        have hK : ∃ K, wr.heap.size = K := ⟨_, rfl⟩
        obtain ⟨K, hK⟩ := hK
        have hHK : H + 1 < K := by have := hM'.out.lt; omega
        obtain ⟨v, rfl⟩ : ∃ v : Nat, V = (v : Int) := ⟨V.toNat, by have := (isChr_iff.1 hch).1; omega⟩
        have hv := Lib.hid (show v ≤ 1114111 from by have := isChr_iff.1 hch; omega)
        have hto : wtest m 0 3 = (((uenc v).length == 3) && (uenc v).isPrefixOf m) := by unfold wtest; rw [hcv.out, hch]; rfl
        have hBa := Lib.hid fun q o1 o2 => ((below_drewN hB'.out q).alloc (by first | omega | (simp; omega)) o1).alloc (by first | omega | (simp; omega)) o2
        have hBb := Lib.hid fun q o1 => (below_drewN hB'.out q).alloc (by first | omega | (simp; omega)) o1
        have hSa := Lib.hid fun q o1 o2 => ((hS'.out.drewN q).kept ((Below.refl (H + 2) (wr.drewN q)).alloc (by first | omega | (simp; omega)) o1) (by omega)).kept ((Below.refl (H + 2) ((wr.drewN q).alloc o1)).alloc (by first | omega | (simp; omega)) o2) (by omega)
        have hSb := Lib.hid fun q o1 => ((hS'.out.drewN q).kept ((Below.refl (H + 2) (wr.drewN q)).alloc (by first | omega | (simp; omega)) o1) (by omega))
        have hMa := Lib.hid fun q o1 o2 => ((hM'.out.drewN q).kept ((Below.refl (H + 2) (wr.drewN q)).alloc (by first | omega | (simp; omega)) o1) (by omega)).kept ((Below.refl (H + 2) ((wr.drewN q).alloc o1)).alloc (by first | omega | (simp; omega)) o2) (by omega)
        have hMb := Lib.hid fun q o1 => ((hM'.out.drewN q).kept ((Below.refl (H + 2) (wr.drewN q)).alloc (by first | omega | (simp; omega)) o1) (by omega))
        have hst := Lib.hid fun q o1 => starts_at (v := v) (o1 := o1) (hbb.out.drewN q) (show (wr.drewN q).heap.size = K from hK) hlen
        obtain ⟨pr, hpr⟩ : ∃ pr, pr = (uenc v).isPrefixOf m := ⟨_, rfl⟩
        rw [← hpr] at hto
        replace hpr := Lib.hid hpr
        by_cases hle : (uenc v).length = 3
        · have hle2 : (((uenc v).length : Int) == 3) = true := by rw [hle]; rfl
          have hto2 : wtest m 0 3 = pr := by rw [hto, hle]; simp
          replace hto2 := Lib.hid hto2
          clear hto hle
          cases pr with
          | true =>
            have hVv := Lib.hid ((wtest_n hto2.out).trans hcv.out)
            go_wp2_with fail
            go_quiet (fail)
            go_wp2_with fail
            refine wp_loop_rounds 3 ?_
            rw [rounds_succ]
            go_wp2_with fail
            refine wp_loop_rounds 2 ?_
            rw [rounds_succ]
            go_wp2_with fail
            rw [rounds_succ]
            go_wp2_with fail
            rw [rounds_succ]
            go_wp2_with fail
            refine wp_loop_rounds 1 ?_
            rw [rounds_succ]
            go_wp2_with fail
            rw [rounds_succ]
            go_wp2_with (first | (go_at_call 73; refine (rchar_any _ _).mono ?_; rintro r w' ⟨rfl, rfl⟩) | (go_at_call 74; refine (rput_any v _ hv.out).mono ?_; rintro r w' ⟨rfl, rfl⟩) | (go_at_call 92; refine (hst.out _ _).mono ?_; rintro r w' ⟨rfl, n3, rfl⟩; rw [← hpr.out]))
            go_ret
            rw [hR.out, hVv.out]
            exact ⟨rfl, below_drewN (hBa.out _ _ _) _⟩
          | false =>
            go_wp2_with fail
            go_quiet (fail)
            go_wp2_with fail
            refine wp_loop_rounds 3 ?_
            rw [rounds_succ]
            go_wp2_with fail
            refine wp_loop_rounds 2 ?_
            rw [rounds_succ]
            go_wp2_with fail
            rw [rounds_succ]
            go_wp2_with fail
            rw [rounds_succ]
            go_wp2_with fail
            refine wp_loop_rounds 1 ?_
            rw [rounds_succ]
            go_wp2_with fail
            rw [rounds_succ]
            go_wp2_with (first | (go_at_call 73; refine (rchar_any _ _).mono ?_; rintro r w' ⟨rfl, rfl⟩) | (go_at_call 74; refine (rput_any v _ hv.out).mono ?_; rintro r w' ⟨rfl, rfl⟩) | (go_at_call 92; refine (hst.out _ _).mono ?_; rintro r w' ⟨rfl, n3, rfl⟩; rw [← hpr.out]))
            go_roundw
            case rel => exact ⟨4, rfl, by omega, by omega, below_drewN (hBa.out _ _ _) _, (hSa.out _ _ _).drewN _, (hMa.out _ _ _).drewN _, notest hno'.out hto2.out⟩
            case measure => simp [intOf]
        · have hle2 : (((uenc v).length : Int) == 3) = false := by simp; omega
          have hn : wtest m 0 3 = false := by rw [hto]; simp [hle]
          replace hn := Lib.hid hn
          clear hto hle
          go_wp2_with fail
          go_quiet (fail)
          go_wp2_with fail
          refine wp_loop_rounds 3 ?_
          rw [rounds_succ]
          go_wp2_with fail
          refine wp_loop_rounds 2 ?_
          rw [rounds_succ]
          go_wp2_with fail
          rw [rounds_succ]
          go_wp2_with fail
          rw [rounds_succ]
          go_wp2_with fail
          refine wp_loop_rounds 1 ?_
          rw [rounds_succ]
          go_wp2_with fail
          rw [rounds_succ]
          go_wp2_with (first | (go_at_call 73; refine (rchar_any _ _).mono ?_; rintro r w' ⟨rfl, rfl⟩) | (go_at_call 74; refine (rput_any v _ hv.out).mono ?_; rintro r w' ⟨rfl, rfl⟩) | (go_at_call 92; refine (hst.out _ _).mono ?_; rintro r w' ⟨rfl, n3, rfl⟩; rw [← hpr.out]))
          go_roundw
          case rel => exact ⟨4, rfl, by omega, by omega, hBb.out _ _, hSb.out _ _, hMb.out _ _, notest hno'.out hn.out⟩
          case measure => simp [intOf]
    -- the size 4
    · by_cases hl : 4 ≤ m.length
      rotate_left
      · have hlt : ¬ (4 : Int) ≤ (m.length : Int) := by omega
        have hV : wholeV m 0 = -1 := wtest_none (hno 1 (by decide) (by decide)) (hno 2 (by decide) (by decide)) (hno 3 (by decide) (by decide)) ((wtest_long (l := m) (p := 0) (n := 4) (by omega)).resolve_right (by decide))
        replace hV := Lib.hid hV
        have hB' := Lib.hid hB
        clear hB hb hS hM
        go_wp2_with fail
        go_ret
        rw [hR.out, hV.out]
        exact ⟨rfl, hB'.out⟩
      have hli : (4 : Int) ≤ (m.length : Int) := by omega
      have hc0 := fun k => (hb.drewN k).2 0 (by omega)
      have hc0' := hb.2 0 (by omega)
      have hi0 := fun W => hb.idx m.length c rfl 0 W (by omega) (by omega)
      have hx0 := bN_lt m 0
      have hc1 := fun k => (hb.drewN k).2 1 (by omega)
      have hc1' := hb.2 1 (by omega)
      have hi1 := fun W => hb.idx m.length c rfl 1 W (by omega) (by omega)
      have hx1 := bN_lt m 1
      have hc2 := fun k => (hb.drewN k).2 2 (by omega)
      have hc2' := hb.2 2 (by omega)
      have hi2 := fun W => hb.idx m.length c rfl 2 W (by omega) (by omega)
      have hx2 := bN_lt m 2
      have hc3 := fun k => (hb.drewN k).2 3 (by omega)
      have hc3' := hb.2 3 (by omega)
      have hi3 := fun W => hb.idx m.length c rfl 3 W (by omega) (by omega)
      have hx3 := bN_lt m 3
      have hcv : cvN m 0 4 = ((bN m 0 : Int) - 240) * 262144 + ((bN m 1 : Int) - 128) * 4096 + ((bN m 2 : Int) - 128) * 64 + ((bN m 3 : Int) - 128) := rfl
      have eb0 : ((m[0]?.getD 0).toNat : Int) = (bN m 0 : Int) := rfl
      rw [eb0, Nat.add_zero] at hc0'
      simp only [eb0, Nat.add_zero] at hc0
      obtain ⟨b0, hb0⟩ : ∃ x, x = bN m 0 := ⟨_, rfl⟩
      rw [← hb0] at hx0 hcv hc0'
      simp only [← hb0] at hc0
      clear hb0 eb0
      have eb1 : ((m[1]?.getD 0).toNat : Int) = (bN m 1 : Int) := rfl
      rw [eb1] at hc1'
      simp only [eb1] at hc1
      obtain ⟨b1, hb1⟩ : ∃ x, x = bN m 1 := ⟨_, rfl⟩
      rw [← hb1] at hx1 hcv hc1'
      simp only [← hb1] at hc1
      clear hb1 eb1
      have eb2 : ((m[2]?.getD 0).toNat : Int) = (bN m 2 : Int) := rfl
      rw [eb2] at hc2'
      simp only [eb2] at hc2
      obtain ⟨b2, hb2⟩ : ∃ x, x = bN m 2 := ⟨_, rfl⟩
      rw [← hb2] at hx2 hcv hc2'
      simp only [← hb2] at hc2
      clear hb2 eb2
      have eb3 : ((m[3]?.getD 0).toNat : Int) = (bN m 3 : Int) := rfl
      rw [eb3] at hc3'
      simp only [eb3] at hc3
      obtain ⟨b3, hb3⟩ : ∃ x, x = bN m 3 := ⟨_, rfl⟩
      rw [← hb3] at hx3 hcv hc3'
      simp only [← hb3] at hc3
      clear hb3 eb3
      have hs := fun k j => (hS.drewN k).cell j
      have hm := fun k j => (hM.drewN k).cell j
      have hS' := Lib.hid hS
      have hM' := Lib.hid hM
      have hB' := Lib.hid hB
      have hbb := Lib.hid hb
      have hno' := Lib.hid hno
      clear hS hM hB hb hno
      obtain ⟨V, hV⟩ : ∃ V, ((b0 : Int) - 240) * 262144 + ((b1 : Int) - 128) * 4096 + ((b2 : Int) - 128) * 64 + ((b3 : Int) - 128) = V := ⟨_, rfl⟩
      rw [hV] at hcv
      replace hcv := Lib.hid hcv
      cases hch : isChr V with
      | false =>
        have hn : wtest m 0 4 = false := by unfold wtest; rw [hcv.out, hch]; rfl
        replace hn := Lib.hid hn
        go_wp2_with fail
        go_quiet (fail)
        go_wp2_with fail
        refine wp_loop_rounds 4 ?_
        rw [rounds_succ]
        go_wp2_with fail
        refine wp_loop_rounds 3 ?_
        rw [rounds_succ]
        go_wp2_with fail
        rw [rounds_succ]
        go_wp2_with fail
        rw [rounds_succ]
        go_wp2_with fail
        rw [rounds_succ]
        go_wp2_with fail
        refine wp_loop_rounds 2 ?_
        rw [rounds_succ]
        go_wp2_with fail
        rw [rounds_succ]
        go_wp2_with fail
        rw [rounds_succ]
        go_wp2_with fail
        refine wp_loop_rounds 1 ?_
        rw [rounds_succ]
        go_wp2_with fail
        rw [rounds_succ]
        go_wp2_with (go_at_call 73; refine (rchar_any _ _).mono ?_; rintro r w' ⟨rfl, rfl⟩)
        go_roundw
        case rel => exact ⟨5, rfl, by omega, by omega, (by first | exact hB'.out | exact below_drewN hB'.out _), hS'.out, hM'.out, notest hno'.out hn.out⟩
        case measure => simp [intOf]
      | true =>
        have hK : ∃ K, wr.heap.size = K := ⟨_, rfl⟩
        obtain ⟨K, hK⟩ := hK
        have hHK : H + 1 < K := by have := hM'.out.lt; omega
        obtain ⟨v, rfl⟩ : ∃ v : Nat, V = (v : Int) := ⟨V.toNat, by have := (isChr_iff.1 hch).1; omega⟩
        have hv := Lib.hid (show v ≤ 1114111 from by have := isChr_iff.1 hch; omega)
        have hto : wtest m 0 4 = (((uenc v).length == 4) && (uenc v).isPrefixOf m) := by unfold wtest; rw [hcv.out, hch]; rfl
        have hBa := Lib.hid fun q o1 o2 => ((below_drewN hB'.out q).alloc (by first | omega | (simp; omega)) o1).alloc (by first | omega | (simp; omega)) o2
        have hBb := Lib.hid fun q o1 => (below_drewN hB'.out q).alloc (by first | omega | (simp; omega)) o1
        have hSa := Lib.hid fun q o1 o2 => ((hS'.out.drewN q).kept ((Below.refl (H + 2) (wr.drewN q)).alloc (by first | omega | (simp; omega)) o1) (by omega)).kept ((Below.refl (H + 2) ((wr.drewN q).alloc o1)).alloc (by first | omega | (simp; omega)) o2) (by omega)
        have hSb := Lib.hid fun q o1 => ((hS'.out.drewN q).kept ((Below.refl (H + 2) (wr.drewN q)).alloc (by first | omega | (simp; omega)) o1) (by omega))
        have hMa := Lib.hid fun q o1 o2 => ((hM'.out.drewN q).kept ((Below.refl (H + 2) (wr.drewN q)).alloc (by first | omega | (simp; omega)) o1) (by omega)).kept ((Below.refl (H + 2) ((wr.drewN q).alloc o1)).alloc (by first | omega | (simp; omega)) o2) (by omega)
        have hMb := Lib.hid fun q o1 => ((hM'.out.drewN q).kept ((Below.refl (H + 2) (wr.drewN q)).alloc (by first | omega | (simp; omega)) o1) (by omega))
        have hst := Lib.hid fun q o1 => starts_at (v := v) (o1 := o1) (hbb.out.drewN q) (show (wr.drewN q).heap.size = K from hK) hlen
        obtain ⟨pr, hpr⟩ : ∃ pr, pr = (uenc v).isPrefixOf m := ⟨_, rfl⟩
        rw [← hpr] at hto
        replace hpr := Lib.hid hpr
        by_cases hle : (uenc v).length = 4
        · have hle2 : (((uenc v).length : Int) == 4) = true := by rw [hle]; rfl
          have hto2 : wtest m 0 4 = pr := by rw [hto, hle]; simp
          replace hto2 := Lib.hid hto2
          clear hto hle
          cases pr with
          | true =>
            have hVv := Lib.hid ((wtest_n hto2.out).trans hcv.out)
            go_wp2_with fail
            go_quiet (fail)
            go_wp2_with fail
            refine wp_loop_rounds 4 ?_
            rw [rounds_succ]
            go_wp2_with fail
            refine wp_loop_rounds 3 ?_
            rw [rounds_succ]
            go_wp2_with fail
            rw [rounds_succ]
            go_wp2_with fail
            rw [rounds_succ]
            go_wp2_with fail
            rw [rounds_succ]
            go_wp2_with fail
            refine wp_loop_rounds 2 ?_
            rw [rounds_succ]
            go_wp2_with fail
            rw [rounds_succ]
            go_wp2_with fail
            rw [rounds_succ]
            go_wp2_with fail
            refine wp_loop_rounds 1 ?_
            rw [rounds_succ]
            go_wp2_with fail
            rw [rounds_succ]
            go_wp2_with (first | (go_at_call 73; refine (rchar_any _ _).mono ?_; rintro r w' ⟨rfl, rfl⟩) | (go_at_call 74; refine (rput_any v _ hv.out).mono ?_; rintro r w' ⟨rfl, rfl⟩) | (go_at_call 92; refine (hst.out _ _).mono ?_; rintro r w' ⟨rfl, n3, rfl⟩; rw [← hpr.out]))
            go_ret
            rw [hR.out, hVv.out]
            exact ⟨rfl, below_drewN (hBa.out _ _ _) _⟩
          | false =>
            go_wp2_with fail
            go_quiet (fail)
            go_wp2_with fail
            refine wp_loop_rounds 4 ?_
            rw [rounds_succ]
            go_wp2_with fail
            refine wp_loop_rounds 3 ?_
            rw [rounds_succ]
            go_wp2_with fail
            rw [rounds_succ]
            go_wp2_with fail
            rw [rounds_succ]
            go_wp2_with fail
            rw [rounds_succ]
            go_wp2_with fail
            refine wp_loop_rounds 2 ?_
            rw [rounds_succ]
            go_wp2_with fail
            rw [rounds_succ]
            go_wp2_with fail
            rw [rounds_succ]
            go_wp2_with fail
            refine wp_loop_rounds 1 ?_
            rw [rounds_succ]
            go_wp2_with fail
            rw [rounds_succ]
            go_wp2_with (first | (go_at_call 73; refine (rchar_any _ _).mono ?_; rintro r w' ⟨rfl, rfl⟩) | (go_at_call 74; refine (rput_any v _ hv.out).mono ?_; rintro r w' ⟨rfl, rfl⟩) | (go_at_call 92; refine (hst.out _ _).mono ?_; rintro r w' ⟨rfl, n3, rfl⟩; rw [← hpr.out]))
            go_roundw
            case rel => exact ⟨5, rfl, by omega, by omega, below_drewN (hBa.out _ _ _) _, (hSa.out _ _ _).drewN _, (hMa.out _ _ _).drewN _, notest hno'.out hto2.out⟩
            case measure => simp [intOf]
        · have hle2 : (((uenc v).length : Int) == 4) = false := by simp; omega
          have hn : wtest m 0 4 = false := by rw [hto]; simp [hle]
          replace hn := Lib.hid hn
          clear hto hle
          go_wp2_with fail
          go_quiet (fail)
          go_wp2_with fail
          refine wp_loop_rounds 4 ?_
          rw [rounds_succ]
          go_wp2_with fail
          refine wp_loop_rounds 3 ?_
          rw [rounds_succ]
          go_wp2_with fail
          rw [rounds_succ]
          go_wp2_with fail
          rw [rounds_succ]
          go_wp2_with fail
          rw [rounds_succ]
          go_wp2_with fail
          refine wp_loop_rounds 2 ?_
          rw [rounds_succ]
          go_wp2_with fail
          rw [rounds_succ]
          go_wp2_with fail
          rw [rounds_succ]
          go_wp2_with fail
          refine wp_loop_rounds 1 ?_
          rw [rounds_succ]
          go_wp2_with fail
          rw [rounds_succ]
          go_wp2_with (first | (go_at_call 73; refine (rchar_any _ _).mono ?_; rintro r w' ⟨rfl, rfl⟩) | (go_at_call 74; refine (rput_any v _ hv.out).mono ?_; rintro r w' ⟨rfl, rfl⟩) | (go_at_call 92; refine (hst.out _ _).mono ?_; rintro r w' ⟨rfl, n3, rfl⟩; rw [← hpr.out]))
          go_roundw
          case rel => exact ⟨5, rfl, by omega, by omega, hBb.out _ _, hSb.out _ _, hMb.out _ _, notest hno'.out hn.out⟩
          case measure => simp [intOf]
    · have hV : wholeV m 0 = -1 := wtest_none (hno 1 (by decide) (by decide)) (hno 2 (by decide) (by decide)) (hno 3 (by decide) (by decide)) (hno 4 (by decide) (by decide))
      replace hV := Lib.hid hV
      have hB' := Lib.hid hB
      clear hB hb hS hM
      go_wp2_with fail
      go_ret
      rw [hR.out, hV.out]
      exact ⟨rfl, hB'.out⟩

end Go.Proofs.Ytmembanbemljoaa
