/- The program's Put of a character. -/
import Derived.Test.YtmembanbemljoaaPut
namespace Go.Proofs.Ytmembanbemljoaa
open Go.RowKit
set_option linter.unusedVariables false
set_option linter.unusedSimpArgs false

theorem leastq (n : Int) (w : World) (m : Nat) (hn : n = 2 ∨ n = 3 ∨ n = 4) :
    Calls Try.prog 94 #[.int .i64 n] (w.drewN m) fun r w' => r = .returned (.int .i32 (uleast n)) ∧ w' = w.drewN m := least_any n _ hn

set_option maxRecDepth 100000 in
set_option maxHeartbeats 2000000 in
theorem put_bad (v : Value) (c : Int) (w : World) (hc : isChr c = false) :
    Calls Try.prog 91 #[v, .int .i32 c] w fun r w' => r = .returned (.tuple #[v, .int .i64 2]) ∧ w' = w.alloc (.cells #[.int .i32 c] 21) := by
  have hch := Lib.hid fun w => character_any c w
  rw [hc] at hch
  clear hc
  go_enter Try.func91, Try.ntmps91
  go_wp2_with (go_at_call 93; refine (hch.out _).mono ?_; rintro r w' ⟨rfl, rfl⟩)
  go_ret2
  exact ⟨rfl, rfl⟩

theorem part0 (B c : Nat) (hc : c < 1114112) (w : World) (hB : w.cell? ⟨B, 0, none⟩ = some (.int .i32 (c : Int))) :
    Calls Try.prog 95 #[.int .i64 0, .pointer (some ⟨B, 0, none⟩)] w fun r w' => r = .returned (.int .u8 ((128 + c % 64 : Nat) : Int)) ∧ w = w' := by
  have h := part_any 0 (by omega) B c hc w hB
  rw [Nat.pow_zero, Nat.div_one] at h
  exact h
theorem part1 (B c : Nat) (hc : c < 1114112) (w : World) (hB : w.cell? ⟨B, 0, none⟩ = some (.int .i32 (c : Int))) :
    Calls Try.prog 95 #[.int .i64 1, .pointer (some ⟨B, 0, none⟩)] w fun r w' => r = .returned (.int .u8 ((128 + c / 64 % 64 : Nat) : Int)) ∧ w = w' := by
  have h := part_any 1 (by omega) B c hc w hB
  rw [Nat.pow_one] at h
  exact h
theorem part2 (B c : Nat) (hc : c < 1114112) (w : World) (hB : w.cell? ⟨B, 0, none⟩ = some (.int .i32 (c : Int))) :
    Calls Try.prog 95 #[.int .i64 2, .pointer (some ⟨B, 0, none⟩)] w fun r w' => r = .returned (.int .u8 ((128 + c / 4096 % 64 : Nat) : Int)) ∧ w = w' := by
  have h := part_any 2 (by omega) B c hc w hB
  rw [show (64 : Nat) ^ 2 = 4096 from rfl] at h
  exact h
theorem newByte (x : UInt8) (v : Int) (hv : v = (x.toNat : Int)) (W : World) (B : Nat) (hB : W.heap.size = B) : BytesAt (W.alloc (.cells #[.int .u8 v] 5)) (some ⟨B, 0, none⟩) B 0 [x] :=
  BytesAt.made W [x] _ _ (0, 0) B hB (by simp [hv])

set_option maxRecDepth 100000 in
set_option maxHeartbeats 2000000 in
theorem put_one (v : Value) (T : List UInt8) (base c : Nat) (w : World) (h2 : c < 128) (hch0 : isChr (c : Int) = true) (ho : OwnB w base v T) (hb : base ≤ w.heap.size) (hT : T.length ≤ 140737488351232) :
    Calls Try.prog 91 #[v, .int .i32 (c : Int)] w fun r w' => ∃ a' c' L, r = .returned (.tuple #[.slice a' L.length c', .int .i64 0]) ∧ L = T ++ uenc c ∧ OwnB w' base (.slice a' L.length c') L ∧ Below base w w' := by
  have hcc : c < 1114112 := by omega
  have hch := Lib.hid fun w => character_any c w
  rw [hch0] at hch
  clear hch0
  obtain ⟨x0, hx0⟩ : ∃ x : UInt8, x = c.toUInt8 := ⟨_, rfl⟩
  have hu : uenc c = [x0] := by rw [hx0]; unfold uenc; rw [if_pos h2]
  replace hu := Lib.hid hu
  have q0 : (c : Int) = (x0.toNat : Int) := by
    rw [hx0]; simp; omega
  have n0 := newByte x0 _ q0
  clear hx0 q0
  replace n0 := Lib.hid n0
  have t2 : decide (uleast 2 ≤ (c : Int)) = false := by unfold uleast; simp; omega
  have hbk := Lib.hid (Blk.made w #[.int .i32 (c : Int)] 21 w.heap.size rfl)
  have hho := Lib.hid ho
  have hbel := Lib.hid ((Below.refl base w).alloc hb (.cells #[.int .i32 (c : Int)] 21))
  clear ho
  go_enter Try.func91, Try.ntmps91
  go_wp2_with (first | (go_at_call 93; refine (hch.out _).mono ?_; rintro r w' ⟨rfl, rfl⟩))
  refine wp_loop_rounds 1 ?_
  rw [rounds_succ]
  go_wp2_with fail
  go_quiet ((go_at_call 94; first | with_reducible exact Calls.quiet_of_same (leastq _ _ _ (.inl rfl)) | with_reducible exact quiet_add_same (leastq _ _ _ (.inl rfl))))
  clear hch
  go_wp2_with (at_builtin; refine wpList_appendB _ _ rfl rfl rfl base v T [x0] (some ⟨w.heap.size + 1, 0, none⟩) (w.heap.size + 1) 0 1 1 rfl rfl (by exact (hho.out.alloc _).alloc _) rfl (n0.out _ _ (by simp)) (by simp) (by simp; omega) (by simp; omega) ?_)
  intro a1 c1 w1 L1 hL1 ho1 hg1
  have hlen1 : L1.length ≤ 140737488351233 := by rw [hL1.out]; simp; omega
  have hbel1 := Lib.hid (below_own (w := (World.alloc (World.drewN (w.alloc _) _) _)) (((hho.out.alloc _).drewN _).alloc _) hg1.out (((below_drewN hbel.out _).alloc (by simp; omega) _)) (Nat.le_refl _) (by simp; omega))
  have hbk1 := Lib.hid (Blk.other (w := (World.alloc (World.drewN (w.alloc _) _) _)) (Blk.kept (B := w.heap.size + 1) hbk.out ((below_drewN (Below.refl _ _) _).alloc (by simp) _) (by simp)) hg1.out (OwnB.ne_blk (w := w.alloc _) (hho.out.alloc _) hbk.out (by decide)))
  clear hho hbel hbk hg1
  go_wp2
  go_ret2
  exact ⟨_, _, L1, rfl, by rw [hL1.out, hu.out]; first | done | simp, ho1, hbel1.out⟩

set_option maxRecDepth 100000 in
set_option maxHeartbeats 2000000 in
theorem put_two (v : Value) (T : List UInt8) (base c : Nat) (w : World) (h1 : 128 ≤ c) (h2 : c < 2048) (hch0 : isChr (c : Int) = true) (ho : OwnB w base v T) (hb : base ≤ w.heap.size) (hT : T.length ≤ 140737488351232) :
    Calls Try.prog 91 #[v, .int .i32 (c : Int)] w fun r w' => ∃ a' c' L, r = .returned (.tuple #[.slice a' L.length c', .int .i64 0]) ∧ L = T ++ uenc c ∧ OwnB w' base (.slice a' L.length c') L ∧ Below base w w' := by
  have hcc : c < 1114112 := by omega
  have hch := Lib.hid fun w => character_any c w
  rw [hch0] at hch
  clear hch0
  obtain ⟨x0, hx0⟩ : ∃ x : UInt8, x = (192 + c / 64).toUInt8 := ⟨_, rfl⟩
  obtain ⟨x1, hx1⟩ : ∃ x : UInt8, x = (128 + c % 64).toUInt8 := ⟨_, rfl⟩
  have hu : uenc c = [x0, x1] := by rw [hx0, hx1]; unfold uenc; rw [if_neg (by omega), if_pos h2]
  replace hu := Lib.hid hu
  have q0 : (192 + (c : Int) / 64) = (x0.toNat : Int) := by
    rw [hx0]; simp; omega
  have q1 : ((128 + c % 64 : Nat) : Int) = (x1.toNat : Int) := by
    rw [hx1]; simp; omega
  have n0 := newByte x0 _ q0
  have n1 := newByte x1 _ q1
  clear hx0 q0 hx1 q1
  replace n0 := Lib.hid n0
  replace n1 := Lib.hid n1
  have t2 : decide (uleast 2 ≤ (c : Int)) = true := by unfold uleast; simp; omega
  have t3 : decide (uleast 3 ≤ (c : Int)) = false := by unfold uleast; simp; omega
  have hbk := Lib.hid (Blk.made w #[.int .i32 (c : Int)] 21 w.heap.size rfl)
  have hho := Lib.hid ho
  have hbel := Lib.hid ((Below.refl base w).alloc hb (.cells #[.int .i32 (c : Int)] 21))
  clear ho
  go_enter Try.func91, Try.ntmps91
  go_wp2_with (first | (go_at_call 93; refine (hch.out _).mono ?_; rintro r w' ⟨rfl, rfl⟩))
  refine wp_loop_rounds 2 ?_
  rw [rounds_succ]
  go_wp2_with fail
  go_quiet ((go_at_call 94; first | with_reducible exact Calls.quiet_of_same (leastq _ _ _ (.inl rfl)) | with_reducible exact quiet_add_same (leastq _ _ _ (.inl rfl))))
  go_wp2_with fail
  rw [rounds_succ]
  go_wp2_with fail
  go_quiet ((go_at_call 94; first | with_reducible exact Calls.quiet_of_same (leastq _ _ _ (.inr (.inl rfl))) | with_reducible exact quiet_add_same (leastq _ _ _ (.inr (.inl rfl)))))
  clear hch
  go_wp2_with (at_builtin; refine wpList_appendB _ _ rfl rfl rfl base v T [x0] (some ⟨w.heap.size + 1, 0, none⟩) (w.heap.size + 1) 0 1 1 rfl rfl (by exact (hho.out.alloc _).alloc _) rfl (n0.out _ _ (by simp)) (by simp) (by simp; omega) (by simp; omega) ?_)
  intro a1 c1 w1 L1 hL1 ho1 hg1
  have hlen1 : L1.length ≤ 140737488351233 := by rw [hL1.out]; simp; omega
  have hbel1 := Lib.hid (below_own (w := (World.alloc (World.drewN (w.alloc _) _) _)) (((hho.out.alloc _).drewN _).alloc _) hg1.out (((below_drewN hbel.out _).alloc (by simp; omega) _)) (Nat.le_refl _) (by simp; omega))
  have hbk1 := Lib.hid (Blk.other (w := (World.alloc (World.drewN (w.alloc _) _) _)) (Blk.kept (B := w.heap.size + 1) hbk.out ((below_drewN (Below.refl _ _) _).alloc (by simp) _) (by simp)) hg1.out (OwnB.ne_blk (w := w.alloc _) (hho.out.alloc _) hbk.out (by decide)))
  clear hho hbel hbk hg1
  have cell1 := hbk1.out.cell 0
  have size1 := hbel1.out.size
  go_wp2_with (first | (go_at_call 95; refine (part0 w.heap.size c hcc _ cell1).mono ?_; rintro r w' ⟨rfl, rfl⟩) | (at_builtin; refine wpList_appendB _ _ rfl rfl rfl base (.slice a1 L1.length c1) L1 [x1] (some ⟨w1.heap.size, 0, none⟩) w1.heap.size 0 1 1 rfl rfl (by exact ho1.alloc _) rfl (n1.out _ _ rfl) (by simp) (by simp; omega) (by simp; omega) ?_))
  intro a2 c2 w2 L2 hL2 ho2 hg2
  have hlen2 : L2.length ≤ 140737488351234 := by rw [hL2.out]; simp; omega
  have hbel2 := Lib.hid (below_own (w := w1.alloc _) (ho1.alloc _) hg2.out (hbel1.out.alloc (by omega) _) (Nat.le_refl _) (by simp; omega))
  have hbk2 := Lib.hid (Blk.other (w := w1.alloc _) (Blk.kept hbk1.out ((Below.refl _ _).alloc (Nat.le_refl _) _) hbk1.out.lt) hg2.out (OwnB.ne_blk (w := w1) ho1 hbk1.out (by decide)))
  clear ho1 hg2 cell1 size1
  go_wp2
  go_ret2
  exact ⟨_, _, L2, rfl, by rw [hL2.out, hL1.out, hu.out]; first | done | simp, ho2, hbel2.out⟩

set_option maxRecDepth 100000 in
set_option maxHeartbeats 2000000 in
theorem put_three (v : Value) (T : List UInt8) (base c : Nat) (w : World) (h1 : 2048 ≤ c) (h2 : c < 65536) (hch0 : isChr (c : Int) = true) (ho : OwnB w base v T) (hb : base ≤ w.heap.size) (hT : T.length ≤ 140737488351232) :
    Calls Try.prog 91 #[v, .int .i32 (c : Int)] w fun r w' => ∃ a' c' L, r = .returned (.tuple #[.slice a' L.length c', .int .i64 0]) ∧ L = T ++ uenc c ∧ OwnB w' base (.slice a' L.length c') L ∧ Below base w w' := by
  have hcc : c < 1114112 := by omega
  have hch := Lib.hid fun w => character_any c w
  rw [hch0] at hch
  clear hch0
  obtain ⟨x0, hx0⟩ : ∃ x : UInt8, x = (224 + c / 4096).toUInt8 := ⟨_, rfl⟩
  obtain ⟨x1, hx1⟩ : ∃ x : UInt8, x = (128 + c / 64 % 64).toUInt8 := ⟨_, rfl⟩
  obtain ⟨x2, hx2⟩ : ∃ x : UInt8, x = (128 + c % 64).toUInt8 := ⟨_, rfl⟩
  have hu : uenc c = [x0, x1, x2] := by rw [hx0, hx1, hx2]; unfold uenc; rw [if_neg (by omega), if_neg (by omega), if_pos h2]
  replace hu := Lib.hid hu
  have q0 : (224 + (c : Int) / 4096) = (x0.toNat : Int) := by
    rw [hx0]; simp; omega
  have q1 : ((128 + c / 64 % 64 : Nat) : Int) = (x1.toNat : Int) := by
    rw [hx1]; simp; omega
  have q2 : ((128 + c % 64 : Nat) : Int) = (x2.toNat : Int) := by
    rw [hx2]; simp; omega
  have n0 := newByte x0 _ q0
  have n1 := newByte x1 _ q1
  have n2 := newByte x2 _ q2
  clear hx0 q0 hx1 q1 hx2 q2
  replace n0 := Lib.hid n0
  replace n1 := Lib.hid n1
  replace n2 := Lib.hid n2
  have t2 : decide (uleast 2 ≤ (c : Int)) = true := by unfold uleast; simp; omega
  have t3 : decide (uleast 3 ≤ (c : Int)) = true := by unfold uleast; simp; omega
  have t4 : decide (uleast 4 ≤ (c : Int)) = false := by unfold uleast; simp; omega
  have hbk := Lib.hid (Blk.made w #[.int .i32 (c : Int)] 21 w.heap.size rfl)
  have hho := Lib.hid ho
  have hbel := Lib.hid ((Below.refl base w).alloc hb (.cells #[.int .i32 (c : Int)] 21))
  clear ho
  go_enter Try.func91, Try.ntmps91
  go_wp2_with (first | (go_at_call 93; refine (hch.out _).mono ?_; rintro r w' ⟨rfl, rfl⟩))
  refine wp_loop_rounds 3 ?_
  rw [rounds_succ]
  go_wp2_with fail
  go_quiet ((go_at_call 94; first | with_reducible exact Calls.quiet_of_same (leastq _ _ _ (.inl rfl)) | with_reducible exact quiet_add_same (leastq _ _ _ (.inl rfl))))
  go_wp2_with fail
  rw [rounds_succ]
  go_wp2_with fail
  go_quiet ((go_at_call 94; first | with_reducible exact Calls.quiet_of_same (leastq _ _ _ (.inr (.inl rfl))) | with_reducible exact quiet_add_same (leastq _ _ _ (.inr (.inl rfl)))))
  go_wp2_with fail
  rw [rounds_succ]
  go_wp2_with fail
  go_quiet ((go_at_call 94; first | with_reducible exact Calls.quiet_of_same (leastq _ _ _ (.inr (.inr rfl))) | with_reducible exact quiet_add_same (leastq _ _ _ (.inr (.inr rfl)))))
  clear hch
  go_wp2_with (at_builtin; refine wpList_appendB _ _ rfl rfl rfl base v T [x0] (some ⟨w.heap.size + 1, 0, none⟩) (w.heap.size + 1) 0 1 1 rfl rfl (by exact (hho.out.alloc _).alloc _) rfl (n0.out _ _ (by simp)) (by simp) (by simp; omega) (by simp; omega) ?_)
  intro a1 c1 w1 L1 hL1 ho1 hg1
  have hlen1 : L1.length ≤ 140737488351233 := by rw [hL1.out]; simp; omega
  have hbel1 := Lib.hid (below_own (w := (World.alloc (World.drewN (w.alloc _) _) _)) (((hho.out.alloc _).drewN _).alloc _) hg1.out (((below_drewN hbel.out _).alloc (by simp; omega) _)) (Nat.le_refl _) (by simp; omega))
  have hbk1 := Lib.hid (Blk.other (w := (World.alloc (World.drewN (w.alloc _) _) _)) (Blk.kept (B := w.heap.size + 1) hbk.out ((below_drewN (Below.refl _ _) _).alloc (by simp) _) (by simp)) hg1.out (OwnB.ne_blk (w := w.alloc _) (hho.out.alloc _) hbk.out (by decide)))
  clear hho hbel hbk hg1
  have cell1 := hbk1.out.cell 0
  have size1 := hbel1.out.size
  go_wp2_with (first | (go_at_call 95; refine (part1 w.heap.size c hcc _ cell1).mono ?_; rintro r w' ⟨rfl, rfl⟩) | (at_builtin; refine wpList_appendB _ _ rfl rfl rfl base (.slice a1 L1.length c1) L1 [x1] (some ⟨w1.heap.size, 0, none⟩) w1.heap.size 0 1 1 rfl rfl (by exact ho1.alloc _) rfl (n1.out _ _ rfl) (by simp) (by simp; omega) (by simp; omega) ?_))
  intro a2 c2 w2 L2 hL2 ho2 hg2
  have hlen2 : L2.length ≤ 140737488351234 := by rw [hL2.out]; simp; omega
  have hbel2 := Lib.hid (below_own (w := w1.alloc _) (ho1.alloc _) hg2.out (hbel1.out.alloc (by omega) _) (Nat.le_refl _) (by simp; omega))
  have hbk2 := Lib.hid (Blk.other (w := w1.alloc _) (Blk.kept hbk1.out ((Below.refl _ _).alloc (Nat.le_refl _) _) hbk1.out.lt) hg2.out (OwnB.ne_blk (w := w1) ho1 hbk1.out (by decide)))
  clear ho1 hg2 cell1 size1
  have cell2 := hbk2.out.cell 0
  have size2 := hbel2.out.size
  go_wp2_with (first | (go_at_call 95; refine (part0 w.heap.size c hcc _ cell2).mono ?_; rintro r w' ⟨rfl, rfl⟩) | (at_builtin; refine wpList_appendB _ _ rfl rfl rfl base (.slice a2 L2.length c2) L2 [x2] (some ⟨w2.heap.size, 0, none⟩) w2.heap.size 0 1 1 rfl rfl (by exact ho2.alloc _) rfl (n2.out _ _ rfl) (by simp) (by simp; omega) (by simp; omega) ?_))
  intro a3 c3 w3 L3 hL3 ho3 hg3
  have hlen3 : L3.length ≤ 140737488351235 := by rw [hL3.out]; simp; omega
  have hbel3 := Lib.hid (below_own (w := w2.alloc _) (ho2.alloc _) hg3.out (hbel2.out.alloc (by omega) _) (Nat.le_refl _) (by simp; omega))
  have hbk3 := Lib.hid (Blk.other (w := w2.alloc _) (Blk.kept hbk2.out ((Below.refl _ _).alloc (Nat.le_refl _) _) hbk2.out.lt) hg3.out (OwnB.ne_blk (w := w2) ho2 hbk2.out (by decide)))
  clear ho2 hg3 cell2 size2
  go_wp2
  go_ret2
  exact ⟨_, _, L3, rfl, by rw [hL3.out, hL2.out, hL1.out, hu.out]; first | done | simp, ho3, hbel3.out⟩

set_option maxRecDepth 100000 in
set_option maxHeartbeats 2000000 in
theorem put_four (v : Value) (T : List UInt8) (base c : Nat) (w : World) (h1 : 65536 ≤ c) (h2 : c < 1114112) (hch0 : isChr (c : Int) = true) (ho : OwnB w base v T) (hb : base ≤ w.heap.size) (hT : T.length ≤ 140737488351232) :
    Calls Try.prog 91 #[v, .int .i32 (c : Int)] w fun r w' => ∃ a' c' L, r = .returned (.tuple #[.slice a' L.length c', .int .i64 0]) ∧ L = T ++ uenc c ∧ OwnB w' base (.slice a' L.length c') L ∧ Below base w w' := by
  have hcc : c < 1114112 := by omega
  have hch := Lib.hid fun w => character_any c w
  rw [hch0] at hch
  clear hch0
  obtain ⟨x0, hx0⟩ : ∃ x : UInt8, x = (240 + c / 262144).toUInt8 := ⟨_, rfl⟩
  obtain ⟨x1, hx1⟩ : ∃ x : UInt8, x = (128 + c / 4096 % 64).toUInt8 := ⟨_, rfl⟩
  obtain ⟨x2, hx2⟩ : ∃ x : UInt8, x = (128 + c / 64 % 64).toUInt8 := ⟨_, rfl⟩
  obtain ⟨x3, hx3⟩ : ∃ x : UInt8, x = (128 + c % 64).toUInt8 := ⟨_, rfl⟩
  have hu : uenc c = [x0, x1, x2, x3] := by rw [hx0, hx1, hx2, hx3]; unfold uenc; rw [if_neg (by omega), if_neg (by omega), if_neg (by omega)]
  replace hu := Lib.hid hu
  have q0 : (240 + (c : Int) / 262144) = (x0.toNat : Int) := by
    rw [hx0]; simp; omega
  have q1 : ((128 + c / 4096 % 64 : Nat) : Int) = (x1.toNat : Int) := by
    rw [hx1]; simp; omega
  have q2 : ((128 + c / 64 % 64 : Nat) : Int) = (x2.toNat : Int) := by
    rw [hx2]; simp; omega
  have q3 : ((128 + c % 64 : Nat) : Int) = (x3.toNat : Int) := by
    rw [hx3]; simp; omega
  have n0 := newByte x0 _ q0
  have n1 := newByte x1 _ q1
  have n2 := newByte x2 _ q2
  have n3 := newByte x3 _ q3
  clear hx0 q0 hx1 q1 hx2 q2 hx3 q3
  replace n0 := Lib.hid n0
  replace n1 := Lib.hid n1
  replace n2 := Lib.hid n2
  replace n3 := Lib.hid n3
  have t2 : decide (uleast 2 ≤ (c : Int)) = true := by unfold uleast; simp; omega
  have t3 : decide (uleast 3 ≤ (c : Int)) = true := by unfold uleast; simp; omega
  have t4 : decide (uleast 4 ≤ (c : Int)) = true := by unfold uleast; simp; omega
  have hbk := Lib.hid (Blk.made w #[.int .i32 (c : Int)] 21 w.heap.size rfl)
  have hho := Lib.hid ho
  have hbel := Lib.hid ((Below.refl base w).alloc hb (.cells #[.int .i32 (c : Int)] 21))
  clear ho
  go_enter Try.func91, Try.ntmps91
  go_wp2_with (first | (go_at_call 93; refine (hch.out _).mono ?_; rintro r w' ⟨rfl, rfl⟩))
  refine wp_loop_rounds 4 ?_
  rw [rounds_succ]
  go_wp2_with fail
  go_quiet ((go_at_call 94; first | with_reducible exact Calls.quiet_of_same (leastq _ _ _ (.inl rfl)) | with_reducible exact quiet_add_same (leastq _ _ _ (.inl rfl))))
  go_wp2_with fail
  rw [rounds_succ]
  go_wp2_with fail
  go_quiet ((go_at_call 94; first | with_reducible exact Calls.quiet_of_same (leastq _ _ _ (.inr (.inl rfl))) | with_reducible exact quiet_add_same (leastq _ _ _ (.inr (.inl rfl)))))
  go_wp2_with fail
  rw [rounds_succ]
  go_wp2_with fail
  go_quiet ((go_at_call 94; first | with_reducible exact Calls.quiet_of_same (leastq _ _ _ (.inr (.inr rfl))) | with_reducible exact quiet_add_same (leastq _ _ _ (.inr (.inr rfl)))))
  go_wp2_with fail
  rw [rounds_succ]
  go_wp2_with fail
  go_quiet (fail)
  clear hch
  go_wp2_with (at_builtin; refine wpList_appendB _ _ rfl rfl rfl base v T [x0] (some ⟨w.heap.size + 1, 0, none⟩) (w.heap.size + 1) 0 1 1 rfl rfl (by exact (hho.out.alloc _).alloc _) rfl (n0.out _ _ (by simp)) (by simp) (by simp; omega) (by simp; omega) ?_)
  intro a1 c1 w1 L1 hL1 ho1 hg1
  have hlen1 : L1.length ≤ 140737488351233 := by rw [hL1.out]; simp; omega
  have hbel1 := Lib.hid (below_own (w := (World.alloc (World.drewN (w.alloc _) _) _)) (((hho.out.alloc _).drewN _).alloc _) hg1.out (((below_drewN hbel.out _).alloc (by simp; omega) _)) (Nat.le_refl _) (by simp; omega))
  have hbk1 := Lib.hid (Blk.other (w := (World.alloc (World.drewN (w.alloc _) _) _)) (Blk.kept (B := w.heap.size + 1) hbk.out ((below_drewN (Below.refl _ _) _).alloc (by simp) _) (by simp)) hg1.out (OwnB.ne_blk (w := w.alloc _) (hho.out.alloc _) hbk.out (by decide)))
  clear hho hbel hbk hg1
  have cell1 := hbk1.out.cell 0
  have size1 := hbel1.out.size
  go_wp2_with (first | (go_at_call 95; refine (part2 w.heap.size c hcc _ cell1).mono ?_; rintro r w' ⟨rfl, rfl⟩) | (at_builtin; refine wpList_appendB _ _ rfl rfl rfl base (.slice a1 L1.length c1) L1 [x1] (some ⟨w1.heap.size, 0, none⟩) w1.heap.size 0 1 1 rfl rfl (by exact ho1.alloc _) rfl (n1.out _ _ rfl) (by simp) (by simp; omega) (by simp; omega) ?_))
  intro a2 c2 w2 L2 hL2 ho2 hg2
  have hlen2 : L2.length ≤ 140737488351234 := by rw [hL2.out]; simp; omega
  have hbel2 := Lib.hid (below_own (w := w1.alloc _) (ho1.alloc _) hg2.out (hbel1.out.alloc (by omega) _) (Nat.le_refl _) (by simp; omega))
  have hbk2 := Lib.hid (Blk.other (w := w1.alloc _) (Blk.kept hbk1.out ((Below.refl _ _).alloc (Nat.le_refl _) _) hbk1.out.lt) hg2.out (OwnB.ne_blk (w := w1) ho1 hbk1.out (by decide)))
  clear ho1 hg2 cell1 size1
  have cell2 := hbk2.out.cell 0
  have size2 := hbel2.out.size
  go_wp2_with (first | (go_at_call 95; refine (part1 w.heap.size c hcc _ cell2).mono ?_; rintro r w' ⟨rfl, rfl⟩) | (at_builtin; refine wpList_appendB _ _ rfl rfl rfl base (.slice a2 L2.length c2) L2 [x2] (some ⟨w2.heap.size, 0, none⟩) w2.heap.size 0 1 1 rfl rfl (by exact ho2.alloc _) rfl (n2.out _ _ rfl) (by simp) (by simp; omega) (by simp; omega) ?_))
  intro a3 c3 w3 L3 hL3 ho3 hg3
  have hlen3 : L3.length ≤ 140737488351235 := by rw [hL3.out]; simp; omega
  have hbel3 := Lib.hid (below_own (w := w2.alloc _) (ho2.alloc _) hg3.out (hbel2.out.alloc (by omega) _) (Nat.le_refl _) (by simp; omega))
  have hbk3 := Lib.hid (Blk.other (w := w2.alloc _) (Blk.kept hbk2.out ((Below.refl _ _).alloc (Nat.le_refl _) _) hbk2.out.lt) hg3.out (OwnB.ne_blk (w := w2) ho2 hbk2.out (by decide)))
  clear ho2 hg3 cell2 size2
  have cell3 := hbk3.out.cell 0
  have size3 := hbel3.out.size
  go_wp2_with (first | (go_at_call 95; refine (part0 w.heap.size c hcc _ cell3).mono ?_; rintro r w' ⟨rfl, rfl⟩) | (at_builtin; refine wpList_appendB _ _ rfl rfl rfl base (.slice a3 L3.length c3) L3 [x3] (some ⟨w3.heap.size, 0, none⟩) w3.heap.size 0 1 1 rfl rfl (by exact ho3.alloc _) rfl (n3.out _ _ rfl) (by simp) (by simp; omega) (by simp; omega) ?_))
  intro a4 c4 w4 L4 hL4 ho4 hg4
  have hlen4 : L4.length ≤ 140737488351236 := by rw [hL4.out]; simp; omega
  have hbel4 := Lib.hid (below_own (w := w3.alloc _) (ho3.alloc _) hg4.out (hbel3.out.alloc (by omega) _) (Nat.le_refl _) (by simp; omega))
  have hbk4 := Lib.hid (Blk.other (w := w3.alloc _) (Blk.kept hbk3.out ((Below.refl _ _).alloc (Nat.le_refl _) _) hbk3.out.lt) hg4.out (OwnB.ne_blk (w := w3) ho3 hbk3.out (by decide)))
  clear ho3 hg4 cell3 size3
  go_wp2
  go_ret2
  exact ⟨_, _, L4, rfl, by rw [hL4.out, hL3.out, hL2.out, hL1.out, hu.out]; first | done | simp, ho4, hbel4.out⟩

end Go.Proofs.Ytmembanbemljoaa
