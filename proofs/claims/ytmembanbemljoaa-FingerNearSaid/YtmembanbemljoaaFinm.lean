/- The walk of the law FingerMixes. -/
import Derived.Test.YtmembanbemljoaaFinw
import Derived.Test.YtmembanbemljoaaOwn
import Derived.Deep.RegionHeld3
import Derived.Deep.QuietTactic
import Derived.BigQuiet
import Derived.Deep.AppendLies
namespace Go.Proofs.Ytmembanbemljoaa
open Go.RowKit
set_option linter.unusedVariables false
set_option linter.unusedSimpArgs false

theorem xor_half (x y : Nat) : (x ^^^ y) / 2 = x / 2 ^^^ y / 2 := by
  have := Nat.xor_div_two_pow (a := x) (b := y) (n := 1)
  simpa using this
theorem xor_odd (x y : Nat) : (x ^^^ y) % 2 = (x % 2 + y % 2) % 2 := by
  have h := Nat.xor_mod_two_pow (a := x) (b := y) (n := 1)
  simp only [Nat.pow_one] at h
  rw [h]
  rcases Nat.mod_two_eq_zero_or_one x with hx | hx <;> rcases Nat.mod_two_eq_zero_or_one y with hy | hy <;> rw [hx, hy] <;> rfl
theorem fstep_eq (x : Nat) : fstep x = x / 2 ^^^ (if x % 2 = 1 then 13933329357911598997 else 0) := by
  unfold fstep
  split <;> simp
theorem fstep_xor (x y : Nat) : fstep (x ^^^ y) = fstep x ^^^ fstep y := by
  rw [fstep_eq, fstep_eq x, fstep_eq y, xor_half, xor_odd]
  rcases Nat.mod_two_eq_zero_or_one x with hx | hx <;> rcases Nat.mod_two_eq_zero_or_one y with hy | hy <;> rw [hx, hy] <;> simp
  · rw [Nat.xor_assoc]
  · rw [Nat.xor_assoc, Nat.xor_assoc, Nat.xor_comm 13933329357911598997]
  · rw [Nat.xor_assoc, Nat.xor_comm (y / 2), ← Nat.xor_assoc 13933329357911598997, Nat.xor_self, Nat.zero_xor]
theorem fsteps_xor (n x y : Nat) : fsteps n (x ^^^ y) = fsteps n x ^^^ fsteps n y := by
  induction n with
  | zero => rfl
  | succ n ih => simp only [fsteps]; rw [ih, fstep_xor]
theorem xor_four (a b c d : Nat) : (a ^^^ b) ^^^ (c ^^^ d) = (a ^^^ c) ^^^ (b ^^^ d) := by
  rw [Nat.xor_assoc, Nat.xor_assoc, ← Nat.xor_assoc b, Nat.xor_comm b c, Nat.xor_assoc c]
theorem fbyte_xor (h k : Nat) (x y : UInt8) : fbyte (h ^^^ k) (x ^^^ y) = fbyte h x ^^^ fbyte k y := by
  unfold fbyte
  rw [← fsteps_xor, UInt8.toNat_xor, xor_four]
/-- Three texts of one size, mixed. -/
def mix3 : List UInt8 → List UInt8 → List UInt8 → List UInt8
  | x :: a, y :: b, z :: c => (x ^^^ y ^^^ z) :: mix3 a b c
  | _, _, _ => []
theorem fmore_mix (a : List UInt8) : ∀ (b c : List UInt8) (h k m : Nat), b.length = a.length → c.length = a.length → fmore (h ^^^ k ^^^ m) (mix3 a b c) = fmore h a ^^^ fmore k b ^^^ fmore m c := by
  induction a with
  | nil =>
    intro b c h k m hb hc
    have := List.eq_nil_of_length_eq_zero hb
    have := List.eq_nil_of_length_eq_zero hc
    subst b c
    rfl
  | cons x a ih =>
    intro b c h k m hb hc
    match b, c, hb, hc with
    | y :: b, z :: c, hb, hc =>
      simp only [mix3, fmore, List.foldl_cons]
      rw [fbyte_xor, fbyte_xor]
      exact ih b c _ _ _ (by simpa using hb) (by simpa using hc)
theorem fsum_mix (a b c : List UInt8) (hb : b.length = a.length) (hc : c.length = a.length) : fsum (mix3 a b c) = fsum a ^^^ fsum b ^^^ fsum c := by
  have := fmore_mix a b c fempty fempty fempty hb hc
  rw [Nat.xor_self, Nat.zero_xor] at this
  exact this
theorem mix3_len (a : List UInt8) : ∀ b c : List UInt8, b.length = a.length → c.length = a.length → (mix3 a b c).length = a.length := by
  induction a with
  | nil => intro b c _ _; cases b <;> cases c <;> rfl
  | cons x a ih =>
    intro b c hb hc
    match b, c, hb, hc with
    | y :: b, z :: c, hb, hc => simp only [mix3, List.length_cons]; rw [ih b c (by simpa using hb) (by simpa using hc)]
theorem mix3_snoc (a : List UInt8) : ∀ (b c : List UInt8) (x y z : UInt8), b.length = a.length → c.length = a.length → mix3 (a ++ [x]) (b ++ [y]) (c ++ [z]) = mix3 a b c ++ [x ^^^ y ^^^ z] := by
  induction a with
  | nil =>
    intro b c x y z hb hc
    have := List.eq_nil_of_length_eq_zero hb
    have := List.eq_nil_of_length_eq_zero hc
    subst b c
    rfl
  | cons w a ih =>
    intro b c x y z hb hc
    match b, c, hb, hc with
    | v :: b, u :: c, hb, hc => simp only [mix3, List.cons_append]; rw [ih b c x y z (by simpa using hb) (by simpa using hc)]
theorem mix3_take (a b c : List UInt8) (k : Nat) (ha : k < a.length) (hb : k < b.length) (hc : k < c.length) :
    mix3 (a.take (k + 1)) (b.take (k + 1)) (c.take (k + 1)) = mix3 (a.take k) (b.take k) (c.take k) ++ [a[k]?.getD 0 ^^^ b[k]?.getD 0 ^^^ c[k]?.getD 0] := by
  rw [List.take_succ_eq_append_getElem ha, List.take_succ_eq_append_getElem hb, List.take_succ_eq_append_getElem hc,
    mix3_snoc _ _ _ _ _ _ (by simp; omega) (by simp; omega), List.getElem?_eq_getElem ha, List.getElem?_eq_getElem hb, List.getElem?_eq_getElem hc]
  rfl

set_option maxRecDepth 100000 in
set_option maxHeartbeats 1000000 in
theorem fingerMixes_walk (a1 a2 a3 : Option Addr) (b1 o1 c1 b2 o2 c2 b3 o3 c3 : Nat) (l1 l2 l3 : List UInt8) (w : World) (hb1 : BytesAt w a1 b1 o1 l1) (hb2 : BytesAt w a2 b2 o2 l2) (hb3 : BytesAt w a3 b3 o3 l3)
    (hl1 : l1.length ≤ 9223372036854775807) (hl2 : l2.length ≤ 9223372036854775807) (hl3 : l3.length ≤ 9223372036854775807) (hc1 : l1.length ≤ c1) (hc2 : l2.length ≤ c2) (hc3 : l3.length ≤ c3) :
    Calls Try.prog 5 #[.slice a1 l1.length c1, .slice a2 l2.length c2, .slice a3 l3.length c3] w fun e w' => e = .returned (.bool true) ∧ Below w.heap.size w w' := by
  obtain ⟨n, hm, hn1, hn2, hn3⟩ : ∃ n : Nat, (if (l3.length : Int) < (if l2.length < l1.length then (l2.length : Int) else (l1.length : Int)) then (l3.length : Int) else if l2.length < l1.length then (l2.length : Int) else (l1.length : Int)) = (n : Int) ∧ n ≤ l1.length ∧ n ≤ l2.length ∧ n ≤ l3.length := by
    refine ⟨min (min l1.length l2.length) l3.length, ?_, by omega, by omega, by omega⟩
    split <;> split at * <;> omega
  go_enter Try.func5, Try.ntmps5
  go_wp2_with fail
  refine (works16_any w).mono ?_
  rintro e wa ⟨rfl, hba⟩
  replace hb1 := hb1.below hba
  replace hb2 := hb2.below hba
  replace hb3 := hb3.below hba
  by_cases hbig : 3000 < n
  · go_wp2
    all_goals (go_ret; exact ⟨rfl, hba⟩)
  · go_wp2_with fail
    clear hm
    go_loopw [8, 22] (fun v i wr => ∃ (k c : Nat) (a : Option Addr) (L : List UInt8), k ≤ n ∧ i = .int .i64 k ∧ v = .slice a L.length c ∧ L.length = k ∧ Hid (L = mix3 (l1.take k) (l2.take k) (l3.take k)) ∧ OwnB wr wa.heap.size v L ∧ Below wa.heap.size wa wr) (fun _ i _ => n - (intOf i).toNat)
    case atStart => exact ⟨0, 0, none, [], by omega, rfl, rfl, rfl, by simp [Hid, mix3], OwnB.nil _ _, Below.refl _ _⟩
    case round =>
      obtain ⟨k, c, a, L, hk, rfl, rfl, hL, hmix, hown, hbel⟩ := hrel
      by_cases hlt : k < n
      · replace hL := Lib.hid hL
        have q1 := hb1.below hbel
        have q2 := hb2.below hbel
        have q3 := hb3.below hbel
        have r1 := fun (W : World) => q1.idx l1.length c1 rfl k W (by omega) (by omega)
        have r2 := fun (W : World) => q2.idx l2.length c2 rfl k W (by omega) (by omega)
        have r3 := fun (W : World) => q3.idx l3.length c3 rfl k W (by omega) (by omega)
        have p1 := q1.2 k (by omega)
        have p2 := q2.2 k (by omega)
        have p3 := q3.2 k (by omega)
        have hsn := Lib.hid (mix3_take l1 l2 l3 k (by omega) (by omega) (by omega))
        obtain ⟨x1, hx1⟩ : ∃ x, x = l1[k]?.getD 0 := ⟨_, rfl⟩
        obtain ⟨x2, hx2⟩ : ∃ x, x = l2[k]?.getD 0 := ⟨_, rfl⟩
        obtain ⟨x3, hx3⟩ : ∃ x, x = l3[k]?.getD 0 := ⟨_, rfl⟩
        rw [← hx1] at p1 hsn
        rw [← hx2] at p2 hsn
        rw [← hx3] at p3 hsn
        rw [Int.toNat_natCast] at r1 r2 r3
        have f1 := World.new_ne wr _ p1
        have f2 := World.new_ne wr _ p2
        have f3 := World.new_ne wr _ p3
        have e1 := World.block_lt_of_cell? wr _ p1
        have e2 := World.block_lt_of_cell? wr _ p2
        have e3 := World.block_lt_of_cell? wr _ p3
        have d1 := hown.far (hb1.lt (by intro e; rw [e] at hn1; simp at hn1; omega))
        have d2 := hown.far (hb2.lt (by intro e; rw [e] at hn2; simp at hn2; omega))
        have d3 := hown.far (hb3.lt (by intro e; rw [e] at hn3; simp at hn3; omega))
        have hx : bits BinOp.xor IntKind.u8 (bits BinOp.xor IntKind.u8 (x1.toNat : Int) (x2.toNat : Int)) (x3.toNat : Int) = ((x1 ^^^ x2 ^^^ x3).toNat : Int) := by
          rw [u8_xor_nat _ _ x1.toNat_lt x2.toNat_lt, ← UInt8.toNat_xor, u8_xor_nat _ _ (UInt8.toNat_lt _) x3.toNat_lt, ← UInt8.toNat_xor]
        obtain ⟨y, hy⟩ : ∃ y, y = x1 ^^^ x2 ^^^ x3 := ⟨_, rfl⟩
        rw [← hy] at hx hsn
        have hnew := BytesAt.made wr [y] #[.int .u8 (y.toNat : Int)] 5 (0, 0) wr.heap.size rfl rfl
        have hLs : L.length ≤ 3000 := by rw [hL.out]; omega
        have hbs := hbel.size
        clear hx1 hx2 hx3 q1 q2 q3 hy hb1 hb2 hb3
        go_wp2
        go_region_held3 (fun w' => w'.cell? ⟨b1, o1 + k, none⟩ = some (.int .u8 (x1.toNat : Int)) ∧ w'.cell? ⟨b2, o2 + k, none⟩ = some (.int .u8 (x2.toNat : Int)) ∧ w'.cell? ⟨b3, o3 + k, none⟩ = some (.int .u8 (x3.toNat : Int)))
          (first
            | go_keep
            | (go_split_ands
               refine ⟨?_, ?_, ?_⟩
               · (rw [hg.out.cell_far _ (by simp; omega) (Ne.symm d1)]; assumption)
               · (rw [hg.out.cell_far _ (by simp; omega) (Ne.symm d2)]; assumption)
               · (rw [hg.out.cell_far _ (by simp; omega) (Ne.symm d3)]; assumption)))
          ((refine step_appendB (by rfl) _ _ (by rfl) (by rfl) wa.heap.size (.slice a L.length c) L [y] (some ⟨wr.heap.size, 0, none⟩) wr.heap.size 0 1 1 (by rfl) (by rfl) (by exact hown.alloc _) (by rfl) (by exact hnew) (by simp) (by simp; omega) (by simp; omega) ?_; intro a2 c2 w2 L2 hL2 hown2 hg))
        have hb2 := Lib.hid (below_own (w := (wr.alloc _).drew) (hown.alloc _) hg.out (hbel.alloc hbel.size _).drew (Nat.le_refl _) (by simp; omega))
        have hm2 : Hid (L2 = mix3 (l1.take (k + 1)) (l2.take (k + 1)) (l3.take (k + 1))) := by
          unfold Hid
          rw [hsn.out, hL2.out, hmix.out]
        have hl2' : L2.length = k + 1 := by rw [hL2.out, List.length_append, hL.out]; rfl
        replace hl2' := Lib.hid hl2'
        clear hg hown hbel hmix hL hsn hL2 hnew p1 p2 p3 r1 r2 r3 d1 d2 d3 e1 e2 e3 f1 f2 f3 hx
        go_wp2
        go_roundw
        case rel => exact ⟨k + 1, c2, a2, L2, by omega, by go_num, rfl, hl2'.out, hm2, hown2, hb2.out⟩
        case measure => simp [intOf]; omega
      · obtain rfl : k = n := by omega
        obtain ⟨a', b', c', he, hb', -, -, -⟩ := hown.parts
        simp only [Value.slice.injEq, true_and] at he
        obtain ⟨rfl, rfl⟩ := he
        have q1 := (hb1.below hbel).head k
        have q2 := (hb2.below hbel).head k
        have q3 := (hb3.below hbel).head k
        have t1 : (l1.take k).length = k := by simp; omega
        have t2 : (l2.take k).length = k := by simp; omega
        have t3 : (l3.take k).length = k := by simp; omega
        have s1 := slice_head a1 l1.length c1 k (by omega)
        have s2 := slice_head a2 l2.length c2 k (by omega)
        have s3 := slice_head a3 l3.length c3 k (by omega)
        have hsum := fsum_mix _ _ _ (t2.trans t1.symm) (t3.trans t1.symm)
        rw [← hmix.out] at hsum
        obtain ⟨m1, hm1⟩ : ∃ m, m = l1.take k := ⟨_, rfl⟩
        obtain ⟨m2, hm2⟩ : ∃ m, m = l2.take k := ⟨_, rfl⟩
        obtain ⟨m3, hm3⟩ : ∃ m, m = l3.take k := ⟨_, rfl⟩
        rw [← hm1] at q1 t1 hsum
        rw [← hm2] at q2 t2 hsum
        rw [← hm3] at q3 t3 hsum
        have k0 := fun n => (sum_any a b' 0 c L (wr.drewN n) (by rw [hL]; omega) (hb'.drewN n)).mono fun e w' h => (⟨h.1, h.2.symm⟩ : e = .returned (.int .u64 (fsum L)) ∧ w' = wr.drewN n)
        have k1 := fun n => (sum_any a1 b1 o1 c1 m1 (wr.drewN n) (by omega) (q1.drewN n)).mono fun e w' h => (⟨h.1, h.2.symm⟩ : e = .returned (.int .u64 (fsum m1)) ∧ w' = wr.drewN n)
        have k2 := fun n => (sum_any a2 b2 o2 c2 m2 (wr.drewN n) (by omega) (q2.drewN n)).mono fun e w' h => (⟨h.1, h.2.symm⟩ : e = .returned (.int .u64 (fsum m2)) ∧ w' = wr.drewN n)
        have k3 := fun n => (sum_any a3 b3 o3 c3 m3 (wr.drewN n) (by omega) (q3.drewN n)).mono fun e w' h => (⟨h.1, h.2.symm⟩ : e = .returned (.int .u64 (fsum m3)) ∧ w' = wr.drewN n)
        rw [t1] at k1
        rw [t2] at k2
        rw [t3] at k3
        have hx1 : bits BinOp.xor IntKind.u64 (bits BinOp.xor IntKind.u64 (fsum m1 : Int) (fsum m2 : Int)) (fsum m3 : Int) = (fsum L : Int) := by
          have y1 := fmore_lt m1 _ fempty_lt
          have y2 := fmore_lt m2 _ fempty_lt
          have y3 := fmore_lt m3 _ fempty_lt
          rw [bits_xor_u64_nat (fsum m1) (fsum m2) y1 y2, bits_xor_u64_nat (fsum m1 ^^^ fsum m2) (fsum m3) (Nat.xor_lt_two_pow (n := 64) y1 y2) y3, hsum]
        replace k0 := Lib.hid k0
        replace k1 := Lib.hid k1
        replace k2 := Lib.hid k2
        replace k3 := Lib.hid k3
        clear hb1 hb2 hb3 q1 q2 q3 t1 t2 t3 hm1 hm2 hm3 hmix hsum hown hb' hL
        go_wp2
        go_quiet ((go_at_call 17; first | with_reducible exact Calls.quiet_of_same (k0.out _) | with_reducible exact Calls.quiet_of_same (k1.out _) | with_reducible exact Calls.quiet_of_same (k2.out _) | with_reducible exact Calls.quiet_of_same (k3.out _)))
        go_wp2
        go_ret
        exact ⟨rfl, hba.trans ((below_drewN hbel _).mono hba.size)⟩

end Go.Proofs.Ytmembanbemljoaa
