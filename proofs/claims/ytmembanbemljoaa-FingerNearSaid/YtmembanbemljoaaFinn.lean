/- The walk of the law FingerNear. -/
import Derived.Test.YtmembanbemljoaaFinm
namespace Go.Proofs.Ytmembanbemljoaa
open Go.RowKit
set_option linter.unusedVariables false
set_option linter.unusedSimpArgs false

theorem fstep_zero : fstep 0 = 0 := rfl
theorem fsteps_zero (n : Nat) : fsteps n 0 = 0 := by
  induction n with
  | zero => rfl
  | succ n ih => simp only [fsteps]; rw [ih]; rfl
theorem fsteps_add (m n x : Nat) : fsteps (m + n) x = fsteps m (fsteps n x) := by
  induction m with
  | zero => rw [Nat.zero_add]; rfl
  | succ m ih => rw [show m + 1 + n = (m + n) + 1 from by omega]; simp only [fsteps]; rw [ih]
theorem fstep_two (x : Nat) : fstep (2 * x) = x := by
  unfold fstep
  rw [if_neg (by omega)]
  omega
theorem fsteps_pow (i : Nat) : fsteps i (2 ^ i) = 1 := by
  induction i with
  | zero => rfl
  | succ i ih =>
    rw [fsteps_add i 1]
    have : fsteps 1 (2 ^ (i + 1)) = 2 ^ i := by
      show fstep (2 ^ (i + 1)) = _
      rw [Nat.pow_succ, Nat.mul_comm, fstep_two]
    rw [this, ih]
theorem fstep_inj (x : Nat) (hx : x < 18446744073709551616) (h : fstep x = 0) : x = 0 := by
  unfold fstep at h
  split at h
  · have : x / 2 = 13933329357911598997 := by
      have h2 := congrArg (· ^^^ 13933329357911598997) h
      simp only [Nat.xor_assoc, Nat.xor_self, Nat.xor_zero, Nat.zero_xor] at h2
      exact h2
    omega
  · omega
theorem fsteps_inj (n x : Nat) (hx : x < 18446744073709551616) (h : fsteps n x = 0) : x = 0 := by
  induction n with
  | zero => exact h
  | succ n ih => exact ih (fstep_inj _ (fsteps_lt n x hx) h)
theorem fmore_off (l : List UInt8) : ∀ a d, fmore (a ^^^ d) l = fmore a l ^^^ fsteps (8 * l.length) d := by
  induction l with
  | nil => intro a d; rfl
  | cons c l ih =>
    intro a d
    show fmore (fbyte (a ^^^ d) c) l = fmore (fbyte a c) l ^^^ _
    have e : fbyte (a ^^^ d) c = fbyte a c ^^^ fsteps 8 d := by
      unfold fbyte
      rw [← fsteps_xor, Nat.xor_assoc, Nat.xor_comm d, ← Nat.xor_assoc]
    rw [e, ih, ← fsteps_add, List.length_cons, show 8 * l.length + 8 = 8 * (l.length + 1) from by omega]
/-- One bit turned. -/
theorem fsum_flip (l : List UInt8) (q r : Nat) (hq : q < l.length) (hr : r < 8) (x : UInt8) (hx : x.toNat = 2 ^ r) :
    fsum (l.set q (l[q] ^^^ x)) = fsum l ^^^ fsteps (8 * l.length - (8 * q + r)) 1 := by
  have e1 : l = l.take q ++ l[q] :: l.drop (q + 1) := by
    rw [← List.drop_eq_getElem_cons hq, List.take_append_drop]
  have e2 : l.set q (l[q] ^^^ x) = l.take q ++ (l[q] ^^^ x) :: l.drop (q + 1) := by
    rw [List.set_eq_take_append_cons_drop, if_pos hq]
  have e3 : fsum l = fmore (fbyte (fmore fempty (l.take q)) l[q]) (l.drop (q + 1)) := by
    conv => lhs; rw [e1]
    unfold fsum
    simp only [fmore, List.foldl_append, List.foldl_cons]
  have e4 : fsum (l.set q (l[q] ^^^ x)) = fmore (fbyte (fmore fempty (l.take q)) (l[q] ^^^ x)) (l.drop (q + 1)) := by
    rw [e2]
    unfold fsum
    simp only [fmore, List.foldl_append, List.foldl_cons]
  have e5 : ∀ a : Nat, fbyte a (l[q] ^^^ x) = fbyte a l[q] ^^^ fsteps (8 - r) 1 := by
    intro a
    have h0 := fbyte_xor a 0 l[q] x
    rw [Nat.xor_zero] at h0
    rw [h0]
    congr 1
    unfold fbyte
    rw [Nat.zero_xor, hx]
    rw [show (8 : Nat) = (8 - r) + r from by omega, fsteps_add]
    rw [show 8 - r + r - r = 8 - r from by omega, fsteps_pow]
  rw [e4, e3, e5, fmore_off, ← fsteps_add]
  congr 2
  rw [List.length_drop]
  omega
/-- One bit more of the window. -/
theorem window_step (N k i h : Nat) (hk : k + i < N) (o : h / 2 ^ i % 2 = 1) :
    fsteps (N - k) (h % 2 ^ (i + 1)) = fsteps (N - k) (h % 2 ^ i) ^^^ fsteps (N - (k + i)) 1 := by
  have e : h % 2 ^ (i + 1) = h % 2 ^ i ^^^ 2 ^ i := by
    rw [Nat.pow_succ, Nat.mod_mul, o, Nat.mul_one]
    have h1 : h % 2 ^ i < 2 ^ i := Nat.mod_lt _ (Nat.two_pow_pos i)
    apply Nat.eq_of_testBit_eq
    intro j
    rw [Nat.testBit_xor, Nat.add_comm, Nat.testBit_two_pow]
    by_cases hj : i = j
    · subst hj
      rw [Nat.testBit_two_pow_add_eq, Nat.testBit_lt_two_pow h1]
      simp
    · rcases Nat.lt_or_ge j i with h2 | h2
      · rw [Nat.testBit_two_pow_add_gt h2]; simp [hj]
      · have : 2 ^ i + h % 2 ^ i < 2 ^ (i + 1) := by rw [Nat.pow_succ]; omega
        have h3 : 2 ^ (i + 1) ≤ 2 ^ j := Nat.pow_le_pow_right (by omega) (by omega)
        rw [Nat.testBit_lt_two_pow (by omega), Nat.testBit_lt_two_pow (Nat.lt_of_lt_of_le h1 (Nat.pow_le_pow_right (by omega) h2))]
        simp [hj]
  rw [e, fsteps_xor]
  congr 1
  rw [show N - k = (N - (k + i)) + i from by omega, fsteps_add, fsteps_pow]
theorem window_same (i h : Nat) (o : ¬ h / 2 ^ i % 2 = 1) : h % 2 ^ (i + 1) = h % 2 ^ i := by
  rw [Nat.pow_succ, Nat.mod_mul, show h / 2 ^ i % 2 = 0 from by omega]
  simp
/-- The fingerprints are alike just if no bit was turned. -/
theorem window_end (a N k m : Nat) (hm : m < 18446744073709551616) : a = a ^^^ fsteps (N - k) m ↔ m = 0 := by
  constructor
  · intro h
    have h2 := congrArg (a ^^^ ·) h
    simp only [← Nat.xor_assoc, Nat.xor_self, Nat.zero_xor] at h2
    exact fsteps_inj _ _ hm h2.symm
  · intro h
    subst h
    rw [fsteps_zero, Nat.xor_zero]

theorem OwnB.store {w : World} {base g n c : Nat} {l : List UInt8} (h : OwnB w base (.slice (some ⟨g, 0, none⟩) n c) l) (hn : n = l.length) (j : Nat) (x : UInt8) :
    OwnB (w.setCell ⟨g, j, none⟩ (bv x)) base (.slice (some ⟨g, 0, none⟩) n c) (l.set j x) ∧ w.grownBy (w.setCell ⟨g, j, none⟩ (bv x)) (some g) := by
  subst hn
  have := World.ownsRow.stored h j (bv x)
  refine ⟨?_, this.2⟩
  unfold OwnB
  rw [List.length_set, List.map_set]
  exact this.1
theorem OwnB.free {w : World} {base g n c : Nat} {l : List UInt8} (h : OwnB w base (.slice (some ⟨g, 0, none⟩) n c) l) (hn : n = l.length) (j : Nat) : w.frozen? ⟨g, j, none⟩ = false := by
  subst hn
  exact World.ownsRow.frozenAt h j
theorem OwnB.cell {w : World} {base g n c : Nat} {l : List UInt8} (h : OwnB w base (.slice (some ⟨g, 0, none⟩) n c) l) (hn : n = l.length) (j : Nat) (hj : j < l.length) : w.cell? ⟨g, j, none⟩ = some (.int .u8 (l[j].toNat : Int)) := by
  subst hn
  rw [World.ownsRow.cellAt h j (by omega)]
  simp [List.getElem?_eq_getElem hj, bv]
/-- What the loop keeps. -/
def NearRel (l L : List UInt8) (kk i h : Nat) (t : Bool) : Prop :=
  L.length = l.length ∧ fsum L = fsum l ^^^ fsteps (8 * l.length - kk) (h % 2 ^ i) ∧ t = decide (h % 2 ^ i ≠ 0)
theorem NearRel.flip {l L : List UInt8} {kk i h : Nat} {t : Bool} (H : NearRel l L kk i h t) (hk : kk + i < 8 * l.length) (o : h / 2 ^ i % 2 = 1) (x : UInt8) (hx : x.toNat = 2 ^ ((kk + i) % 8)) (hq : (kk + i) / 8 < L.length) :
    NearRel l (L.set ((kk + i) / 8) (L[(kk + i) / 8] ^^^ x)) kk (i + 1) h true := by
  refine ⟨by rw [List.length_set]; exact H.1, ?_, ?_⟩
  · rw [fsum_flip L _ ((kk + i) % 8) hq (Nat.mod_lt _ (by omega)) x hx, H.2.1, H.1, window_step _ _ _ _ hk o, Nat.xor_assoc]
    congr 3
    omega
  · have : h % 2 ^ (i + 1) ≠ 0 := by
      rw [Nat.pow_succ, Nat.mod_mul, o]
      have := Nat.two_pow_pos i
      omega
    simp [this]
theorem NearRel.flip' {l L : List UInt8} {kk i h q r : Nat} {t : Bool} (H : NearRel l L kk i h t) (hk : kk + i < 8 * l.length) (o : h / 2 ^ i % 2 = 1) (x y : UInt8) (hr : r = (kk + i) % 8) (hx : x.toNat = 2 ^ r) (hq : q = (kk + i) / 8) (hql : q < L.length) (hy : y = L[q]) :
    NearRel l (L.set q (y ^^^ x)) kk (i + 1) h true := by
  subst hq hy hr
  exact H.flip hk o x hx hql
theorem NearRel.keep {l L : List UInt8} {kk i h : Nat} {t : Bool} (H : NearRel l L kk i h t) (o : ¬ h / 2 ^ i % 2 = 1) : NearRel l L kk (i + 1) h t := by
  unfold NearRel
  rw [window_same i h o]
  exact H
theorem NearRel.start (l : List UInt8) (kk h : Nat) : NearRel l l kk 0 h false := by
  refine ⟨rfl, ?_, ?_⟩
  · simp [Nat.mod_one, fsteps_zero]
  · simp [Nat.mod_one]
theorem NearRel.stop {l L : List UInt8} {kk i h : Nat} {t : Bool} (H : NearRel l L kk i h t) (hi : i ≤ 64) : ((fsum l : Int) == (fsum L : Int)) = !t := by
  have hm : h % 2 ^ i < 18446744073709551616 := Nat.lt_of_lt_of_le (Nat.mod_lt _ (Nat.two_pow_pos i)) (Nat.pow_le_pow_right (n := 2) (by omega) hi)
  have hw := window_end (fsum l) (8 * l.length) kk (h % 2 ^ i) hm
  rw [← H.2.1] at hw
  rw [H.2.2]
  by_cases h0 : h % 2 ^ i = 0
  · have := hw.2 h0
    rw [← this]
    simp [h0]
  · have : ¬ fsum l = fsum L := fun e => h0 (hw.1 e)
    simp only [h0, ne_eq, not_false_eq_true, decide_true, Bool.not_true, beq_eq_false_iff_ne]
    omega
theorem bit_of (h i : Nat) (hh : h < 18446744073709551616) : bits BinOp.and IntKind.u64 ((h : Int) / 2 ^ i) 1 = ((h / 2 ^ i % 2 : Nat) : Int) := by
  have h1 : ((h : Int) / 2 ^ i) = ((h / 2 ^ i : Nat) : Int) := by simp
  have h2 := Nat.div_le_self h (2 ^ i)
  rw [h1]
  generalize h / 2 ^ i = q at *
  rw [and_one_u64 _ (by omega) (by omega)]
  omega
theorem shl_u8 (r : Nat) (hr : r < 8) : ∃ x : UInt8, x.toNat = 2 ^ r ∧ IntKind.u8.wrap ((2 : Int) ^ r) = (x.toNat : Int) := by
  refine ⟨(2 ^ r).toUInt8, ?_⟩
  revert r
  decide

set_option maxRecDepth 100000 in
set_option maxHeartbeats 1000000 in
theorem fingerNear_walk (a1 : Option Addr) (b1 o1 c1 : Nat) (l : List UInt8) (at_ : Int) (h : Nat) (w : World) (hb : BytesAt w a1 b1 o1 l) (hh : h < 18446744073709551616)
    (hl : l.length ≤ 9223372036854775807) (hc : a1 = none → c1 = 0) :
    Calls Try.prog 6 #[.slice a1 l.length c1, .int .i64 at_, .int .u64 (h : Int)] w fun e w' => e = .returned (.bool true) ∧ Below w.heap.size w w' := by
  by_cases hs : 3000 < l.length ∨ l.length = 0
  · rcases hs with hs | hs
    · go_enter Try.func6, Try.ntmps6
      go_wp2_with fail
      refine (works16_any w).mono ?_
      rintro e wa ⟨rfl, hba⟩
      go_wp2
      all_goals (go_ret; exact ⟨rfl, hba⟩)
    · have hz : ((l.length : Int) == 0) = true := by simp; exact List.eq_nil_of_length_eq_zero hs
      go_enter Try.func6, Try.ntmps6
      go_wp2_with fail
      refine (works16_any w).mono ?_
      rintro e wa ⟨rfl, hba⟩
      go_wp2
      all_goals (go_ret; exact ⟨rfl, hba⟩)
  · have h1 : l.length ≤ 3000 := by omega
    have h2 : 0 < l.length := by omega
    have hz : ((l.length : Int) == 0) = false := by simp; intro e; subst e; simp at h2
    clear hs
    go_enter Try.func6, Try.ntmps6
    go_wp2_with fail
    refine (works16_any w).mono ?_
    rintro e wa ⟨rfl, hba⟩
    replace hb := hb.below hba
    have ho := OwnB.made wa wa.heap.size wa.heap.size #[] [] 0 rfl (Nat.le_refl _) rfl rfl (by simp)
    have hA := (Below.refl wa.heap.size wa).alloc (Nat.le_refl _) (.cells #[] 5)
    have hb1 := hb.below hA
    replace hb := Lib.hid hb
    replace hA := Lib.hid hA
    have hsz : wa.heap.size ≤ (wa.alloc (.cells #[] 5)).heap.size := by simp
    obtain ⟨A, hA1, hA2⟩ : ∃ A : Nat, IntKind.u64.wrap at_ = (A : Int) ∧ A < 18446744073709551616 := by
      refine ⟨(at_ % 18446744073709551616).toNat, ?_, by omega⟩
      rw [IntKind.wrap_u64]; omega
    obtain ⟨kk, hk1, hk2⟩ : ∃ kk : Nat, (A : Int) % (8 * (l.length : Int)) = (kk : Int) ∧ kk < 8 * l.length := by
      refine ⟨A % (8 * l.length), by push_cast; rfl, Nat.mod_lt _ (by omega)⟩
    go_wp2_with (at_builtin; refine wpList_appendB _ _ rfl rfl rfl _ _ [] l a1 b1 o1 l.length c1 rfl rfl ho rfl hb1 hc (by simp; omega) hsz ?_)
    intro a3 c3 w1 L1 hL1 ho1 hg1
    obtain rfl : L1 = l := hL1.out
    have hbel := below_own ho hg1.out hA.out (Nat.le_refl _) hsz
    obtain ⟨a3', b3, c3', he, hb3, hcap, -, hne⟩ := ho1.parts
    simp only [Value.slice.injEq, true_and] at he
    obtain ⟨rfl, rfl⟩ := he
    obtain ⟨hb3a, rfl⟩ := hne (by intro e; subst e; simp at h2)
    clear ho hL1 hg1 hb1 hsz hA hb3
    go_wp2
    clear hA1 hk1 hA2
    go_loopw [9, 10] (fun t i wr => ∃ (k : Nat) (L : List UInt8) (tt : Bool), k ≤ 64 ∧ i = .int .i64 k ∧ t = .bool tt ∧ Hid (NearRel L1 L kk k h tt) ∧ OwnB wr wa.heap.size (.slice (some ⟨b3, 0, none⟩) L1.length c3) L ∧ Below wa.heap.size wa wr) (fun _ i _ => 64 - (intOf i).toNat)
    case atStart => exact ⟨0, L1, false, by omega, rfl, rfl, NearRel.start _ _ _, ho1, hbel⟩
    case round =>
      obtain ⟨k, L, tt, hk, rfl, rfl, hrel, hown, hbr⟩ := hrel
      clear hbel ho1 hne hcap
      have hLL : L.length = L1.length := hrel.out.1
      by_cases hlt : k < 64 ∧ kk + k < 8 * L1.length
      · obtain ⟨hlt1, hlt2⟩ := hlt
        have hbit := bit_of h k hh
        by_cases o : h / 2 ^ k % 2 = 1
        · have hb1 : (((h / 2 ^ k % 2 : Nat) : Int) == 1) = true := by rw [o]; rfl
          obtain ⟨q, hq⟩ : ∃ q, q = (kk + k) / 8 := ⟨_, rfl⟩
          obtain ⟨r, hr⟩ : ∃ r, r = (kk + k) % 8 := ⟨_, rfl⟩
          have hql : q < L.length := by omega
          have hrl : r < 8 := by omega
          obtain ⟨x, hx1, hx2⟩ := shl_u8 r hrl
          obtain ⟨y, hy⟩ : ∃ y, y = L[q] := ⟨_, rfl⟩
          have hflip := Lib.hid (hrel.out.flip' hlt2 o x y hr hx1 hq hql hy)
          have hst := hown.store hLL.symm q (y ^^^ x)
          have hcell := hown.cell hLL.symm q hql
          rw [← hy] at hcell
          have hfr : wr.frozen? ⟨b3, q, none⟩ = false := hown.free hLL.symm q
          have he1 : ((kk : Int) + (k : Int)) / 8 = (q : Int) := by omega
          have he2 : ((kk : Int) + (k : Int)) % 8 = (r : Int) := by omega
          rw [← hbit] at hb1
          have hxx := u8_xor_nat y.toNat x.toNat y.toNat_lt x.toNat_lt
          rw [← UInt8.toNat_xor] at hxx
          replace hst := Lib.hid hst
          have hlt3 : (q : Int) < L1.length := by omega
          have hbr2 := Lib.hid (hbr.setCell (p := ⟨b3, q, none⟩) hb3a (bv (y ^^^ x)))
          rw [show bv (y ^^^ x) = .int .u8 ((y.toNat ^^^ x.toNat : Nat) : Int) from by unfold bv; rw [UInt8.toNat_xor]] at hst hbr2
          clear hq hbr hown
          clear hrel hbit hx1 hr hy o
          go_wp2
          go_roundw
          case rel => exact ⟨k + 1, _, true, by omega, by go_num, rfl, hflip, hst.out.1, hbr2.out⟩
          case measure => simp [intOf]; omega
        · have hb1 : (((h / 2 ^ k % 2 : Nat) : Int) == 1) = false := by rw [(Nat.mod_two_eq_zero_or_one (h / 2 ^ k)).resolve_right o]; rfl
          have hkeep := Lib.hid (hrel.out.keep o)
          rw [← hbit] at hb1
          clear hrel hbit
          go_wp2
          go_roundw
          case rel => exact ⟨k + 1, L, tt, by omega, by go_num, rfl, hkeep, hown, hbr⟩
          case measure => simp [intOf]; omega
      · have hstop := hrel.out.stop hk
        have hbb := hb.out.below hbr
        obtain ⟨a', b', c', he, hb', -, -, hne'⟩ := hown.parts
        rw [hLL] at he
        simp only [Value.slice.injEq, true_and] at he
        obtain ⟨hea, rfl⟩ := he
        obtain ⟨-, hea'⟩ := hne' (by intro e; subst e; simp at hLL; omega)
        rw [hea'] at hea hb'
        simp only [Option.some.injEq, Addr.mk.injEq, and_true] at hea
        subst hea
        have k1 := sum_any a1 b1 o1 c1 L1 wr (by omega) hbb
        have k2 := sum_any (some ⟨b3, 0, none⟩) b3 0 c3 L wr (by omega) hb'
        rw [hLL] at k2
        replace k1 := Lib.hid k1
        replace k2 := Lib.hid k2
        have hbr := Lib.hid hbr
        obtain ⟨F1, hF1⟩ : ∃ F1, F1 = fsum L1 := ⟨_, rfl⟩
        obtain ⟨F2, hF2⟩ : ∃ F2, F2 = fsum L := ⟨_, rfl⟩
        rw [← hF1, ← hF2] at hstop
        rw [← hF1] at k1
        rw [← hF2] at k2
        clear hrel hown hb hbb hb' hne' hF1 hF2
        by_cases hk64 : k < 64
        · have hge : 8 * L1.length ≤ kk + k := by omega
          clear hlt
          cases tt
          all_goals
            go_wp2_with fail
            refine (k1.out).mono ?_
            rintro e wd ⟨rfl, rfl⟩
            go_wp2_with fail
            refine (k2.out).mono ?_
            rintro e wd ⟨rfl, rfl⟩
            go_wp2
            go_ret
            exact ⟨rfl, hba.trans (hbr.out.mono hba.size)⟩
        · clear hlt
          cases tt
          all_goals
            go_wp2_with fail
            refine (k1.out).mono ?_
            rintro e wd ⟨rfl, rfl⟩
            go_wp2_with fail
            refine (k2.out).mono ?_
            rintro e wd ⟨rfl, rfl⟩
            go_wp2
            go_ret
            exact ⟨rfl, hba.trans (hbr.out.mono hba.size)⟩

end Go.Proofs.Ytmembanbemljoaa
