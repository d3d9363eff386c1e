/- The lexer's words of letters. -/
import Derived.Test.YticfioblapjkmaaGreatLexq
import Derived.Deep.RegionLaw
namespace Go.Proofs.YticfioblapjkmaaGreat
open Go.RowKit
set_option linter.unusedVariables false
set_option linter.unusedSimpArgs false

/-- A region's end, by one frame and one world. -/
def One (A : Act) (W : World) (e : Exit) (a : Act) (w : World) : Prop := match e with | .normal => a = A ∧ w = W | _ => False
theorem region_one {P : Program} {id : Nat} {ops : Array Oper} {b : Bool} {Q : Exit → Act → World → Prop} {a : Act} {w : World} {A : Act} {W : World} (h : (Code.region id ops b).wp P (One A W) a w) (hq : Q .normal A W) : (Code.region id ops b).wp P Q a w :=
  Code.wp_mono (fun e a w h => by
    cases e <;> first | (obtain ⟨rfl, rfl⟩ := h; exact hq) | exact (h : False).elim) h

def OneA (A : Act) (W : World) (o8 : Obj) (e : Exit) (a : Act) (w : World) : Prop := match e with | .normal => a = A ∧ ∃ o9, w = ((W.alloc o8).alloc o9).drewN 2 | _ => False
theorem region_oneA {P : Program} {id : Nat} {ops : Array Oper} {b : Bool} {Q : Exit → Act → World → Prop} {a : Act} {w : World} {A : Act} {W : World} {o8 : Obj} (h : (Code.region id ops b).wp P (OneA A W o8) a w) (hq : ∀ o9, Q .normal A (((W.alloc o8).alloc o9).drewN 2)) : (Code.region id ops b).wp P Q a w :=
  Code.wp_mono (fun e a w h => by
    cases e <;> first | (obtain ⟨rfl, o9, rfl⟩ := h; exact hq o9) | exact (h : False).elim) h
theorem pre_len {s : ByteArray} {l : List UInt8} {p : Nat} (h : s.data.toList.isPrefixOf (l.drop p) = true) : p + s.size ≤ l.length ∨ s.size = 0 := by
  have h2 := (List.isPrefixOf_iff_prefix.1 h).length_le
  rw [List.length_drop] at h2
  have : s.size = s.data.toList.length := Array.length_toList.symm
  omega

theorem Blk.put5 {w : World} {H : Nat} {z0 z1 z2 z3 z4 : Value} {t : TypeId} (hZ : Blk w H #[z0, z1, z2, z3, z4] t) (v0 v1 v2 v3 v4 : Value) : Blk (Go.Proofs.YticfioblapjkmaaGreat.put5 w H v0 v1 v2 v3 v4) H #[v0, v1, v2, v3, v4] t :=
  ((((hZ.set 0 v0).set 1 v1).set 2 v2).set 3 v3).set 4 v4
theorem Blk.far5 {w : World} {H H' : Nat} {C : Array Value} {t : TypeId} (hZ : Blk w H C t) (hne : H ≠ H') (v0 v1 v2 v3 v4 : Value) : Blk (Go.Proofs.YticfioblapjkmaaGreat.put5 w H' v0 v1 v2 v3 v4) H C t :=
  have hn : (some H : Option Nat) ≠ some H' := by simpa using hne
  ((((hZ.other (setCell_grown _ H' 0 v0) hn).other (setCell_grown _ H' 1 v1) hn).other (setCell_grown _ H' 2 v2) hn).other (setCell_grown _ H' 3 v3) hn).other (setCell_grown _ H' 4 v4) hn
theorem drewN_one (w : World) : w.drewN 1 = w.drew := rfl
def z5 : Array Value := #[.int .i64 0, .int .i64 0, .string ⟨#[]⟩, .int .i64 0, .int .i64 0]
/-- What a round of the search for a word of letters keeps. -/
structure WW (w W : World) (X H : Nat) (a : Option Addr) (b off c : Nat) (l : List UInt8) (p : Nat) : Prop where
  lex : Lex W X (H + 2) a b off c l p 0 nilB []
  below : Below X w W
  z : Blk W H z5 51
  f : Blk W (H + 1) z5 51
variable {w W : World} {X H B : Nat} {a : Option Addr} {b off c : Nat} {l : List UInt8} {p : Nat} {e : Int} {tv : Value} {T : List UInt8}
theorem WW.alloc (h : WW w W X H a b off c l p) (o : Obj) : WW w (W.alloc o) X H a b off c l p :=
  have hb := (Below.refl W.heap.size W).alloc (Nat.le_refl _) o
  ⟨h.lex.alloc o, h.below.alloc (Nat.le_of_lt h.lex.blk.lt) o, h.z.kept hb h.z.lt, h.f.kept hb h.f.lt⟩
theorem WW.drewN (h : WW w W X H a b off c l p) (n : Nat) : WW w (W.drewN n) X H a b off c l p :=
  ⟨h.lex.drewN n, below_drewN h.below n, h.z, h.f⟩

theorem bytesRow_at (w : World) (s : ByteArray) (cap : Nat) (t : TypeId) (fr : Nat × Nat) (K : Nat) (hK : w.heap.size = K) : BytesAt (w.alloc (.cells (bytesRow s cap) t fr)) (some ⟨K, 0, none⟩) K 0 s.data.toList := by
  refine ⟨fun _ => rfl, fun j hj => ?_⟩
  subst hK
  have hj' : j < s.data.size := by simpa using hj
  unfold World.cell?
  rw [show (w.alloc (.cells (bytesRow s cap) t fr)).heap[({ block := w.heap.size, off := 0 + j } : Addr).block]? = some (.cells (bytesRow s cap) t fr) from heap_alloc_new w _]
  simp [bytesRow, hj']
  rw [Array.getElem?_append_left (by simpa using hj')]
  rw [Array.getElem?_map, Array.getElem?_eq_getElem hj']
  rfl
/-- The test whether a word of letters stands there. -/
theorem word_pre (h : WW w W X H a b off c l p) {K : Nat} (hK : W.heap.size = K) (s : ByteArray) (o8 : Obj) (cap : Nat) (fr : Nat × Nat) :
    Calls Tryz.prog 65 #[.slice (tl a p c) (l.length - p) (c - p), .slice (some ⟨K + 1, 0, none⟩) s.size cap] ((W.alloc o8).alloc (.cells (bytesRow s cap) 5 fr)).drew.drew
      fun r w' => r = .returned (.bool (s.data.toList.isPrefixOf (l.drop p))) ∧ ((W.alloc o8).alloc (.cells (bytesRow s cap) 5 fr)).drew.drew = w' := by
  have hL := ((h.alloc o8).alloc (.cells (bytesRow s cap) 5 fr)).drewN 2
  refine hasPrefix_any (tl a p c) (some ⟨K + 1, 0, none⟩) b (off + p) (c - p) (K + 1) 0 cap (l.drop p) s.data.toList (l.length - p) s.size _ (hL.lex.bytes.tail h.lex.len p) ?_ (by rw [List.length_drop]) rfl (by have := h.lex.len; omega)
  exact (bytesRow_at (W.alloc o8) s cap _ fr (K + 1) (by simp; omega)).drewN 2
def lettersV : Array Value := #[.string sTrue, .int .i64 7, .int .i64 1, .string sFalse, .int .i64 7, .int .i64 0, .string sNull, .int .i64 8, .int .i64 0]
theorem lettersI0 (W : World) : (Instr.index 102 (.agg lettersV) (.int .i64 0)).run Tryz.prog W = .ok (.agg #[.string sTrue, .int .i64 7, .int .i64 1]) W := by
  simp [Instr.index, run_underlying Tryz.underlying102, asIntOf, go_sem, lettersV]
theorem lettersI1 (W : World) : (Instr.index 102 (.agg lettersV) (.int .i64 1)).run Tryz.prog W = .ok (.agg #[.string sFalse, .int .i64 7, .int .i64 0]) W := by
  simp [Instr.index, run_underlying Tryz.underlying102, asIntOf, go_sem, lettersV]
theorem lettersI2 (W : World) : (Instr.index 102 (.agg lettersV) (.int .i64 2)).run Tryz.prog W = .ok (.agg #[.string sNull, .int .i64 8, .int .i64 0]) W := by
  simp [Instr.index, run_underlying Tryz.underlying102, asIntOf, go_sem, lettersV]

set_option maxRecDepth 100000 in
set_option maxHeartbeats 4000000 in
theorem word_letters (h : Lex w X B a b off c l p 0 nilB []) (hp : p < l.length) (hs : signOf (byteAt l p) = 0) (hc34 : (byteAt l p).toNat ≠ 34) (hc : ¬ ((byteAt l p).toNat = 45 ∨ isDig (byteAt l p) = true)) :
    Calls Tryz.prog 51 #[.pointer (some ⟨X, 0, none⟩), .int .u8 ((byteAt l p).toNat : Int)] w (WPost w X a b off c l p) := by
  have hm : mWord l p = mLet l p := by unfold mWord; rw [if_neg (by omega), if_neg hc34, if_neg hc]
  have hi := signIdx_of (byteAt l p)
  rw [hs] at hi
  have h34 : (((byteAt l p).toNat : Int) == 34) = false := by simp; omega
  have h45 : (((byteAt l p).toNat : Int) == 45) = false := by simp; omega
  have hdg := Lib.hid fun w => digit_any (byteAt l p) w
  rw [show isDig (byteAt l p) = false from by simpa using fun h => hc (.inr h)] at hdg
  unfold WPost
  have hXs := h.blk.lt
  have hpb := h.big
  obtain ⟨H, hH⟩ : ∃ H, w.heap.size = H := ⟨_, rfl⟩
  have hWW : ∀ W2, Below (H + 2) ((w.alloc (.cells z5 51)).alloc (.cells z5 51)) W2 → WW w W2 X H a b off c l p := by
    intro W2 hb
    have h1 := h.alloc (.cells z5 51)
    have h2 := (h1.alloc (.cells z5 51))
    have hs2 := hb.size
    have hbX := (((Below.refl X w).alloc (Nat.le_of_lt hXs) (.cells z5 51)).alloc (by simp; omega) (.cells z5 51)).trans (hb.mono (by omega))
    have hZ := (Blk.made w z5 51 H hH)
    have hZ2 := hZ.kept ((Below.refl (w.heap.size + 1) (w.alloc (.cells z5 51))).alloc (by simp) (.cells z5 51)) (by omega)
    have hF := (Blk.made (w.alloc (.cells z5 51)) z5 51 (H + 1) (by simp; omega))
    refine ⟨⟨h2.blk.kept hb (by omega), h2.bytes.keep (hb.mono (by omega)) h.apart, h.apart, OwnB.nil _ _, h.len, h.big, h.pos, h.nil, by omega, ?_⟩, hbX, hZ2.kept hb (by omega), hF.kept hb (by omega)⟩
    simp at hs2
    omega
  replace hWW := Lib.hid hWW
  replace hm := Lib.hid hm
  obtain ⟨y, hy⟩ : ∃ y : Int, y = ((byteAt l p).toNat : Int) := ⟨_, rfl⟩
  rw [← hy] at hi h34 h45 hdg ⊢
  replace hi := Lib.hid hi
  clear h hs hc34 hc hy
  go_enter Tryz.func51, Tryz.ntmps51
  go_wp2
  go_step3
  go_wp2_with (first | (go_at_call 41; refine (signIdx_any _ _).mono ?_; rintro r w' ⟨rfl, rfl⟩; rw [show signIdx y = -1 from hi.out]) | (go_at_call 62; refine (hdg.out _).mono ?_; rintro r w' ⟨rfl, rfl⟩))
  go_step3
  go_wp2_with fail
  refine (letters_any _).mono ?_
  rintro r W0 ⟨rfl, hb⟩
  have hW := hWW.out W0 (hb.mono (by simp; omega))
  clear hWW hb hdg hi h34 h45
  have i0 := fun W => lettersI0 W
  have i1 := fun W => lettersI1 W
  have i2 := fun W => lettersI2 W
  unfold lettersV at i0 i1 i2
  go_wp2_with fail
  have hsl := slice_tail a l.length c p (by omega) hW.lex.len
  refine wp_loop_rounds 4 ?_
  -- ROUNDS

  -- round 0
  rw [rounds_succ]
  have c0a := fun o => (hW.lex.alloc o).c0
  have c1a := fun o => (hW.lex.alloc o).c1
  obtain ⟨K, hK⟩ : ∃ K, W0.heap.size = K := ⟨_, rfl⟩
  have hXK : X < K := hK ▸ hW.lex.blk.lt
  have hHK : H + 1 < K := by have := hW.f.lt; omega
  have ck := fun C t => (Blk.made W0 C t K hK).cell 0
  have hcv := fun (w : World) => run_bytes_of_string w 9 28 5 sTrue Tryz.underlying9 Tryz.underlying28 Tryz.underlying5
  have hpr0e := Lib.hid fun o8 cap fr => word_pre hW hK sTrue o8 cap fr
  obtain ⟨pr, hpr0⟩ : ∃ pr, pr = sTrue.data.toList.isPrefixOf (l.drop p) := ⟨_, rfl⟩
  rw [← hpr0] at hpr0e
  have hW1 := Lib.hid fun o8 o9 => ((hW.alloc o8).alloc o9).drewN 2
  have hb1 := Lib.hid fun C t o9 => ((Blk.made W0 C t K hK).kept ((Below.refl (K + 1) (W0.alloc (.cells C t))).alloc (by simp; omega) o9) (by omega)).drewN 2
  replace hpr0 := Lib.hid hpr0
  clear hW
  go_wp2_with fail
  apply region_oneA (W := W0) (o8 := .cells #[.string sTrue, .int .i64 7, .int .i64 1] 101)
  · go_region_law (go_simp; go_at_call 65; refine (hpr0e.out _ _ _).mono ?_; rintro r w' ⟨rfl, rfl⟩)
    all_goals exact ⟨rfl, _, rfl⟩
  intro o9
  have hW := hW1.out (.cells #[.string sTrue, .int .i64 7, .int .i64 1] 101) o9
  have hb := hb1.out #[.string sTrue, .int .i64 7, .int .i64 1] 101 o9
  clear c0a c1a ck hcv hpr0e hW1 hb1
  generalize ((W0.alloc (.cells #[.string sTrue, .int .i64 7, .int .i64 1] 101)).alloc o9).drewN 2 = W1 at hW hb ⊢
  clear o9
  cases pr
  rotate_left
  · have hzz := True.intro
    have c1a := hW.lex.c1
    have f1a := hW.lex.f 1
    have ck := fun j => hb.cell j
    have hlen : p + 4 ≤ l.length := (pre_len hpr0.out.symm).resolve_right (by decide)
    have hpb := hW.lex.big
    have hws : IntKind.i64.wrap ((p : Int) + ((sTrue.size : Nat) : Int)) = (p : Int) + 4 := by
      rw [show sTrue.size = 4 from rfl]
      simp [IntKind.wrap, IntKind.bits, IntKind.signed]; omega
    have hL2 := (hW.lex.setAt (p + 4) hlen).drewN 1
    have hb2 := (hb.other (setCell_grown _ X 1 (.int .i64 ((p + 4 : Nat) : Int))) (by simp; omega)).drewN 1
    have hz2 := (hW.z.other (setCell_grown _ X 1 (.int .i64 ((p + 4 : Nat) : Int))) (by simp; omega)).drewN 1
    have hf2 := (hW.f.other (setCell_grown _ X 1 (.int .i64 ((p + 4 : Nat) : Int))) (by simp; omega)).drewN 1
    have hB2 := below_drewN (hW.below.setCell (p := ⟨X, 1, none⟩) (Nat.le_refl _) (.int .i64 ((p + 4 : Nat) : Int))) 1
    rw [show ((p + 4 : Nat) : Int) = (p : Int) + 4 from by omega] at hL2 hb2 hz2 hf2 hB2
    rw [drewN_one] at hL2 hb2 hz2 hf2 hB2
    replace hL2 := Lib.hid hL2
    replace hb2 := Lib.hid hb2
    replace hf2 := Lib.hid hf2
    replace hz2 := Lib.hid hz2
    replace hB2 := Lib.hid hB2
    replace hws := Lib.hid hws
    clear hW hb hpb
    go_wp2_with fail
    apply region_one
    · go_region_law (fail)
      all_goals exact ⟨rfl, rfl⟩
    rw [hws.out]
    generalize (W1.setCell ⟨X, 1, none⟩ (.int .i64 ((p : Int) + 4))).drew = V at hL2 hb2 hf2 hz2 hB2 ⊢
    clear c1a f1a ck
    have ck := fun j => hb2.out.cell j
    have cf := fun j => hf2.out.cell j
    have ff := fun j => hf2.out.free j
    unfold z5 at cf
    go_wp2_with fail
    refine (peek_any (hL2.out.put5 (H := H + 1) (by omega) (by omega) _ _ _ _ _)).mono ?_
    rintro r w3 ⟨rfl, n3, hn3⟩
    have hL3 := (hL2.out.put5 (H := H + 1) (by omega) (by omega) (.int .i64 7) (.int .i64 1) (.string ⟨#[]⟩) (.int .i64 0) (.int .i64 0)).drewN n3
    have hf3 := (Blk.put5 hf2.out (.int .i64 7) (.int .i64 1) (.string ⟨#[]⟩) (.int .i64 0) (.int .i64 0)).drewN n3
    have hz3 := (Blk.far5 hz2.out (H' := H + 1) (by omega) (.int .i64 7) (.int .i64 1) (.string ⟨#[]⟩) (.int .i64 0) (.int .i64 0)).drewN n3
    have hB3 := below_drewN (below_put5 hB2.out (H := H + 1) (by omega) (.int .i64 7) (.int .i64 1) (.string ⟨#[]⟩) (.int .i64 0) (.int .i64 0)) n3
    rw [show (put5 V (H + 1) (.int .i64 7) (.int .i64 1) (.string ⟨#[]⟩) (.int .i64 0) (.int .i64 0)).drewN n3 = w3 from hn3.symm] at hL3 hf3 hz3 hB3
    have hml : mLet l p = if isLet (byteAt l (p + 4)) = true then ⟨20, 0, 0, [], 0⟩ else ⟨0, 7, 1, [], p + 4⟩ := by
      unfold mLet mNamed
      rw [if_pos hpr0.out.symm]
    have hlt := Lib.hid fun w => letter_any (byteAt l (p + 4)) w
    obtain ⟨lt, hlv⟩ : ∃ lt, lt = isLet (byteAt l (p + 4)) := ⟨_, rfl⟩
    rw [← hlv] at hlt hml
    replace hml := Lib.hid hml
    have hfl := Lib.hid (fail_first hL3 20)
    have ck := fun j => hf3.cell j
    have cf := fun j => hz3.cell j
    have ff := fun j => hz3.free j
    unfold z5 at cf
    have hLf := Lib.hid (hL3.setE 20)
    have hzf := Lib.hid (hz3.other (setCell_grown _ X 2 (.int .i64 20)) (by simp; omega))
    have hff := Lib.hid (hf3.other (setCell_grown _ X 2 (.int .i64 20)) (by simp; omega))
    have hBf := Lib.hid (hB3.setCell (p := ⟨X, 2, none⟩) (Nat.le_refl _) (.int .i64 20))
    replace hL3 := Lib.hid hL3
    replace hz3 := Lib.hid hz3
    replace hf3 := Lib.hid hf3
    replace hB3 := Lib.hid hB3
    clear hn3 hL2 hf2 hz2 hB2 hb2 hlv hws
    cases lt with
    | false =>
      go_wp2_with (first | (go_at_call 66; refine (hlt.out _).mono ?_; rintro r w' ⟨rfl, rfl⟩))
      rw [Exit.noGoto_ret]
      refine bodyPost_ret (word_ret _ (by rfl) (put5_cell hz3.out _ _ _ _ _)) rfl ?_
      rw [hm.out, hml.out]
      exact ⟨_, _, _, _, _, _, _, rfl, below_put5 hB3.out (by omega) _ _ _ _ _, hL3.out.put5 (by omega) (by omega) _ _ _ _ _, fun _ => ⟨rfl, rfl, rfl, rfl⟩⟩
    | true =>
      go_wp2_with (first | (go_at_call 66; refine (hlt.out _).mono ?_; rintro r w' ⟨rfl, rfl⟩))
      refine hfl.out.mono ?_
      rintro r w' ⟨rfl, rfl⟩
      clear ck cf ff
      have ck := fun j => hff.out.cell j
      have cf := fun j => hzf.out.cell j
      have ff := fun j => hzf.out.free j
      unfold z5 at cf
      go_wp2_with fail
      rw [Exit.noGoto_ret]
      refine bodyPost_ret (word_ret _ (by rfl) (put5_cell hzf.out _ _ _ _ _)) rfl ?_
      rw [hm.out, hml.out]
      exact ⟨_, _, _, _, _, _, _, rfl, below_put5 hBf.out (by omega) _ _ _ _ _, hLf.out.put5 (by omega) (by omega) _ _ _ _ _, fun h => by simp at h⟩
  clear hb hK hHK hXK
  go_wp2_with fail

  -- round 1
  rw [rounds_succ]
  have c0a := fun o => (hW.lex.alloc o).c0
  have c1a := fun o => (hW.lex.alloc o).c1
  obtain ⟨K, hK⟩ : ∃ K, W1.heap.size = K := ⟨_, rfl⟩
  have hXK : X < K := hK ▸ hW.lex.blk.lt
  have hHK : H + 1 < K := by have := hW.f.lt; omega
  have ck := fun C t => (Blk.made W1 C t K hK).cell 0
  have hcv := fun (w : World) => run_bytes_of_string w 9 28 5 sFalse Tryz.underlying9 Tryz.underlying28 Tryz.underlying5
  have hpr1e := Lib.hid fun o8 cap fr => word_pre hW hK sFalse o8 cap fr
  obtain ⟨pr, hpr1⟩ : ∃ pr, pr = sFalse.data.toList.isPrefixOf (l.drop p) := ⟨_, rfl⟩
  rw [← hpr1] at hpr1e
  have hW1 := Lib.hid fun o8 o9 => ((hW.alloc o8).alloc o9).drewN 2
  have hb1 := Lib.hid fun C t o9 => ((Blk.made W1 C t K hK).kept ((Below.refl (K + 1) (W1.alloc (.cells C t))).alloc (by simp; omega) o9) (by omega)).drewN 2
  replace hpr1 := Lib.hid hpr1
  clear hW
  go_wp2_with fail
  apply region_oneA (W := W1) (o8 := .cells #[.string sFalse, .int .i64 7, .int .i64 0] 101)
  · go_region_law (go_simp; go_at_call 65; refine (hpr1e.out _ _ _).mono ?_; rintro r w' ⟨rfl, rfl⟩)
    all_goals exact ⟨rfl, _, rfl⟩
  intro o9
  have hW := hW1.out (.cells #[.string sFalse, .int .i64 7, .int .i64 0] 101) o9
  have hb := hb1.out #[.string sFalse, .int .i64 7, .int .i64 0] 101 o9
  clear c0a c1a ck hcv hpr1e hW1 hb1
  generalize ((W1.alloc (.cells #[.string sFalse, .int .i64 7, .int .i64 0] 101)).alloc o9).drewN 2 = W2 at hW hb ⊢
  clear o9
  cases pr
  rotate_left
  · have hzz := True.intro
    have c1a := hW.lex.c1
    have f1a := hW.lex.f 1
    have ck := fun j => hb.cell j
    have hlen : p + 5 ≤ l.length := (pre_len hpr1.out.symm).resolve_right (by decide)
    have hpb := hW.lex.big
    have hws : IntKind.i64.wrap ((p : Int) + ((sFalse.size : Nat) : Int)) = (p : Int) + 5 := by
      rw [show sFalse.size = 5 from rfl]
      simp [IntKind.wrap, IntKind.bits, IntKind.signed]; omega
    have hL2 := (hW.lex.setAt (p + 5) hlen).drewN 1
    have hb2 := (hb.other (setCell_grown _ X 1 (.int .i64 ((p + 5 : Nat) : Int))) (by simp; omega)).drewN 1
    have hz2 := (hW.z.other (setCell_grown _ X 1 (.int .i64 ((p + 5 : Nat) : Int))) (by simp; omega)).drewN 1
    have hf2 := (hW.f.other (setCell_grown _ X 1 (.int .i64 ((p + 5 : Nat) : Int))) (by simp; omega)).drewN 1
    have hB2 := below_drewN (hW.below.setCell (p := ⟨X, 1, none⟩) (Nat.le_refl _) (.int .i64 ((p + 5 : Nat) : Int))) 1
    rw [show ((p + 5 : Nat) : Int) = (p : Int) + 5 from by omega] at hL2 hb2 hz2 hf2 hB2
    rw [drewN_one] at hL2 hb2 hz2 hf2 hB2
    replace hL2 := Lib.hid hL2
    replace hb2 := Lib.hid hb2
    replace hf2 := Lib.hid hf2
    replace hz2 := Lib.hid hz2
    replace hB2 := Lib.hid hB2
    replace hws := Lib.hid hws
    clear hW hb hpb
    go_wp2_with fail
    apply region_one
    · go_region_law (fail)
      all_goals exact ⟨rfl, rfl⟩
    rw [hws.out]
    generalize (W2.setCell ⟨X, 1, none⟩ (.int .i64 ((p : Int) + 5))).drew = V at hL2 hb2 hf2 hz2 hB2 ⊢
    clear c1a f1a ck
    have ck := fun j => hb2.out.cell j
    have cf := fun j => hf2.out.cell j
    have ff := fun j => hf2.out.free j
    unfold z5 at cf
    go_wp2_with fail
    refine (peek_any (hL2.out.put5 (H := H + 1) (by omega) (by omega) _ _ _ _ _)).mono ?_
    rintro r w3 ⟨rfl, n3, hn3⟩
    have hL3 := (hL2.out.put5 (H := H + 1) (by omega) (by omega) (.int .i64 7) (.int .i64 0) (.string ⟨#[]⟩) (.int .i64 0) (.int .i64 0)).drewN n3
    have hf3 := (Blk.put5 hf2.out (.int .i64 7) (.int .i64 0) (.string ⟨#[]⟩) (.int .i64 0) (.int .i64 0)).drewN n3
    have hz3 := (Blk.far5 hz2.out (H' := H + 1) (by omega) (.int .i64 7) (.int .i64 0) (.string ⟨#[]⟩) (.int .i64 0) (.int .i64 0)).drewN n3
    have hB3 := below_drewN (below_put5 hB2.out (H := H + 1) (by omega) (.int .i64 7) (.int .i64 0) (.string ⟨#[]⟩) (.int .i64 0) (.int .i64 0)) n3
    rw [show (put5 V (H + 1) (.int .i64 7) (.int .i64 0) (.string ⟨#[]⟩) (.int .i64 0) (.int .i64 0)).drewN n3 = w3 from hn3.symm] at hL3 hf3 hz3 hB3
    have hml : mLet l p = if isLet (byteAt l (p + 5)) = true then ⟨20, 0, 0, [], 0⟩ else ⟨0, 7, 0, [], p + 5⟩ := by
      unfold mLet mNamed
      rw [if_neg (by rw [← hpr0.out]; exact Bool.false_ne_true), if_pos hpr1.out.symm]
    have hlt := Lib.hid fun w => letter_any (byteAt l (p + 5)) w
    obtain ⟨lt, hlv⟩ : ∃ lt, lt = isLet (byteAt l (p + 5)) := ⟨_, rfl⟩
    rw [← hlv] at hlt hml
    replace hml := Lib.hid hml
    have hfl := Lib.hid (fail_first hL3 20)
    have ck := fun j => hf3.cell j
    have cf := fun j => hz3.cell j
    have ff := fun j => hz3.free j
    unfold z5 at cf
    have hLf := Lib.hid (hL3.setE 20)
    have hzf := Lib.hid (hz3.other (setCell_grown _ X 2 (.int .i64 20)) (by simp; omega))
    have hff := Lib.hid (hf3.other (setCell_grown _ X 2 (.int .i64 20)) (by simp; omega))
    have hBf := Lib.hid (hB3.setCell (p := ⟨X, 2, none⟩) (Nat.le_refl _) (.int .i64 20))
    replace hL3 := Lib.hid hL3
    replace hz3 := Lib.hid hz3
    replace hf3 := Lib.hid hf3
    replace hB3 := Lib.hid hB3
    clear hn3 hL2 hf2 hz2 hB2 hb2 hlv hws
    cases lt with
    | false =>
      go_wp2_with (first | (go_at_call 66; refine (hlt.out _).mono ?_; rintro r w' ⟨rfl, rfl⟩))
      rw [Exit.noGoto_ret]
      refine bodyPost_ret (word_ret _ (by rfl) (put5_cell hz3.out _ _ _ _ _)) rfl ?_
      rw [hm.out, hml.out]
      exact ⟨_, _, _, _, _, _, _, rfl, below_put5 hB3.out (by omega) _ _ _ _ _, hL3.out.put5 (by omega) (by omega) _ _ _ _ _, fun _ => ⟨rfl, rfl, rfl, rfl⟩⟩
    | true =>
      go_wp2_with (first | (go_at_call 66; refine (hlt.out _).mono ?_; rintro r w' ⟨rfl, rfl⟩))
      refine hfl.out.mono ?_
      rintro r w' ⟨rfl, rfl⟩
      clear ck cf ff
      have ck := fun j => hff.out.cell j
      have cf := fun j => hzf.out.cell j
      have ff := fun j => hzf.out.free j
      unfold z5 at cf
      go_wp2_with fail
      rw [Exit.noGoto_ret]
      refine bodyPost_ret (word_ret _ (by rfl) (put5_cell hzf.out _ _ _ _ _)) rfl ?_
      rw [hm.out, hml.out]
      exact ⟨_, _, _, _, _, _, _, rfl, below_put5 hBf.out (by omega) _ _ _ _ _, hLf.out.put5 (by omega) (by omega) _ _ _ _ _, fun h => by simp at h⟩
  clear hb hK hHK hXK
  go_wp2_with fail

  -- round 2
  rw [rounds_succ]
  have c0a := fun o => (hW.lex.alloc o).c0
  have c1a := fun o => (hW.lex.alloc o).c1
  obtain ⟨K, hK⟩ : ∃ K, W2.heap.size = K := ⟨_, rfl⟩
  have hXK : X < K := hK ▸ hW.lex.blk.lt
  have hHK : H + 1 < K := by have := hW.f.lt; omega
  have ck := fun C t => (Blk.made W2 C t K hK).cell 0
  have hcv := fun (w : World) => run_bytes_of_string w 9 28 5 sNull Tryz.underlying9 Tryz.underlying28 Tryz.underlying5
  have hpr2e := Lib.hid fun o8 cap fr => word_pre hW hK sNull o8 cap fr
  obtain ⟨pr, hpr2⟩ : ∃ pr, pr = sNull.data.toList.isPrefixOf (l.drop p) := ⟨_, rfl⟩
  rw [← hpr2] at hpr2e
  have hW1 := Lib.hid fun o8 o9 => ((hW.alloc o8).alloc o9).drewN 2
  have hb1 := Lib.hid fun C t o9 => ((Blk.made W2 C t K hK).kept ((Below.refl (K + 1) (W2.alloc (.cells C t))).alloc (by simp; omega) o9) (by omega)).drewN 2
  replace hpr2 := Lib.hid hpr2
  clear hW
  go_wp2_with fail
  apply region_oneA (W := W2) (o8 := .cells #[.string sNull, .int .i64 8, .int .i64 0] 101)
  · go_region_law (go_simp; go_at_call 65; refine (hpr2e.out _ _ _).mono ?_; rintro r w' ⟨rfl, rfl⟩)
    all_goals exact ⟨rfl, _, rfl⟩
  intro o9
  have hW := hW1.out (.cells #[.string sNull, .int .i64 8, .int .i64 0] 101) o9
  have hb := hb1.out #[.string sNull, .int .i64 8, .int .i64 0] 101 o9
  clear c0a c1a ck hcv hpr2e hW1 hb1
  generalize ((W2.alloc (.cells #[.string sNull, .int .i64 8, .int .i64 0] 101)).alloc o9).drewN 2 = W3 at hW hb ⊢
  clear o9
  cases pr
  rotate_left
  · have hzz := True.intro
    have c1a := hW.lex.c1
    have f1a := hW.lex.f 1
    have ck := fun j => hb.cell j
    have hlen : p + 4 ≤ l.length := (pre_len hpr2.out.symm).resolve_right (by decide)
    have hpb := hW.lex.big
    have hws : IntKind.i64.wrap ((p : Int) + ((sNull.size : Nat) : Int)) = (p : Int) + 4 := by
      rw [show sNull.size = 4 from rfl]
      simp [IntKind.wrap, IntKind.bits, IntKind.signed]; omega
    have hL2 := (hW.lex.setAt (p + 4) hlen).drewN 1
    have hb2 := (hb.other (setCell_grown _ X 1 (.int .i64 ((p + 4 : Nat) : Int))) (by simp; omega)).drewN 1
    have hz2 := (hW.z.other (setCell_grown _ X 1 (.int .i64 ((p + 4 : Nat) : Int))) (by simp; omega)).drewN 1
    have hf2 := (hW.f.other (setCell_grown _ X 1 (.int .i64 ((p + 4 : Nat) : Int))) (by simp; omega)).drewN 1
    have hB2 := below_drewN (hW.below.setCell (p := ⟨X, 1, none⟩) (Nat.le_refl _) (.int .i64 ((p + 4 : Nat) : Int))) 1
    rw [show ((p + 4 : Nat) : Int) = (p : Int) + 4 from by omega] at hL2 hb2 hz2 hf2 hB2
    rw [drewN_one] at hL2 hb2 hz2 hf2 hB2
    replace hL2 := Lib.hid hL2
    replace hb2 := Lib.hid hb2
    replace hf2 := Lib.hid hf2
    replace hz2 := Lib.hid hz2
    replace hB2 := Lib.hid hB2
    replace hws := Lib.hid hws
    clear hW hb hpb
    go_wp2_with fail
    apply region_one
    · go_region_law (fail)
      all_goals exact ⟨rfl, rfl⟩
    rw [hws.out]
    generalize (W3.setCell ⟨X, 1, none⟩ (.int .i64 ((p : Int) + 4))).drew = V at hL2 hb2 hf2 hz2 hB2 ⊢
    clear c1a f1a ck
    have ck := fun j => hb2.out.cell j
    have cf := fun j => hf2.out.cell j
    have ff := fun j => hf2.out.free j
    unfold z5 at cf
    go_wp2_with fail
    refine (peek_any (hL2.out.put5 (H := H + 1) (by omega) (by omega) _ _ _ _ _)).mono ?_
    rintro r w3 ⟨rfl, n3, hn3⟩
    have hL3 := (hL2.out.put5 (H := H + 1) (by omega) (by omega) (.int .i64 8) (.int .i64 0) (.string ⟨#[]⟩) (.int .i64 0) (.int .i64 0)).drewN n3
    have hf3 := (Blk.put5 hf2.out (.int .i64 8) (.int .i64 0) (.string ⟨#[]⟩) (.int .i64 0) (.int .i64 0)).drewN n3
    have hz3 := (Blk.far5 hz2.out (H' := H + 1) (by omega) (.int .i64 8) (.int .i64 0) (.string ⟨#[]⟩) (.int .i64 0) (.int .i64 0)).drewN n3
    have hB3 := below_drewN (below_put5 hB2.out (H := H + 1) (by omega) (.int .i64 8) (.int .i64 0) (.string ⟨#[]⟩) (.int .i64 0) (.int .i64 0)) n3
    rw [show (put5 V (H + 1) (.int .i64 8) (.int .i64 0) (.string ⟨#[]⟩) (.int .i64 0) (.int .i64 0)).drewN n3 = w3 from hn3.symm] at hL3 hf3 hz3 hB3
    have hml : mLet l p = if isLet (byteAt l (p + 4)) = true then ⟨20, 0, 0, [], 0⟩ else ⟨0, 8, 0, [], p + 4⟩ := by
      unfold mLet mNamed
      rw [if_neg (by rw [← hpr0.out]; exact Bool.false_ne_true), if_neg (by rw [← hpr1.out]; exact Bool.false_ne_true), if_pos hpr2.out.symm]
    have hlt := Lib.hid fun w => letter_any (byteAt l (p + 4)) w
    obtain ⟨lt, hlv⟩ : ∃ lt, lt = isLet (byteAt l (p + 4)) := ⟨_, rfl⟩
    rw [← hlv] at hlt hml
    replace hml := Lib.hid hml
    have hfl := Lib.hid (fail_first hL3 20)
    have ck := fun j => hf3.cell j
    have cf := fun j => hz3.cell j
    have ff := fun j => hz3.free j
    unfold z5 at cf
    have hLf := Lib.hid (hL3.setE 20)
    have hzf := Lib.hid (hz3.other (setCell_grown _ X 2 (.int .i64 20)) (by simp; omega))
    have hff := Lib.hid (hf3.other (setCell_grown _ X 2 (.int .i64 20)) (by simp; omega))
    have hBf := Lib.hid (hB3.setCell (p := ⟨X, 2, none⟩) (Nat.le_refl _) (.int .i64 20))
    replace hL3 := Lib.hid hL3
    replace hz3 := Lib.hid hz3
    replace hf3 := Lib.hid hf3
    replace hB3 := Lib.hid hB3
    clear hn3 hL2 hf2 hz2 hB2 hb2 hlv hws
    cases lt with
    | false =>
      go_wp2_with (first | (go_at_call 66; refine (hlt.out _).mono ?_; rintro r w' ⟨rfl, rfl⟩))
      rw [Exit.noGoto_ret]
      refine bodyPost_ret (word_ret _ (by rfl) (put5_cell hz3.out _ _ _ _ _)) rfl ?_
      rw [hm.out, hml.out]
      exact ⟨_, _, _, _, _, _, _, rfl, below_put5 hB3.out (by omega) _ _ _ _ _, hL3.out.put5 (by omega) (by omega) _ _ _ _ _, fun _ => ⟨rfl, rfl, rfl, rfl⟩⟩
    | true =>
      go_wp2_with (first | (go_at_call 66; refine (hlt.out _).mono ?_; rintro r w' ⟨rfl, rfl⟩))
      refine hfl.out.mono ?_
      rintro r w' ⟨rfl, rfl⟩
      clear ck cf ff
      have ck := fun j => hff.out.cell j
      have cf := fun j => hzf.out.cell j
      have ff := fun j => hzf.out.free j
      unfold z5 at cf
      go_wp2_with fail
      rw [Exit.noGoto_ret]
      refine bodyPost_ret (word_ret _ (by rfl) (put5_cell hzf.out _ _ _ _ _)) rfl ?_
      rw [hm.out, hml.out]
      exact ⟨_, _, _, _, _, _, _, rfl, below_put5 hBf.out (by omega) _ _ _ _ _, hLf.out.put5 (by omega) (by omega) _ _ _ _ _, fun h => by simp at h⟩
  clear hb hK hHK hXK
  go_wp2_with fail

  rw [rounds_succ]
  have hml : mLet l p = ⟨20, 0, 0, [], 0⟩ := by
    unfold mLet mNamed
    rw [if_neg (by rw [← hpr0.out]; exact Bool.false_ne_true), if_neg (by rw [← hpr1.out]; exact Bool.false_ne_true), if_neg (by rw [← hpr2.out]; exact Bool.false_ne_true)]
  replace hml := Lib.hid hml
  have hfl := Lib.hid (fail_first hW.lex 20)
  have cf := fun j => hW.f.cell j
  have hLf := Lib.hid (hW.lex.setE 20)
  have hff := Lib.hid (hW.f.other (setCell_grown _ X 2 (.int .i64 20)) (by have := hW.lex.blk.lt; simp; have := hW.lex.hXB; omega))
  have hzf := Lib.hid (hW.z.other (setCell_grown _ X 2 (.int .i64 20)) (by simp; omega))
  have hBf := Lib.hid (hW.below.setCell (p := ⟨X, 2, none⟩) (Nat.le_refl _) (.int .i64 20))
  unfold z5 at cf
  clear hW i0 i1 i2 hsl
  go_wp2_with fail
  refine hfl.out.mono ?_
  rintro r w' ⟨rfl, rfl⟩
  clear cf
  have ck := fun j => hff.out.cell j
  have cf := fun j => hzf.out.cell j
  have ff := fun j => hzf.out.free j
  unfold z5 at cf ck
  go_wp2_with fail
  rw [Exit.noGoto_ret]
  refine bodyPost_ret (word_ret _ (by rfl) (put5_cell hzf.out _ _ _ _ _)) rfl ?_
  rw [hm.out, hml.out]
  exact ⟨_, _, _, _, _, _, _, rfl, below_put5 hBf.out (by omega) _ _ _ _ _, hLf.out.put5 (by omega) (by omega) _ _ _ _ _, fun h => by simp at h⟩

theorem word_any (h : Lex w X B a b off c l p 0 nilB []) (hp : p < l.length) :
    Calls Tryz.prog 51 #[.pointer (some ⟨X, 0, none⟩), .int .u8 ((byteAt l p).toNat : Int)] w (WPost w X a b off c l p) := by
  by_cases h1 : signOf (byteAt l p) ≠ 0
  · exact word_sign h hp h1
  by_cases h2 : (byteAt l p).toNat = 34
  · exact word_quote h hp h2
  by_cases h3 : (byteAt l p).toNat = 45 ∨ isDig (byteAt l p) = true
  · exact word_number h hp h3
  exact word_letters h hp (by omega) h2 h3

end Go.Proofs.YticfioblapjkmaaGreat
