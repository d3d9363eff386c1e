/- The parser's state; take, fail, want. -/
import Derived.Test.YtmembanbemljoaaJm
import Derived.Test.YtmembanbemljoaaLexv
import Derived.Deep.CutRange
namespace Go.Proofs.Ytmembanbemljoaa
open Go.RowKit
set_option linter.unusedVariables false
set_option linter.unusedSimpArgs false

/-- The parser at block X: its place, its refusal; whatever its last word was. -/
def Par (W : World) (X : Nat) (bv : Value) (p e k n : Int) (s : ByteArray) (at_ nx : Int) : Prop :=
  Blk W X #[bv, .int .i64 p, .int .i64 e, .int .i64 k, .int .i64 n, .string s, .int .i64 at_, .int .i64 nx] 88
def Any (W : World) (X : Nat) (bv : Value) (p e : Int) : Prop := ∃ k n s at_ nx, Par W X bv p e k n s at_ nx
def Bad (W : World) (X : Nat) (bv : Value) (e : Nat) : Prop := e ≠ 0 ∧ ∃ p, Any W X bv p (e : Int)
def Good (W : World) (X : Nat) (bv : Value) (m : MT) : Prop := Par W X bv (m.nx : Int) 0 (m.k : Int) m.n (str m.s) (m.at_ : Int) (m.nx : Int)
/-- The parser has just taken the word m. -/
def Took (W : World) (X : Nat) (bv : Value) (m : MT) : Prop := (m.e = 0 ∧ Good W X bv m) ∨ (m.k = 0 ∧ Bad W X bv m.e)
/-- Its bytes. -/
structure PEnv (W : World) (X : Nat) (a : Option Addr) (b off c : Nat) (l : List UInt8) : Prop where
  bytes : BytesAt W a b off l
  apart : l ≠ [] → b < X
  len : l.length ≤ c
  big : l.length ≤ 1000000
  nil : a = none → c = 0
variable {W W' : World} {X : Nat} {a : Option Addr} {b off c : Nat} {l : List UInt8}
theorem PEnv.near (h : PEnv W X a b off c l) {B : Nat} (hn : Near X B W W') : PEnv W' X a b off c l := ⟨h.bytes.keep hn.below h.apart, h.apart, h.len, h.big, h.nil⟩
theorem PEnv.below (h : PEnv W X a b off c l) {B : Nat} (hn : Below B W W') (hX : X ≤ B) : PEnv W' X a b off c l := ⟨h.bytes.keep hn (fun hh => by have := h.apart hh; omega), h.apart, h.len, h.big, h.nil⟩
theorem Near.later {X B B' : Nat} {w w1 w2 : World} (h : Near X B w w1) (h' : Near X B' w1 w2) (hB : B ≤ B') : Near X B w w2 := ⟨h.below.trans h'.below, fun k h1 h2 => (h'.far k (by omega) h2).trans (h.far k h1 h2)⟩

theorem Near.put5 {X B H : Nat} {w w1 : World} (h : Near X B w w1) (hX : X ≤ B) (hB : B ≤ H) (v0 v1 v2 v3 v4 : Value) : Near X B w (put5 w1 H v0 v1 v2 v3 v4) :=
  h.on (below_put5 (Below.refl B w1) hB v0 v1 v2 v3 v4) hX
theorem Near.ofBelow {X B : Nat} {w w1 : World} (h : Below B w w1) (hX : X ≤ B) : Near X B w w1 := ⟨h.mono hX, fun k h1 _ => h.block k h1⟩

theorem Blk.offX {w : World} {X Y : Nat} {C : Array Value} {T : TypeId} (h : Blk w Y C T) (hne : Y ≠ X) (j : Nat) (v : Value) : Blk (w.setCell ⟨X, j, none⟩ v) Y C T :=
  h.other (setCell_grown _ X j v) (by simpa using hne)
def put6 (w : World) (X : Nat) (k n : Int) (s : ByteArray) (at_ nx : Int) : World :=
  ((((((w.setCell ⟨X, 3, none⟩ (.int .i64 k)).setCell ⟨X, 4, none⟩ (.int .i64 n)).setCell ⟨X, 5, none⟩ (.string s)).setCell ⟨X, 6, none⟩ (.int .i64 at_)).setCell ⟨X, 7, none⟩ (.int .i64 nx)).setCell ⟨X, 1, none⟩ (.int .i64 nx)).drew
theorem Par.put6 {w : World} {X : Nat} {bv : Value} {p e k n : Int} {s : ByteArray} {at_ nx : Int} (h : Par w X bv p e k n s at_ nx) (k' n' : Int) (s' : ByteArray) (a' x' : Int) : Par (Go.Proofs.Ytmembanbemljoaa.put6 w X k' n' s' a' x') X bv x' e k' n' s' a' x' :=
  ((((((Blk.set (C := #[bv, .int .i64 p, .int .i64 e, .int .i64 k, .int .i64 n, .string s, .int .i64 at_, .int .i64 nx]) h 3 (.int .i64 k')).set 4 (.int .i64 n')).set 5 (.string s')).set 6 (.int .i64 a')).set 7 (.int .i64 x')).set 1 (.int .i64 x')).drewN 1
theorem Blk.put6 {w : World} {X Y : Nat} {C : Array Value} {T : TypeId} (h : Blk w Y C T) (hne : Y ≠ X) (k' n' : Int) (s' : ByteArray) (a' x' : Int) : Blk (Go.Proofs.Ytmembanbemljoaa.put6 w X k' n' s' a' x') Y C T :=
  ((((((h.offX hne 3 _).offX hne 4 _).offX hne 5 _).offX hne 6 _).offX hne 7 _).offX hne 1 _).drewN 1
theorem Near.put6 {X B : Nat} {w w1 : World} (h : Near X B w w1) (k' n' : Int) (s' : ByteArray) (a' x' : Int) : Near X B w (Go.Proofs.Ytmembanbemljoaa.put6 w1 X k' n' s' a' x') :=
  ((((((h.setX 3 _).setX 4 _).setX 5 _).setX 6 _).setX 7 _).setX 1 _).drew
theorem Par.keep {W W' : World} {X : Nat} {bv : Value} {p e k n : Int} {s : ByteArray} {at_ nx : Int} (h : Par W X bv p e k n s at_ nx) (hs : W'.heap[X]? = W.heap[X]?) : Par W' X bv p e k n s at_ nx := hs.trans h

set_option maxRecDepth 100000 in
set_option maxHeartbeats 2000000 in
theorem ptake_any (hE : PEnv W X a b off c l) {p : Nat} (hp : p ≤ l.length) (hs : Any W X (.slice a l.length c) (p : Int) 0) :
    Calls Try.prog 51 #[.pointer (some ⟨X, 0, none⟩)] W fun r W' => r = .returned (.int .i64 ((mTakeN l p).k : Int)) ∧ Near X W.heap.size W W' ∧ Took W' X (.slice a l.length c) (mTakeN l p) := by
  obtain ⟨k0, n0, s0, a0, x0, hP⟩ := hs
  have hXs := hP.lt
  obtain ⟨H, hH⟩ : ∃ H, W.heap.size = H := ⟨_, rfl⟩
  rw [hH] at hXs ⊢
  have hkd := take_kinds hp
  obtain ⟨m, hm⟩ : ∃ m, m = mTakeN l p := ⟨_, rfl⟩
  have htk : ∀ W1, Below H W W1 → Calls Try.prog 24 #[.slice a l.length c, .int .i64 (p : Int)] W1 fun r w' => r = .returned (.tuple #[.agg #[.int .i64 (m.k : Int), .int .i64 m.n, .string (str m.s), .int .i64 (m.at_ : Int), .int .i64 (m.nx : Int)], .int .i64 (m.e : Int)]) ∧ Below W1.heap.size W1 w' := by
    intro W1 hB
    have hE1 := hE.below hB (by omega)
    have := take_any (w := W1) hE1.bytes (fun hne => by have := hE1.apart hne; have := hB.size; omega) hE1.len (by have := hE1.big; omega) hE1.nil (p : Int)
    rw [show mTake l (p : Int) = m from by rw [hm]; unfold mTake; rw [if_neg (by omega)]; rfl] at this
    exact this
  rw [← hm] at hkd ⊢
  obtain ⟨eI, heI⟩ : ∃ eI : Int, eI = (m.e : Int) := ⟨_, rfl⟩
  rw [← heI] at htk
  replace heI := Lib.hid heI
  replace htk := Lib.hid htk
  have hB0 : Below H W W.drew := (Below.refl H W).drew
  have hB1 := Lib.hid fun o => ((Below.refl H W).alloc (by omega) o).drew
  have c0 := hP.cell 0
  have c1 := hP.cell 1
  have c2 := hP.cell 2
  have k0a := fun o => (hP.kept ((Below.refl H W).alloc (by omega) o) hXs).cell 0
  have k1a := fun o => (hP.kept ((Below.refl H W).alloc (by omega) o) hXs).cell 1
  have hz0 : Blk ((W.alloc (.cells #[.int .i64 0, .int .i64 0, .string ⟨#[]⟩, .int .i64 0, .int .i64 0] 36)).drew) H #[.int .i64 0, .int .i64 0, .string ⟨#[]⟩, .int .i64 0, .int .i64 0] 36 := Blk.made W _ _ H hH
  replace hz0 := Lib.hid hz0
  replace hkd := Lib.hid hkd
  replace hP := Lib.hid hP
  clear hE hm hp
  go_enter Try.func51, Try.ntmps51
  go_wp2_with fail
  go_cut [3, 4] from 10 to 21 (fun v3 v4 W1 => ∃ H3, v3 = .pointer (some ⟨H3, 0, none⟩) ∧ v4 = .int .i64 eI ∧ H ≤ H3 ∧ Blk W1 H3 #[.int .i64 (m.k : Int), .int .i64 m.n, .string (str m.s), .int .i64 (m.at_ : Int), .int .i64 (m.nx : Int)] 36 ∧ Below H W W1)
  case first =>
    go_region_law (go_simp; go_at_call 24; refine (htk.out _ (by first | exact hB0 | exact hB1.out _)).mono ?_; rintro r w1 ⟨rfl, hb1⟩; obtain ⟨Y, hY⟩ : ∃ Y, w1.heap.size = Y := ⟨_, rfl⟩; first | (have hzz := hz0.out.kept hb1 (by simp; omega); have zc := fun j => hzz.cell j; have zf := fun j => hzz.free j) | skip)
    all_goals
      go_wp2_with fail
      go_meet
      case rel =>
        have hz := hb1.size
        rw [hY] at hz
        first
          | exact ⟨H, rfl, rfl, Nat.le_refl _, Blk.put5 hzz _ _ _ _ _, below_put5 ((hB1.out _).trans (hb1.mono (by simp; omega))) (Nat.le_refl _) _ _ _ _ _⟩
          | exact ⟨Y, rfl, rfl, (by simp [hH] at hz; omega), Blk.made w1 _ _ Y hY, (hB0.trans (hb1.mono (by show H ≤ W.heap.size; omega))).alloc (by simp [hH] at hz; omega) _⟩
  case rest =>
    obtain ⟨H3, rfl, rfl, hH3, hZ, hBw⟩ := hcut
    have hPc := hP.out.kept hBw hXs
    have d0 := hZ.cell 0
    have d1 := hZ.cell 1
    have d2 := hZ.cell 2
    have d3 := hZ.cell 3
    have d4 := hZ.cell 4
    have f1 := hPc.free 1
    have f2 := hPc.free 2
    have f3 := hPc.free 3
    have f4 := hPc.free 4
    have f5 := hPc.free 5
    have f6 := hPc.free 6
    have f7 := hPc.free 7
    have p1 := hPc.cell 1
    have p2 := hPc.cell 2
    have p3 := hPc.cell 3
    have p4 := hPc.cell 4
    have p5 := hPc.cell 5
    have p6 := hPc.cell 6
    have p7 := hPc.cell 7
    have hXH : X ≠ H3 := by omega
    have hN := Near.ofBelow hBw (by omega : X ≤ H)
    replace hPc := Lib.hid hPc
    replace hZ := Lib.hid hZ
    replace hN := Lib.hid hN
    clear c0 c1 c2 k0a k1a hz0 hB1 hB0 htk hBw hP
    by_cases he : m.e = 0
    · obtain rfl : eI = 0 := by rw [heI.out, he]; rfl
      replace he := Lib.hid he
      go_wp2_with fail
      go_cut [] from 28 to 36 (fun W2 => Par W2 X (.slice a l.length c) (m.nx : Int) 0 (m.k : Int) m.n (str m.s) (m.at_ : Int) (m.nx : Int) ∧ Blk W2 H3 #[.int .i64 (m.k : Int), .int .i64 m.n, .string (str m.s), .int .i64 (m.at_ : Int), .int .i64 (m.nx : Int)] 36 ∧ Near X H W W2)
      case first =>
        go_region_law (fail)
        all_goals
          go_wp2_with fail
          go_meet
          case rel =>
            exact ⟨Par.put6 hPc.out _ _ _ _ _, hZ.out.put6 (fun e => hXH e.symm) _ _ _ _ _, hN.out.put6 _ _ _ _ _⟩
      case rest =>
        obtain ⟨hP2, hZ2, hN2⟩ := hcut
        have g0 := hZ2.cell 0
        replace hP2 := Lib.hid hP2
        replace hN2 := Lib.hid hN2
        clear hZ2 d0 d1 d2 d3 d4 f1 f2 f3 f4 f5 f6 f7 p1 p2 p3 p4 p5 p6 p7 hN hZ hPc
        go_wp2_with fail
        go_ret
        exact ⟨rfl, hN2.out, .inl ⟨he.out, hP2.out⟩⟩
    · have hez : (eI == 0) = false := by rw [heI.out]; simp; omega
      have hk0 : m.k = 0 := by have := hkd.out; omega
      replace hk0 := Lib.hid hk0
      go_wp2_with fail
      go_ret
      exact ⟨by rw [hk0.out]; rfl, hN.out.setX 2 _, .inr ⟨hk0.out, he, (p : Int), k0, n0, s0, a0, x0, by have := hPc.out.set 2 (.int .i64 eI); rw [heI.out] at this ⊢; exact this⟩⟩

end Go.Proofs.Ytmembanbemljoaa
