/- The lexer's state in memory, and its smallest methods. -/
import Derived.Test.YticfioblapjkmaaGreatOwn
import Derived.Test.YticfioblapjkmaaGreatU0
import Derived.Deep.QuietTactic
import Derived.BigQuiet
import Derived.Deep.RegionHeld3
namespace Go.Proofs.YticfioblapjkmaaGreat
open Go.RowKit
set_option linter.unusedVariables false
set_option linter.unusedSimpArgs false

/-- A block of four cells. -/
def Blk (w : World) (X : Nat) (C : Array Value) (T : TypeId) : Prop := w.heap[X]? = some (.cells C T (0, 0))
theorem Blk.cell {w : World} {X : Nat} {C : Array Value} {T : TypeId} (h : Blk w X C T) (j : Nat) : w.cell? ⟨X, j, none⟩ = C[j]? := by
  unfold World.cell?
  rw [show w.heap[({ block := X, off := j } : Addr).block]? = some (.cells C T (0, 0)) from h]
  simp
theorem Blk.free {w : World} {X : Nat} {C : Array Value} {T : TypeId} (h : Blk w X C T) (j : Nat) : w.frozen? ⟨X, j, none⟩ = false := by
  unfold World.frozen?
  rw [show w.heap[({ block := X, off := j } : Addr).block]? = some (.cells C T (0, 0)) from h]
  simp
theorem Blk.lt {w : World} {X : Nat} {C : Array Value} {T : TypeId} (h : Blk w X C T) : X < w.heap.size := by
  rcases Nat.lt_or_ge X w.heap.size with h' | h'
  · exact h'
  · unfold Blk at h; rw [Array.getElem?_eq_none h'] at h; simp at h
theorem Blk.made (w : World) (C : Array Value) (T : TypeId) (X : Nat) (hX : w.heap.size = X) : Blk (w.alloc (.cells C T)) X C T := by
  subst hX
  exact heap_alloc_new w _
theorem Blk.set {w : World} {X : Nat} {C : Array Value} {T : TypeId} (h : Blk w X C T) (j : Nat) (v : Value) : Blk (w.setCell ⟨X, j, none⟩ v) X (C.setIfInBounds j v) T :=
  heap_setCell_same w X j C T v h
theorem Blk.kept {w w' : World} {X : Nat} {C : Array Value} {T : TypeId} (h : Blk w X C T) {B : Nat} (hb : Below B w w') (hX : X < B) : Blk w' X C T := (hb.block X hX).trans h
theorem Blk.other {w w' : World} {X : Nat} {C : Array Value} {T : TypeId} (h : Blk w X C T) {row : Option Nat} (hg : w.grownBy w' row) (hX : some X ≠ row) : Blk w' X C T := (hg.block X h.lt hX).trans h
theorem Blk.drewN {w : World} {X : Nat} {C : Array Value} {T : TypeId} (h : Blk w X C T) (n : Nat) : Blk (w.drewN n) X C T := h

theorem setCell_below (w : World) (X j : Nat) (v : Value) : Below X w (w.setCell ⟨X, j, none⟩ v) :=
  (Below.refl X w).setCell (Nat.le_refl _) v
/-- Nothing below B is changed but the block X. -/
structure Near (X B : Nat) (w w' : World) : Prop where
  below : Below X w w'
  far : ∀ k, k < B → k ≠ X → w'.heap[k]? = w.heap[k]?
theorem Near.refl (X B : Nat) (w : World) : Near X B w w := ⟨Below.refl X w, fun _ _ _ => rfl⟩
theorem Near.trans {X B : Nat} {w w1 w2 : World} (h : Near X B w w1) (h' : Near X B w1 w2) : Near X B w w2 :=
  ⟨h.below.trans h'.below, fun k h1 h2 => (h'.far k h1 h2).trans (h.far k h1 h2)⟩
theorem Near.setX {X B : Nat} {w w1 : World} (h : Near X B w w1) (j : Nat) (v : Value) : Near X B w (w1.setCell ⟨X, j, none⟩ v) :=
  ⟨h.below.setCell (Nat.le_refl _) v, fun k h1 h2 => (Below.heap_setCell _ _ _ _ (by intro e; subst e; exact h2 rfl)).trans (h.far k h1 h2)⟩
theorem Near.on {X B : Nat} {w w1 w2 : World} (h : Near X B w w1) (hb : Below B w1 w2) (hX : X ≤ B) : Near X B w w2 :=
  ⟨h.below.trans (hb.mono hX), fun k h1 h2 => (hb.block k h1).trans (h.far k h1 h2)⟩
theorem Near.drew {X B : Nat} {w w1 : World} (h : Near X B w w1) : Near X B w w1.drew := ⟨h.below.drew, h.far⟩
theorem Near.alloc {X B : Nat} {w w1 : World} (h : Near X B w w1) (hX : X ≤ B) (hs : B ≤ w1.heap.size) (o : Obj) : Near X B w (w1.alloc o) := h.on ((Below.refl B w1).alloc hs o) hX
theorem near_drewN {X B : Nat} {w w1 : World} (h : Near X B w w1) (n : Nat) : Near X B w (w1.drewN n) := ⟨below_drewN h.below n, h.far⟩
/-- The lexer at block X: the bytes l, the place, the refusal, the text under way. -/
structure Lex (w : World) (X B : Nat) (a : Option Addr) (b off c : Nat) (l : List UInt8) (p : Nat) (e : Int) (tv : Value) (T : List UInt8) : Prop where
  blk : Blk w X #[.slice a l.length c, .int .i64 (p : Int), .int .i64 e, tv] 89
  bytes : BytesAt w a b off l
  apart : l ≠ [] → b < X
  own : OwnB w B tv T
  len : l.length ≤ c
  big : l.length ≤ 140737488351232
  pos : p ≤ l.length
  nil : a = none → c = 0
  hXB : X < B
  hBs : B ≤ w.heap.size
variable {w : World} {X B : Nat} {a : Option Addr} {b off c : Nat} {l : List UInt8} {p : Nat} {e : Int} {tv : Value} {T : List UInt8}
theorem Lex.hX (h : Lex w X B a b off c l p e tv T) : X ≤ B := Nat.le_of_lt h.hXB
theorem Lex.c0 (h : Lex w X B a b off c l p e tv T) : w.cell? ⟨X, 0, none⟩ = some (.slice a l.length c) := h.blk.cell 0
theorem Lex.c1 (h : Lex w X B a b off c l p e tv T) : w.cell? ⟨X, 1, none⟩ = some (.int .i64 (p : Int)) := h.blk.cell 1
theorem Lex.c2 (h : Lex w X B a b off c l p e tv T) : w.cell? ⟨X, 2, none⟩ = some (.int .i64 e) := h.blk.cell 2
theorem Lex.c3 (h : Lex w X B a b off c l p e tv T) : w.cell? ⟨X, 3, none⟩ = some tv := h.blk.cell 3
theorem Lex.f (h : Lex w X B a b off c l p e tv T) (j : Nat) : w.frozen? ⟨X, j, none⟩ = false := h.blk.free j
theorem Lex.drewN (h : Lex w X B a b off c l p e tv T) (n : Nat) : Lex (w.drewN n) X B a b off c l p e tv T :=
  ⟨h.blk, h.bytes.drewN n, h.apart, h.own, h.len, h.big, h.pos, h.nil, h.hXB, h.hBs⟩
theorem own_other {w w' : World} {base : Nat} {v : Value} {l : List UInt8} (h : OwnB w base v l) {X : Nat} (hX : X < base) (hg : w.grownBy w' (some X)) : OwnB w' base v l :=
  World.ownsRow.kept h hg (.inr (h.far hX))
theorem setCell_grown (w : World) (X j : Nat) (v : Value) : w.grownBy (w.setCell ⟨X, j, none⟩ v) (some X) :=
  ⟨rfl, rfl, rfl, by simp [World.setCell], fun k hk hne => Below.heap_setCell _ _ _ _ (by intro e; subst e; exact hne rfl)⟩
theorem drew2 (w : World) (n m : Nat) : (w.drewN n).drewN m = w.drewN (n + m) := by
  unfold World.drewN
  simp [Nat.add_assoc]
/-- The place moved on. -/
theorem Lex.setAt (h : Lex w X B a b off c l p e tv T) (p' : Nat) (hp : p' ≤ l.length) : Lex (w.setCell ⟨X, 1, none⟩ (.int .i64 (p' : Int))) X B a b off c l p' e tv T :=
  ⟨h.blk.set 1 _, h.bytes.keep (setCell_below w X 1 _) h.apart, h.apart, own_other h.own h.hXB (setCell_grown w X 1 _), h.len, h.big, hp, h.nil, h.hXB, by simpa using h.hBs⟩
theorem Lex.setE (h : Lex w X B a b off c l p e tv T) (e' : Int) : Lex (w.setCell ⟨X, 2, none⟩ (.int .i64 e')) X B a b off c l p e' tv T :=
  ⟨h.blk.set 2 _, h.bytes.keep (setCell_below w X 2 _) h.apart, h.apart, own_other h.own h.hXB (setCell_grown w X 2 _), h.len, h.big, h.pos, h.nil, h.hXB, by simpa using h.hBs⟩
theorem Lex.idx (h : Lex w X B a b off c l p e tv T) (i : Nat) (W : World) (h1 : i < l.length) :
    (Instr.indexAt 28 (.slice a l.length c) (.int .i64 (i : Int))).run Tryz.prog W = .ok (.pointer (some ⟨b, off + i, none⟩)) W := by
  have := h.bytes.idx l.length c rfl (i : Int) W (by omega) (by omega)
  rwa [Int.toNat_natCast] at this

set_option maxRecDepth 100000 in
set_option maxHeartbeats 400000 in
theorem peek_any (h : Lex w X B a b off c l p e tv T) :
    Calls Tryz.prog 67 #[.pointer (some ⟨X, 0, none⟩)] w fun r w' => r = .returned (.int .u8 ((byteAt l p).toNat : Int)) ∧ ∃ n, w' = w.drewN n := by
  have c0 := h.c0
  have c1 := h.c1
  have hm := h.big
  have hp := h.pos
  by_cases hlt : p < l.length
  · have hb := h.bytes.2 p hlt
    have hi := fun W => h.idx p W hlt
    have hlt' : (p : Int) < (l.length : Int) := by omega
    have e : byteAt l p = l[p]?.getD 0 := rfl
    rw [← e] at hb
    clear e h
    go_enter Tryz.func67, Tryz.ntmps67
    go_wp2
    go_quiet (fail)
    go_wp2
    go_quiet (fail)
    go_wp2
    go_ret
    exact ⟨rfl, _, drew2 _ _ _⟩
  · have hge : (l.length : Int) ≤ (p : Int) := by omega
    have e : byteAt l p = 0 := by unfold byteAt; rw [List.getElem?_eq_none (by omega)]; rfl
    rw [e]
    clear e h
    go_enter Tryz.func67, Tryz.ntmps67
    go_wp2
    go_quiet (fail)
    go_wp2
    go_ret
    exact ⟨rfl, _, rfl⟩

set_option maxRecDepth 100000 in
set_option maxHeartbeats 400000 in
/-- 'fail' where nothing was refused. -/
theorem fail_first (h : Lex w X B a b off c l p 0 tv T) (e' : Int) :
    Calls Tryz.prog 68 #[.pointer (some ⟨X, 0, none⟩), .int .i64 e'] w fun r w' => r = .returned (.tuple #[]) ∧ w' = w.setCell ⟨X, 2, none⟩ (.int .i64 e') := by
  have c2 := h.c2
  have f2 := h.f 2
  clear h
  go_enter Tryz.func68, Tryz.ntmps68
  go_wp2
  go_end0
  exact ⟨rfl, rfl⟩

/-- Is a byte a digit? -/
def isDig (c : UInt8) : Bool := decide (48 ≤ c.toNat ∧ c.toNat ≤ 57)
def isLet (c : UInt8) : Bool := decide (48 ≤ c.toNat ∧ c.toNat ≤ 57 ∨ 97 ≤ c.toNat ∧ c.toNat ≤ 122 ∨ 65 ≤ c.toNat ∧ c.toNat ≤ 90)

set_option maxRecDepth 100000 in
set_option maxHeartbeats 400000 in
theorem digit_any (c : UInt8) (w : World) :
    Calls Tryz.prog 62 #[.int .u8 (c.toNat : Int)] w fun r w' => r = .returned (.bool (isDig c)) ∧ w = w' := by
  have hc : c.toNat < 256 := c.toNat_lt
  have hd : isDig c = decide (48 ≤ c.toNat ∧ c.toNat ≤ 57) := rfl
  obtain ⟨x, hx⟩ : ∃ x, x = c.toNat := ⟨_, rfl⟩
  rw [← hx] at hc hd ⊢
  clear hx
  by_cases h1 : 48 ≤ x
  · by_cases h2 : x ≤ 57
    · rw [hd, show decide (48 ≤ x ∧ x ≤ 57) = true from by simp; omega]
      clear hd
      have h3 : decide ((x : Int) ≤ 57) = true := by simp; omega
      go_enter Tryz.func62, Tryz.ntmps62
      go_wp2
      go_ret
      exact ⟨rfl, rfl⟩
    · rw [hd, show decide (48 ≤ x ∧ x ≤ 57) = false from by simp; omega]
      clear hd
      have h3 : decide ((x : Int) ≤ 57) = false := by simp; omega
      go_enter Tryz.func62, Tryz.ntmps62
      go_wp2
      go_ret
      exact ⟨rfl, rfl⟩
  · rw [hd, show decide (48 ≤ x ∧ x ≤ 57) = false from by simp; omega]
    clear hd
    have h3 : decide ((48 : Int) ≤ (x : Int)) = false := by simp; omega
    go_enter Tryz.func62, Tryz.ntmps62
    go_wp2
    go_ret
    exact ⟨rfl, rfl⟩

/-- As isDig, isLet, over the number alone. -/
theorem isLet_eq (c : UInt8) : isLet c = (isDig c || (decide (97 ≤ c.toNat ∧ c.toNat ≤ 122) || decide (65 ≤ c.toNat ∧ c.toNat ≤ 90))) := by
  unfold isLet isDig
  simp [Bool.decide_or]

set_option maxRecDepth 100000 in
set_option maxHeartbeats 800000 in
theorem letter_any (c : UInt8) (w : World) :
    Calls Tryz.prog 66 #[.int .u8 (c.toNat : Int)] w fun r w' => r = .returned (.bool (isLet c)) ∧ w = w' := by
  have hc : c.toNat < 256 := c.toNat_lt
  have hl := isLet_eq c
  have hdig := digit_any c w
  obtain ⟨x, hx⟩ : ∃ x, x = c.toNat := ⟨_, rfl⟩
  have hd : isDig c = decide (48 ≤ x ∧ x ≤ 57) := by rw [hx]; rfl
  rw [← hx] at hc hl hdig ⊢
  clear hx
  replace hdig := Lib.hid hdig
  by_cases h1 : 48 ≤ x ∧ x ≤ 57
  · have hd1 : isDig c = true := by rw [hd]; simp; exact h1
    have hl1 : isLet c = true := by rw [hl, hd1]; rfl
    rw [hl1]
    clear hl hl1 hd h1
    go_enter Tryz.func66, Tryz.ntmps66
    go_wp2_with (go_at_call 62; refine hdig.out.mono ?_; rintro r w' ⟨rfl, rfl⟩)
    go_ret
    exact ⟨rfl, rfl⟩
  · have hd1 : isDig c = false := by rw [hd]; simp; omega
    have hl1 : isLet c = (decide (97 ≤ x ∧ x ≤ 122) || decide (65 ≤ x ∧ x ≤ 90)) := by rw [hl, hd1]; rfl
    clear hl hd
    by_cases h2 : 97 ≤ x
    · by_cases h3 : x ≤ 122
      · rw [hl1, show (decide (97 ≤ x ∧ x ≤ 122) || decide (65 ≤ x ∧ x ≤ 90)) = true from by simp; omega]
        clear hl1 h1
        have q2 : decide ((x : Int) ≤ 122) = true := by simp; omega
        go_enter Tryz.func66, Tryz.ntmps66
        go_wp2_with (go_at_call 62; refine hdig.out.mono ?_; rintro r w' ⟨rfl, rfl⟩)
        go_ret
        exact ⟨rfl, rfl⟩
      · rw [hl1, show (decide (97 ≤ x ∧ x ≤ 122) || decide (65 ≤ x ∧ x ≤ 90)) = false from by simp; omega]
        clear hl1 h1
        have q2 : decide ((x : Int) ≤ 122) = false := by simp; omega
        have q3 : decide ((x : Int) ≤ 90) = false := by simp; omega
        go_enter Tryz.func66, Tryz.ntmps66
        go_wp2_with (go_at_call 62; refine hdig.out.mono ?_; rintro r w' ⟨rfl, rfl⟩)
        go_ret
        exact ⟨rfl, rfl⟩
    · have q1 : decide ((97 : Int) ≤ (x : Int)) = false := by simp; omega
      by_cases h4 : 65 ≤ x
      · by_cases h5 : x ≤ 90
        · rw [hl1, show (decide (97 ≤ x ∧ x ≤ 122) || decide (65 ≤ x ∧ x ≤ 90)) = true from by simp; omega]
          clear hl1 h1
          have q2 : decide ((x : Int) ≤ 90) = true := by simp; omega
          go_enter Tryz.func66, Tryz.ntmps66
          go_wp2_with (go_at_call 62; refine hdig.out.mono ?_; rintro r w' ⟨rfl, rfl⟩)
          go_ret
          exact ⟨rfl, rfl⟩
        · rw [hl1, show (decide (97 ≤ x ∧ x ≤ 122) || decide (65 ≤ x ∧ x ≤ 90)) = false from by simp; omega]
          clear hl1 h1
          have q2 : decide ((x : Int) ≤ 90) = false := by simp; omega
          go_enter Tryz.func66, Tryz.ntmps66
          go_wp2_with (go_at_call 62; refine hdig.out.mono ?_; rintro r w' ⟨rfl, rfl⟩)
          go_ret
          exact ⟨rfl, rfl⟩
      · rw [hl1, show (decide (97 ≤ x ∧ x ≤ 122) || decide (65 ≤ x ∧ x ≤ 90)) = false from by simp; omega]
        clear hl1 h1
        have q2 : decide ((65 : Int) ≤ (x : Int)) = false := by simp; omega
        go_enter Tryz.func66, Tryz.ntmps66
        go_wp2_with (go_at_call 62; refine hdig.out.mono ?_; rintro r w' ⟨rfl, rfl⟩)
        go_ret
        exact ⟨rfl, rfl⟩

end Go.Proofs.YticfioblapjkmaaGreat
