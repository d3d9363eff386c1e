/- The parser's list. -/
import Derived.Test.YtmembanbemljoaaJq
namespace Go.Proofs.Ytmembanbemljoaa
open Go.RowKit
set_option linter.unusedVariables false
set_option linter.unusedSimpArgs false

variable {W W' : World} {X : Nat} {a : Option Addr} {b off c : Nat} {l : List UInt8} {bv : Value} {e : Nat}
/-- What a tree's reading leaves. -/
def VPost (W : World) (X : Nat) (bv : Value) (R : JR) (r : Ending) (W' : World) : Prop :=
  ∃ v0 v1 v2 v3 v4 : Value, r = .returned (.agg #[v0, v1, v2, v3, v4]) ∧ (∀ u ∈ [v0, v1, v2, v3, v4], u.oneCell' = true) ∧ Near X W.heap.size W W' ∧ (∀ e, R = .bad e → Bad W' X bv e) ∧
    (∀ t q, R = .ok t q → Any W' X bv (q : Int) 0 ∧ JAt W' (fun b => W.heap.size ≤ b ∧ b < W'.heap.size) t [v0, v1, v2, v3, v4])
/-- The contract of value, d deep at most. -/
def ValC (X : Nat) (a : Option Addr) (b off c : Nat) (l : List UInt8) (d : Nat) : Prop :=
  ∀ (W : World) (m : MT), PEnv W X a b off c l → X < W.heap.size → Took W X (.slice a l.length c) m → (m.k ≠ 0 → m.nx ≤ l.length) →
    Calls Try.prog 50 #[.pointer (some ⟨X, 0, none⟩), .int .i64 (m.k : Int), .int .i64 ((32 - d : Nat) : Int)] W (VPost W X (.slice a l.length c) (mVal l d m))
set_option maxRecDepth 100000 in
theorem pfail_took {m : MT} (h : Took W X bv m) : Calls Try.prog 77 #[.pointer (some ⟨X, 0, none⟩), .int .i64 20] W fun r W' => r = .returned (.tuple #[]) ∧ Near X W.heap.size W W' ∧ Bad W' X bv (wrongE m) := by
  rcases h with ⟨he, hG⟩ | ⟨hk, hB⟩
  · refine (pfail_any hG.any 20 (by decide)).mono ?_
    rintro r W' ⟨rfl, h1, h2⟩
    exact ⟨rfl, h1, by unfold wrongE; rw [if_neg (by simpa using he)]; exact h2⟩
  · refine (pfail_bad hB 20).mono ?_
    rintro r W' ⟨rfl, rfl⟩
    exact ⟨rfl, Near.refl _ _ _, by unfold wrongE; rw [if_pos hB.1]; exact hB⟩
theorem list_ret {W : World} {H : Nat} {v0 v1 v2 v3 v4 : Value} (tmps : Array Value) (hz : tmps[4]?.getD undef = .pointer (some ⟨H, 0, none⟩)) (hc : ∀ j, W.cell? ⟨H, j, none⟩ = (#[v0, v1, v2, v3, v4] : Array Value)[j]?) :
    (results Try.f79 tmps).run Try.prog W = .ok (.agg #[v0, v1, v2, v3, v4]) W := by
  simp [results, Try.results79, go_sem, hz, hc]
def z5J : Array Value := #[.int .i64 0, .int .i64 0, .string ⟨#[]⟩, .slice none 0 0, .slice none 0 0]
def listC (iv : Value) : Array Value := #[.int .i64 5, .int .i64 0, .string ⟨#[]⟩, iv, .slice none 0 0]
/-- What the list's loop keeps while nothing is wrong. -/
structure LAlive (R : JR) (W0 : World) (X : Nat) (a : Option Addr) (b off c : Nat) (l : List UInt8) (f : MT → JR) (H4 : Nat) (wr : World) (p : Nat) (xs : List JT) (iv : Value) (vss : List (List Value)) : Prop where
  pos : p ≤ l.length
  word : (mTakeN l p).e = 0
  good : Good wr X (.slice a l.length c) (mTakeN l p)
  res : R = mLoop l f false p [] xs
  few : xs.length ≤ p
  b4 : Blk wr H4 z5J 58
  b5 : Blk wr (H4 + 1) (listC iv) 58
  items : ItemsO wr (H4 + 2) iv xs vss
  near : Near X H4 W0 wr
structure LDead (R : JR) (W0 : World) (X : Nat) (bv : Value) (H4 : Nat) (wr : World) (e : Nat) (iv : Value) : Prop where
  bad : Bad wr X bv e
  res : R = .bad e
  b4 : Blk wr H4 z5J 58
  b5 : Blk wr (H4 + 1) (listC iv) 58
  one : ∃ a n c, iv = .slice a n c
  near : Near X H4 W0 wr
def LRel (R : JR) (W0 : World) (X : Nat) (a : Option Addr) (b off c : Nat) (l : List UInt8) (f : MT → JR) (H4 : Nat) (t : Value) (wr : World) : Prop :=
  (∃ p xs iv vss, t = .int .i64 ((mTakeN l p).k : Int) ∧ LAlive R W0 X a b off c l f H4 wr p xs iv vss) ∨ (∃ e iv k, t = .int .i64 k ∧ LDead R W0 X (.slice a l.length c) H4 wr e iv)
theorem own_near {wr w1 : World} {base X : Nat} {e : TypeId} {z : Nat} {v : Value} {n : Nat} {cs : List Value} (h : wr.ownsRow base e z v n cs) (hN : Near X wr.heap.size wr w1) (hX : X < base) (o : Obj) : (w1.alloc o).ownsRow base e z v n cs :=
  ownsRow_block h (fun b hb => by
    have h1 := h.lt b hb
    have h2 := hN.below.size
    rw [heap_alloc_old w1 _ (by omega)]
    exact hN.far b h1.2 (by omega))
/-- An item is appended: what is left of the memory. -/
theorem list_step {W0 wr W1 W2 : World} {H4 : Nat} {iv : Value} {xs : List JT} {vss : List (List Value)} {v0 v1 v2 v3 v4 : Value} {a' : Option Addr} {c' : Nat} {C4 C5 : Array Value} (hX : X < H4) (h4 : Blk wr H4 C4 58) (h5 : Blk wr (H4 + 1) C5 58) (hI : ItemsO wr (H4 + 2) iv xs vss) (hN0 : Near X H4 W0 wr)
    (hN1 : Near X wr.heap.size wr W1) (hown2 : W2.ownsRow (H4 + 2) 58 5 (.slice a' (xs.length + 1) c') (xs.length + 1) (vss.flatten ++ [v0, v1, v2, v3, v4]))
    (hg2 : (W1.alloc (.cells #[v0, v1, v2, v3, v4] 58)).grownBy W2 iv.ownBlock) (hb2 : (Value.slice a' (xs.length + 1) c').ownBlock = iv.ownBlock ∨ (Value.slice a' (xs.length + 1) c').ownBlock = some (W1.heap.size + 1)) :
    Near X H4 W0 (W2.setCell ⟨H4 + 1, 3, none⟩ (.slice a' (xs.length + 1) c')) ∧ Blk (W2.setCell ⟨H4 + 1, 3, none⟩ (.slice a' (xs.length + 1) c')) H4 C4 58 ∧
    Blk (W2.setCell ⟨H4 + 1, 3, none⟩ (.slice a' (xs.length + 1) c')) (H4 + 1) (C5.setIfInBounds 3 (.slice a' (xs.length + 1) c')) 58 ∧
    (∀ p e bv, Any W1 X bv p e → Any (W2.setCell ⟨H4 + 1, 3, none⟩ (.slice a' (xs.length + 1) c')) X bv p e) ∧
    (∀ t, JAt W1 (fun b => wr.heap.size ≤ b ∧ b < W1.heap.size) t [v0, v1, v2, v3, v4] → ItemsO (W2.setCell ⟨H4 + 1, 3, none⟩ (.slice a' (xs.length + 1) c')) (H4 + 2) (.slice a' (xs.length + 1) c') (xs ++ [t]) (vss ++ [[v0, v1, v2, v3, v4]])) := by
  obtain ⟨G, hG⟩ : ∃ G, W2.setCell ⟨H4 + 1, 3, none⟩ (.slice a' (xs.length + 1) c') = G := ⟨_, rfl⟩
  have l4 := h4.lt
  have l5 := h5.lt
  have hs1 := hN1.below.size
  have hs2 := hg2.size
  simp at hs2
  have hlt := hI.own.lt
  -- blocks below the rows
  have hfar : ∀ k, k < H4 + 2 → k ≠ X → W2.heap[k]? = wr.heap[k]? := by
    intro k h1 h2
    rw [hg2.block k (by simp; omega) (fun e => by have := hlt k e.symm; omega)]
    rw [heap_alloc_old W1 _ (by omega)]
    exact hN1.far k (by omega) h2
  have hfarX : W2.heap[X]? = W1.heap[X]? := by
    rw [hg2.block X (by simp; omega) (fun e => by have := hlt X e.symm; omega)]
    exact heap_alloc_old W1 _ (by omega)
  have hset : ∀ k, k ≠ H4 + 1 → G.heap[k]? = W2.heap[k]? := fun k hk => by rw [← hG]; exact Below.heap_setCell _ _ _ _ (fun e => hk e)
  have hGs : G.heap.size = W2.heap.size := by rw [← hG]; simp
  have hb5' : Blk W2 (H4 + 1) C5 58 := (hfar _ (by omega) (by omega)).trans h5
  have hB2 : Below X W0 W2 := by
    have h0 := (hN0.below.trans hN1.below).alloc (by omega) (.cells #[v0, v1, v2, v3, v4] 58)
    exact h0.grown hg2 (by simp; omega) (fun k hk => by have := hlt k hk; omega)
  refine ⟨?_, ?_, ?_, ?_, ?_⟩
  · refine ⟨hB2.setCell (by show X ≤ H4 + 1; omega) _, fun k h1 h2 => ?_⟩
    rw [hG, hset k (by omega), hfar k (by omega) h2]
    exact hN0.far k h1 h2
  · rw [hG]
    exact (hset H4 (by omega)).trans ((hfar H4 (by omega) (by omega)).trans h4)
  · exact hb5'.set 3 _
  · rintro p e bv ⟨k, n, s, at_, nx, hP⟩
    exact ⟨k, n, s, at_, nx, by rw [hG]; exact (hset X (by omega)).trans (hfarX.trans hP)⟩
  · intro t ht
    have hI1 := hI.later (W' := W1.alloc (.cells #[v0, v1, v2, v3, v4] 58)) (fun b h1 h2 => by rw [heap_alloc_old W1 _ (by omega)]; exact hN1.far b h2 (by omega)) (by simp; omega)
    have ht1 : JAt (W1.alloc (.cells #[v0, v1, v2, v3, v4] 58)) (fun b => wr.heap.size ≤ b ∧ b < W1.heap.size) t [v0, v1, v2, v3, v4] := ht.frame (fun b hb => heap_alloc_old W1 _ hb.2)
    have hp := hI1.push ht1 (fun b hb => ⟨by omega, by simp; omega, fun e => by have := hlt b e; omega⟩) hown2 hg2 (by simpa using hb2)
    exact hp.later (fun b h1 h2 => by rw [hG]; exact hset b (by omega)) (by rw [hG, hGs]; exact Nat.le_refl _)
/-- What an item's reading leaves. -/
def LItem (W0 : World) (X : Nat) (bv : Value) (H4 : Nat) (R1 : JR) (xs : List JT) (W6 : World) : Prop :=
  ∃ ia ic, Near X H4 W0 W6 ∧ Blk W6 H4 z5J 58 ∧ Blk W6 (H4 + 1) (listC (.slice ia (xs.length + 1) ic)) 58 ∧ (∀ e, R1 = .bad e → Bad W6 X bv e) ∧
    (∀ x q, R1 = .ok x q → Any W6 X bv (q : Int) 0 ∧ ∃ vss, ItemsO W6 (H4 + 2) (.slice ia (xs.length + 1) ic) (xs ++ [x]) vss)
theorem list_item {W0 wr W1 W2 : World} {X H4 : Nat} {bv iv : Value} {R1 : JR} {xs : List JT} {vss : List (List Value)} {v0 v1 v2 v3 v4 : Value} {a' : Option Addr} {c' : Nat} (hX : X < H4) (h4 : Blk wr H4 z5J 58) (h5 : Blk wr (H4 + 1) (listC iv) 58) (hI : ItemsO wr (H4 + 2) iv xs vss) (hN0 : Near X H4 W0 wr)
    (hN1 : Near X wr.heap.size wr W1) (hown2 : W2.ownsRow (H4 + 2) 58 5 (.slice a' (xs.length + 1) c') (xs.length + 1) (vss.flatten ++ [v0, v1, v2, v3, v4]))
    (hg2 : (W1.alloc (.cells #[v0, v1, v2, v3, v4] 58)).grownBy W2 iv.ownBlock) (hb2 : (Value.slice a' (xs.length + 1) c').ownBlock = iv.ownBlock ∨ (Value.slice a' (xs.length + 1) c').ownBlock = some (W1.heap.size + 1))
    (hbad : ∀ e, R1 = .bad e → Bad W1 X bv e) (hok : ∀ t q, R1 = .ok t q → Any W1 X bv (q : Int) 0 ∧ JAt W1 (fun b => wr.heap.size ≤ b ∧ b < W1.heap.size) t [v0, v1, v2, v3, v4]) :
    LItem W0 X bv H4 R1 xs (W2.setCell ⟨H4 + 1, 3, none⟩ (.slice a' (xs.length + 1) c')) := by
  obtain ⟨s1, s2, s3, s4, s5⟩ := list_step hX h4 h5 hI hN0 hN1 hown2 hg2 hb2
  refine ⟨a', c', s1, s2, s3, fun e he => ?_, fun x q hq => ?_⟩
  · obtain ⟨h1, p, h2⟩ := hbad e he
    exact ⟨h1, p, s4 _ _ _ h2⟩
  · obtain ⟨h1, h2⟩ := hok x q hq
    exact ⟨s4 _ _ _ h1, _, s5 x h2⟩
theorem loop_dead {f : MT → JR} (hf : Reads l f) {p : Nat} (hp : p ≤ l.length) {xs : List JT} (he : (mTakeN l p).e ≠ 0) : mLoop l f false p [] xs = .bad (mTakeN l p).e := by
  have hk := take_kinds hp
  rw [mLoop]
  have h1 : mHead l f false p [] = .bad (mTakeN l p).e := by
    unfold mHead
    simp only [Bool.false_eq_true, if_false]
    rw [(hf _).1 (by omega)]
    unfold wrongE
    rw [if_pos he]
  rw [h1]

end Go.Proofs.Ytmembanbemljoaa
