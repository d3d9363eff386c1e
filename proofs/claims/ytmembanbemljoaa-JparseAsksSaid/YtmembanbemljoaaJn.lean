/- Keys and items that grow side by side; the object's relation. -/
import Derived.Test.YtmembanbemljoaaJi
import Derived.Test.YtmembanbemljoaaSlx
namespace Go.Proofs.Ytmembanbemljoaa
open Go.RowKit
set_option linter.unusedVariables false
set_option linter.unusedSimpArgs false

/-- Trees and keys in two rows that the call grows. -/
structure ItemsK (W : World) (base : Nat) (iv kv : Value) (xs : List JT) (vss : List (List Value)) (ks : List (List UInt8)) : Prop where
  own : W.ownsRow base 58 5 iv xs.length vss.flatten
  keys : W.ownsRow base 9 1 kv ks.length (ks.map strV)
  apart : ∀ b, iv.ownBlock = some b → kv.ownBlock ≠ some b
  len : vss.length = xs.length
  at_ : ∀ (i : Nat) (x : JT) (vs : List Value), xs[i]? = some x → vss[i]? = some vs → JAt W (fun b => base ≤ b ∧ b < W.heap.size ∧ iv.ownBlock ≠ some b ∧ kv.ownBlock ≠ some b) x vs
variable {W W' : World} {base : Nat} {iv iv' kv kv' : Value} {xs : List JT} {vss : List (List Value)} {ks : List (List UInt8)}
theorem ItemsK.nil (W : World) (base : Nat) : ItemsK W base (.slice none 0 0) (.slice none 0 0) [] [] [] :=
  ⟨World.ownsRow_nil _ _ _ _, World.ownsRow_nil _ _ _ _, fun b h => by simp [Value.ownBlock] at h, rfl, fun i x vs h => by simp at h⟩
theorem ItemsK.later (h : ItemsK W base iv kv xs vss ks) (hs : ∀ b, base ≤ b → b < W.heap.size → W'.heap[b]? = W.heap[b]?) (hz : W.heap.size ≤ W'.heap.size) : ItemsK W' base iv kv xs vss ks :=
  ⟨ownsRow_block h.own (fun b hb => hs b (h.own.lt b hb).1 (h.own.lt b hb).2), ownsRow_block h.keys (fun b hb => hs b (h.keys.lt b hb).1 (h.keys.lt b hb).2), h.apart, h.len,
    fun i x vs h1 h2 => ((h.at_ i x vs h1 h2).frame (fun b hb => hs b hb.1 hb.2.1)).mono (fun b hb => ⟨hb.1, by omega, hb.2.2⟩)⟩
/-- One more key. -/
theorem ItemsK.key (h : ItemsK W base iv kv xs vss ks) {k : List UInt8} (hown : W'.ownsRow base 9 1 kv' (ks.length + 1) (ks.map strV ++ [strV k])) (hg : W.grownBy W' kv.ownBlock)
    (hb : kv'.ownBlock = kv.ownBlock ∨ kv'.ownBlock = some W.heap.size) : ItemsK W' base iv kv' xs vss (ks ++ [k]) := by
  have hsz := hg.size
  refine ⟨ownsRow_block h.own (fun b hb => hg.block b (h.own.lt b hb).2 (fun e => h.apart b hb e.symm)), by simpa using hown, fun b hb' e => ?_, h.len, fun i x vs h1 h2 => ?_⟩
  · rcases hb with h1 | h1
    · exact h.apart b hb' (h1 ▸ e)
    · rw [h1] at e
      have := Option.some.inj e
      have := (h.own.lt b hb').2
      omega
  · refine ((h.at_ i x vs h1 h2).frame (fun b hb => hg.block b hb.2.1 (fun e => hb.2.2.2 e.symm))).mono (fun b hb' => ⟨hb'.1, by omega, hb'.2.2.1, fun e => ?_⟩)
    rcases hb with h1 | h1
    · exact hb'.2.2.2 (h1 ▸ e)
    · rw [h1] at e
      have := Option.some.inj e
      omega
/-- One more item. -/
theorem ItemsK.push {x : JT} {vs : List Value} {ok : Nat → Prop} (h : ItemsK W base iv kv xs vss ks) (hx : JAt W ok x vs) (hok : ∀ b, ok b → base ≤ b ∧ b < W.heap.size ∧ iv.ownBlock ≠ some b ∧ kv.ownBlock ≠ some b)
    (hown : W'.ownsRow base 58 5 iv' (xs.length + 1) (vss.flatten ++ vs)) (hg : W.grownBy W' iv.ownBlock) (hb : iv'.ownBlock = iv.ownBlock ∨ iv'.ownBlock = some W.heap.size) : ItemsK W' base iv' kv (xs ++ [x]) (vss ++ [vs]) ks := by
  have hsz := hg.size
  have hmv : ∀ y ws, JAt W (fun b => base ≤ b ∧ b < W.heap.size ∧ iv.ownBlock ≠ some b ∧ kv.ownBlock ≠ some b) y ws → JAt W' (fun b => base ≤ b ∧ b < W'.heap.size ∧ iv'.ownBlock ≠ some b ∧ kv.ownBlock ≠ some b) y ws := by
    intro y ws hy
    refine (hy.frame (fun b hb => hg.block b hb.2.1 (fun e => hb.2.2.1 e.symm))).mono (fun b hb' => ⟨hb'.1, by omega, fun e => ?_, hb'.2.2.2⟩)
    rcases hb with h1 | h1
    · exact hb'.2.2.1 (h1 ▸ e)
    · rw [h1] at e
      have := Option.some.inj e
      omega
  refine ⟨by simpa using hown, ownsRow_block h.keys (fun b hb => hg.block b (h.keys.lt b hb).2 (fun e => h.apart b e.symm hb)), fun b hb' e => ?_, by simp [h.len], fun i y ws h1 h2 => ?_⟩
  · rcases hb with h1 | h1
    · exact h.apart b (h1 ▸ hb') e
    · rw [h1] at hb'
      have := Option.some.inj hb'
      have := (h.keys.lt b e).2
      omega
  · rcases Nat.lt_trichotomy i xs.length with hi | hi | hi
    · rw [List.getElem?_append_left hi] at h1
      rw [List.getElem?_append_left (by rw [h.len]; exact hi)] at h2
      exact hmv y ws (h.at_ i y ws h1 h2)
    · subst hi
      rw [List.getElem?_append_right (Nat.le_refl _)] at h1
      rw [← h.len, List.getElem?_append_right (Nat.le_refl _)] at h2
      simp at h1 h2
      subst h1 h2
      exact hmv x vs (hx.mono hok)
    · rw [List.getElem?_eq_none (by simp; omega)] at h1
      simp at h1
theorem ItemsK.tree (h : ItemsK W base iv kv xs vss ks) (k n : Int) (s : List UInt8) : JAt W (fun b => base ≤ b ∧ b < W.heap.size) (.mk k n s ks xs) [.int .i64 k, .int .i64 n, .string (str s), iv, kv] :=
  .mk (RowAt.own h.keys (fun b hb => h.keys.lt b hb)) (RowAt.own h.own (fun b hb => h.own.lt b hb)) h.len (fun i x vs h1 h2 => (h.at_ i x vs h1 h2).mono (fun b hb => ⟨hb.1, hb.2.1⟩))

def objC (iv kv : Value) : Array Value := #[.int .i64 6, .int .i64 0, .string ⟨#[]⟩, iv, kv]
/-- The blocks of the object under way. -/
structure OBlk (W0 wr : World) (X H4 : Nat) (iv kv : Value) : Prop where
  b4 : Blk wr H4 z5J 58
  b5 : Blk wr (H4 + 1) (objC iv kv) 58
  near : Near X H4 W0 wr
theorem OBlk.near' {W0 wr w1 : World} {X H4 : Nat} {iv kv : Value} (h : OBlk W0 wr X H4 iv kv) (hX : X < H4) (hN : Near X wr.heap.size wr w1) : OBlk W0 w1 X H4 iv kv :=
  ⟨Near.blk h.b4 hN h.b4.lt (by omega), Near.blk h.b5 hN h.b5.lt (by omega), h.near.later hN (Nat.le_of_lt h.b4.lt)⟩
/-- What is still to be said of an item's beginning. -/
def S3 (W : World) (X : Nat) (bv : Value) (l : List UInt8) (f : MT → JR) (R1 : JR) : Prop := (∃ e, Bad W X bv e ∧ R1 = .bad e) ∨ (∃ q : Nat, Any W X bv (q : Int) 0 ∧ q ≤ l.length ∧ R1 = f (mTakeN l q))
theorem S3.keep {W W' : World} {X : Nat} {bv : Value} {l : List UInt8} {f : MT → JR} {R1 : JR} (h : S3 W X bv l f R1) (hs : W'.heap[X]? = W.heap[X]?) : S3 W' X bv l f R1 := by
  rcases h with ⟨e, h1, h2⟩ | ⟨q, h1, h2⟩
  · exact .inl ⟨e, h1.keep hs, h2⟩
  · exact .inr ⟨q, h1.keep hs, h2⟩
def T3 (W : World) (X : Nat) (bv : Value) (l : List UInt8) (f : MT → JR) (R1 : JR) (m2 : MT) (W' : World) : Prop := Near X W.heap.size W W' ∧ Took W' X bv m2 ∧ R1 = f m2 ∧ (m2.k ≠ 0 → m2.nx ≤ l.length)
theorem take3 {W : World} {X : Nat} {a : Option Addr} {b off c : Nat} {l : List UInt8} {f : MT → JR} {R1 : JR} (hf : Reads l f) (hE : PEnv W X a b off c l) (h : S3 W X (.slice a l.length c) l f R1) :
    Calls Try.prog 51 #[.pointer (some ⟨X, 0, none⟩)] W fun r W' => ∃ m2 : MT, r = .returned (.int .i64 (m2.k : Int)) ∧ T3 W X (.slice a l.length c) l f R1 m2 W' := by
  rcases h with ⟨e, hB, hR⟩ | ⟨q, hA, hq, hR⟩
  · refine (ptake_bad hB).mono ?_
    rintro r W' ⟨rfl, rfl⟩
    refine ⟨⟨e, 0, 0, [], 0, 0⟩, rfl, Near.refl _ _ _, .inr ⟨rfl, hB⟩, ?_, fun h => absurd rfl h⟩
    rw [hR, (hf _).1 rfl]
    unfold wrongE
    rw [if_pos hB.1]
  · refine (ptake_any hE hq hA).mono ?_
    rintro r W' ⟨rfl, hN, hT⟩
    exact ⟨mTakeN l q, rfl, hN, hT, hR, fun h => by have := take_kinds hq; omega⟩
/-- What an object's loop keeps while nothing is wrong. -/
structure OAlive (R : JR) (W0 : World) (X : Nat) (a : Option Addr) (b off c : Nat) (l : List UInt8) (f : MT → JR) (H4 : Nat) (wr : World) (p : Nat) (xs : List JT) (iv kv : Value) (vss : List (List Value)) (ks : List (List UInt8)) : Prop where
  pos : p ≤ l.length
  word : (mTakeN l p).e = 0
  good : Good wr X (.slice a l.length c) (mTakeN l p)
  res : R = mLoop l f true p ks xs
  few : xs.length ≤ p ∧ ks.length ≤ p
  blk : OBlk W0 wr X H4 iv kv
  items : ItemsK wr (H4 + 2) iv kv xs vss ks
structure ODead (R : JR) (W0 : World) (X : Nat) (bv : Value) (H4 : Nat) (wr : World) (e : Nat) (iv kv : Value) : Prop where
  bad : Bad wr X bv e
  res : R = .bad e
  blk : OBlk W0 wr X H4 iv kv
  one : (∃ a n c, iv = .slice a n c) ∧ ∃ a n c, kv = .slice a n c
def ORel (R : JR) (W0 : World) (X : Nat) (a : Option Addr) (b off c : Nat) (l : List UInt8) (f : MT → JR) (H4 : Nat) (t : Value) (wr : World) : Prop :=
  (∃ p xs iv kv vss ks, t = .int .i64 ((mTakeN l p).k : Int) ∧ OAlive R W0 X a b off c l f H4 wr p xs iv kv vss ks) ∨ (∃ e iv kv k, t = .int .i64 k ∧ ODead R W0 X (.slice a l.length c) H4 wr e iv kv)
theorem oloop_dead {f : MT → JR} {l : List UInt8} {p : Nat} (hp : p ≤ l.length) {ks : List (List UInt8)} {xs : List JT} (he : (mTakeN l p).e ≠ 0) : mLoop l f true p ks xs = .bad (mTakeN l p).e := by
  have hk := take_kinds hp
  rw [mLoop]
  have h1 : mHead l f true p ks = .bad (mTakeN l p).e := by
    unfold mHead
    rw [if_pos rfl, if_pos (by omega)]
    unfold wrongE
    rw [if_pos he]
  rw [h1]
/-- A key is appended. -/
theorem obj_key {W0 W1 W2 : World} {X H4 : Nat} {iv kv : Value} {xs : List JT} {vss : List (List Value)} {ks : List (List UInt8)} {k : List UInt8} {a' : Option Addr} {c' : Nat} (hX : X < H4) (hO : OBlk W0 W1 X H4 iv kv) (hI : ItemsK W1 (H4 + 2) iv kv xs vss ks)
    (hown : W2.ownsRow (H4 + 2) 9 1 (.slice a' (ks.length + 1) c') (ks.length + 1) (ks.map strV ++ [strV k])) (hg : (W1.alloc (.cells #[strV k] 9)).grownBy W2 kv.ownBlock)
    (hb : (Value.slice a' (ks.length + 1) c').ownBlock = kv.ownBlock ∨ (Value.slice a' (ks.length + 1) c').ownBlock = some (W1.heap.size + 1)) :
    OBlk W0 (W2.setCell ⟨H4 + 1, 4, none⟩ (.slice a' (ks.length + 1) c')) X H4 iv (.slice a' (ks.length + 1) c') ∧ ItemsK (W2.setCell ⟨H4 + 1, 4, none⟩ (.slice a' (ks.length + 1) c')) (H4 + 2) iv (.slice a' (ks.length + 1) c') xs vss (ks ++ [k]) ∧
    (W2.setCell ⟨H4 + 1, 4, none⟩ (.slice a' (ks.length + 1) c')).heap[X]? = W1.heap[X]? := by
  obtain ⟨G, hG⟩ : ∃ G, W2.setCell ⟨H4 + 1, 4, none⟩ (.slice a' (ks.length + 1) c') = G := ⟨_, rfl⟩
  have l4 := hO.b4.lt
  have l5 := hO.b5.lt
  have hs2 := hg.size
  simp at hs2
  have hlt := hI.keys.lt
  have hfar : ∀ k, k < H4 + 2 → W2.heap[k]? = W1.heap[k]? := by
    intro k h1
    rw [hg.block k (by simp; omega) (fun e => by have := hlt k e.symm; omega)]
    exact heap_alloc_old W1 _ (by omega)
  have hset : ∀ k, k ≠ H4 + 1 → G.heap[k]? = W2.heap[k]? := fun k hk => by rw [← hG]; exact Below.heap_setCell _ _ _ _ hk
  have hGs : G.heap.size = W2.heap.size := by rw [← hG]; simp
  have hb5' : Blk W2 (H4 + 1) (objC iv kv) 58 := (hfar _ (by omega)).trans hO.b5
  have hB2 : Below X W0 W2 := (hO.near.below.alloc (by omega) _).grown hg (by simp; omega) (fun k hk => by have := hlt k hk; omega)
  refine ⟨⟨?_, hb5'.set 4 _, hB2.setCell (by show X ≤ H4 + 1; omega) _, fun k h1 h2 => ?_⟩, ?_, ?_⟩
  · rw [hG]
    exact (hset H4 (by omega)).trans ((hfar H4 (by omega)).trans hO.b4)
  · rw [hG, hset k (by omega), hfar k (by omega)]
    exact hO.near.far k h1 h2
  · have hI1 := hI.later (W' := W1.alloc (.cells #[strV k] 9)) (fun b h1 h2 => heap_alloc_old W1 _ h2) (by simp)
    have hp := hI1.key hown hg (by simpa using hb)
    exact hp.later (fun b h1 h2 => by rw [hG]; exact hset b (by omega)) (by rw [hG, hGs]; exact Nat.le_refl _)
  · rw [hG, hset X (by omega), hfar X (by omega)]
/-- What an item of an object leaves. -/
def OItem (W0 : World) (X : Nat) (bv : Value) (H4 : Nat) (R1 : JR) (xs : List JT) (kv : Value) (ks : List (List UInt8)) (W6 : World) : Prop :=
  ∃ ia ic, OBlk W0 W6 X H4 (.slice ia (xs.length + 1) ic) kv ∧ (∀ e, R1 = .bad e → Bad W6 X bv e) ∧
    (∀ x q, R1 = .ok x q → Any W6 X bv (q : Int) 0 ∧ ∃ vss, ItemsK W6 (H4 + 2) (.slice ia (xs.length + 1) ic) kv (xs ++ [x]) vss ks)
theorem obj_item {W0 wr W1 W2 : World} {X H4 : Nat} {bv iv kv : Value} {R1 : JR} {xs : List JT} {vss : List (List Value)} {ks : List (List UInt8)} {v0 v1 v2 v3 v4 : Value} {a' : Option Addr} {c' : Nat} (hX : X < H4) (hO : OBlk W0 wr X H4 iv kv) (hI : ItemsK wr (H4 + 2) iv kv xs vss ks)
    (hN1 : Near X wr.heap.size wr W1) (hown2 : W2.ownsRow (H4 + 2) 58 5 (.slice a' (xs.length + 1) c') (xs.length + 1) (vss.flatten ++ [v0, v1, v2, v3, v4]))
    (hg2 : (W1.alloc (.cells #[v0, v1, v2, v3, v4] 58)).grownBy W2 iv.ownBlock) (hb2 : (Value.slice a' (xs.length + 1) c').ownBlock = iv.ownBlock ∨ (Value.slice a' (xs.length + 1) c').ownBlock = some (W1.heap.size + 1))
    (hbad : ∀ e, R1 = .bad e → Bad W1 X bv e) (hok : ∀ t q, R1 = .ok t q → Any W1 X bv (q : Int) 0 ∧ JAt W1 (fun b => wr.heap.size ≤ b ∧ b < W1.heap.size) t [v0, v1, v2, v3, v4]) :
    OItem W0 X bv H4 R1 xs kv ks (W2.setCell ⟨H4 + 1, 3, none⟩ (.slice a' (xs.length + 1) c')) := by
  obtain ⟨G, hG⟩ : ∃ G, W2.setCell ⟨H4 + 1, 3, none⟩ (.slice a' (xs.length + 1) c') = G := ⟨_, rfl⟩
  have l4 := hO.b4.lt
  have l5 := hO.b5.lt
  have hs1 := hN1.below.size
  have hs2 := hg2.size
  simp at hs2
  have hlt := hI.own.lt
  have hltk := hI.keys.lt
  have hfar : ∀ k, k < H4 + 2 → k ≠ X → W2.heap[k]? = wr.heap[k]? := by
    intro k h1 h2
    rw [hg2.block k (by simp; omega) (fun e => by have := hlt k e.symm; omega)]
    rw [heap_alloc_old W1 _ (by omega)]
    exact hN1.far k (by omega) h2
  have hfarX : W2.heap[X]? = W1.heap[X]? := by
    rw [hg2.block X (by simp; omega) (fun e => by have := hlt X e.symm; omega)]
    exact heap_alloc_old W1 _ (by omega)
  have hset : ∀ k, k ≠ H4 + 1 → G.heap[k]? = W2.heap[k]? := fun k hk => by rw [← hG]; exact Below.heap_setCell _ _ _ _ hk
  have hGs : G.heap.size = W2.heap.size := by rw [← hG]; simp
  have hb5' : Blk W2 (H4 + 1) (objC iv kv) 58 := (hfar _ (by omega) (by omega)).trans hO.b5
  have hB2 : Below X W0 W2 := ((hO.near.below.trans hN1.below).alloc (by omega) _).grown hg2 (by simp; omega) (fun k hk => by have := hlt k hk; omega)
  have hXe : G.heap[X]? = W1.heap[X]? := (hset X (by omega)).trans hfarX
  refine ⟨a', c', ⟨?_, hb5'.set 3 _, hB2.setCell (by show X ≤ H4 + 1; omega) _, fun k h1 h2 => ?_⟩, fun e he => ?_, fun x q hq => ?_⟩
  · rw [hG]
    exact (hset H4 (by omega)).trans ((hfar H4 (by omega) (by omega)).trans hO.b4)
  · rw [hG, hset k (by omega), hfar k (by omega) h2]
    exact hO.near.far k h1 h2
  · exact (hbad e he).keep (by rw [hG]; exact hXe)
  · obtain ⟨h1, h2⟩ := hok x q hq
    refine ⟨h1.keep (by rw [hG]; exact hXe), vss ++ [[v0, v1, v2, v3, v4]], ?_⟩
    have hI1 := hI.later (W' := W1.alloc (.cells #[v0, v1, v2, v3, v4] 58)) (fun b h1 h2 => by rw [heap_alloc_old W1 _ (by omega)]; exact hN1.far b h2 (by omega)) (by simp; omega)
    have ht1 : JAt (W1.alloc (.cells #[v0, v1, v2, v3, v4] 58)) (fun b => wr.heap.size ≤ b ∧ b < W1.heap.size) x [v0, v1, v2, v3, v4] := h2.frame (fun b hb => heap_alloc_old W1 _ hb.2)
    have hp := hI1.push ht1 (fun b hb => ⟨by omega, by simp; omega, fun e => by have := hlt b e; omega, fun e => by have := hltk b e; omega⟩) hown2 hg2 (by simpa using hb2)
    exact hp.later (fun b h1 h2 => by rw [hG]; exact hset b (by omega)) (by rw [hG, hGs]; exact Nat.le_refl _)

end Go.Proofs.Ytmembanbemljoaa
