/- avocet/avocetref07: words in memory; a list's items. -/
import Derived.Test.YtmembanbemljoaaJr1
import Derived.Test.YtmembanbemljoaaJn
import Derived.Test.YtmembanbemljoaaRarg
namespace Go.Proofs.Ytmembanbemljoaa
open Go.RowKit
set_option linter.unusedVariables false
set_option linter.unusedSimpArgs false

/-- The words in block g. -/
def WsAt (W : World) (g : Nat) (ws : List MT) : Prop := g < W.heap.size ∧ ∀ (i : Nat) (m : MT), ws[i]? = some m →
  W.cell? ⟨g, i * 5, none⟩ = some (.int .i64 (m.k : Int)) ∧ W.cell? ⟨g, i * 5 + 1, none⟩ = some (.int .i64 m.n) ∧ W.cell? ⟨g, i * 5 + 2, none⟩ = some (.string (str m.s)) ∧ W.cell? ⟨g, i * 5 + 3, none⟩ = some (.int .i64 (m.at_ : Int)) ∧ W.cell? ⟨g, i * 5 + 4, none⟩ = some (.int .i64 (m.nx : Int))
theorem WsAt.below {W W' : World} {g B : Nat} {ws : List MT} (h : WsAt W g ws) (hB : Below B W W') (hg : g < B) : WsAt W' g ws := by
  refine ⟨Nat.lt_of_lt_of_le h.1 hB.size, fun i m hm => ?_⟩
  obtain ⟨h0, h1, h2, h3, h4⟩ := h.2 i m hm
  exact ⟨(hB.cell (p := ⟨g, _, none⟩) hg).trans h0, (hB.cell (p := ⟨g, _, none⟩) hg).trans h1, (hB.cell (p := ⟨g, _, none⟩) hg).trans h2, (hB.cell (p := ⟨g, _, none⟩) hg).trans h3, (hB.cell (p := ⟨g, _, none⟩) hg).trans h4⟩
/-- The word at index i is the one at p, and the later ones follow. -/
def At (l : List UInt8) (ws : List MT) (i p : Nat) : Prop := ws.drop i = wordsOf l p ∧ p ≤ l.length
variable {l : List UInt8} {ws : List MT}
theorem At.get {i p : Nat} (h : At l ws i p) : ws[i]? = some (w0 l p) := by
  have := congrArg (fun z => z[0]?) h.1
  simp only [List.getElem?_drop, Nat.add_zero] at this
  rw [this, words_head h.2]
theorem At.lt {i p : Nat} (h : At l ws i p) : i < ws.length := (List.getElem?_eq_some_iff.1 h.get).1
theorem At.next {i p : Nat} (h : At l ws i p) (hk : (w0 l p).k ≠ 11) (hk0 : (w0 l p).k ≠ 0) : At l ws (i + 1) (mTakeN l p).nx := by
  have hkd := take_kinds h.2
  have he : (mTakeN l p).e = 0 := by
    by_cases he : (mTakeN l p).e = 0
    · exact he
    · exfalso; apply hk0; unfold w0; rw [if_pos he]; rfl
  have hw : w0 l p = mTakeN l p := by unfold w0; rw [if_neg (by omega)]
  rw [hw] at hk
  refine ⟨?_, by omega⟩
  have := congrArg (fun z => z.drop 1) h.1
  simp only [List.drop_drop] at this
  rw [this, words_next h.2 he hk]
  rfl
/-- The word's kind is that of the word taken; so is all else, if it is one. -/
theorem w0_k {p : Nat} (hp : p ≤ l.length) : (w0 l p).k = (mTakeN l p).k := by
  have := take_kinds hp
  unfold w0
  by_cases he : (mTakeN l p).e = 0
  · rw [if_neg (by omega)]
  · rw [if_pos he]
    show 0 = _
    omega
theorem w0_eq {p : Nat} (hp : p ≤ l.length) (hk : (mTakeN l p).k ≠ 0) : w0 l p = mTakeN l p := by
  have := take_kinds hp
  unfold w0
  rw [if_neg (by omega)]

/-- What a tree's reading over words leaves. -/
def RVPost (W : World) (l : List UInt8) (ws : List MT) (i0 : Nat) (R : JR) (r : Ending) (W' : World) : Prop :=
  ∃ (v0 v1 v2 v3 v4 : Value) (i' e' : Int), r = .returned (.tuple #[.agg #[v0, v1, v2, v3, v4], .int .i64 i', .int .i64 e']) ∧ (∀ u ∈ [v0, v1, v2, v3, v4], u.oneCell' = true) ∧ Below W.heap.size W W' ∧ (∀ e, R = .bad e → e' = (e : Int)) ∧
    (∀ t q, R = .ok t q → e' = 0 ∧ JAt W' (fun b => W.heap.size ≤ b ∧ b < W'.heap.size) t [v0, v1, v2, v3, v4] ∧ ∃ j : Nat, i' = (j : Int) ∧ i0 < j ∧ At l ws j q)
def RValC (l : List UInt8) (g cp : Nat) (ws : List MT) (d : Nat) : Prop :=
  ∀ (W : World) (i p : Nat), WsAt W g ws → At l ws i p →
    Calls Try.prog 54 #[.slice (some ⟨g, 0, none⟩) ws.length cp, .int .i64 (i : Int), .int .i64 ((32 - d : Nat) : Int)] W (RVPost W l ws i (mVal l d (mTakeN l p)))
theorem items_ret {W : World} {H : Nat} {v0 v1 v2 v3 v4 v5 v6 : Value} (tmps : Array Value) (hz : tmps[8]?.getD undef = .pointer (some ⟨H, 0, none⟩)) (h5 : tmps[9]?.getD undef = v5) (h6 : tmps[10]?.getD undef = v6) (hc : ∀ j, W.cell? ⟨H, j, none⟩ = (#[v0, v1, v2, v3, v4] : Array Value)[j]?) :
    (results Try.f80 tmps).run Try.prog W = .ok (.tuple #[.agg #[v0, v1, v2, v3, v4], v5, v6]) W := by
  simp [results, Try.results80, go_sem, hz, hc, h5, h6]
def outC (obj : Bool) (iv kv : Value) : Array Value := #[.int .i64 (objK obj), .int .i64 0, .string ⟨#[]⟩, iv, kv]
/-- The blocks under way. -/
structure RBlk (W0 wr : World) (H : Nat) (obj : Bool) (iv kv : Value) : Prop where
  b4 : Blk wr H z5J 58
  b5 : Blk wr (H + 1) (outC obj iv kv) 58
  below : Below H W0 wr
theorem RBlk.later {W0 wr w1 : World} {H : Nat} {obj : Bool} {iv kv : Value} (h : RBlk W0 wr H obj iv kv) (hN : Below wr.heap.size wr w1) : RBlk W0 w1 H obj iv kv :=
  ⟨h.b4.kept hN h.b4.lt, h.b5.kept hN h.b5.lt, h.below.trans (hN.mono (Nat.le_of_lt h.b4.lt))⟩
/-- An item is appended. -/
theorem rl_item {W0 wr W1 W2 : World} {H : Nat} {obj : Bool} {iv kv : Value} {xs : List JT} {vss : List (List Value)} {ks : List (List UInt8)} {v0 v1 v2 v3 v4 : Value} {a' : Option Addr} {c' : Nat} (hO : RBlk W0 wr H obj iv kv) (hI : ItemsK wr (H + 2) iv kv xs vss ks)
    (hN1 : Below wr.heap.size wr W1) (hown2 : W2.ownsRow (H + 2) 58 5 (.slice a' (xs.length + 1) c') (xs.length + 1) (vss.flatten ++ [v0, v1, v2, v3, v4]))
    (hg2 : (W1.alloc (.cells #[v0, v1, v2, v3, v4] 58)).grownBy W2 iv.ownBlock) (hb2 : (Value.slice a' (xs.length + 1) c').ownBlock = iv.ownBlock ∨ (Value.slice a' (xs.length + 1) c').ownBlock = some (W1.heap.size + 1)) :
    RBlk W0 (W2.setCell ⟨H + 1, 3, none⟩ (.slice a' (xs.length + 1) c')) H obj (.slice a' (xs.length + 1) c') kv ∧
    (∀ t, JAt W1 (fun b => wr.heap.size ≤ b ∧ b < W1.heap.size) t [v0, v1, v2, v3, v4] → ItemsK (W2.setCell ⟨H + 1, 3, none⟩ (.slice a' (xs.length + 1) c')) (H + 2) (.slice a' (xs.length + 1) c') kv (xs ++ [t]) (vss ++ [[v0, v1, v2, v3, v4]]) ks) := by
  obtain ⟨G, hG⟩ : ∃ G, W2.setCell ⟨H + 1, 3, none⟩ (.slice a' (xs.length + 1) c') = G := ⟨_, rfl⟩
  have l4 := hO.b4.lt
  have l5 := hO.b5.lt
  have hs1 := hN1.size
  have hs2 := hg2.size
  simp at hs2
  have hlt := hI.own.lt
  have hltk := hI.keys.lt
  have hfar : ∀ k, k < H + 2 → W2.heap[k]? = wr.heap[k]? := by
    intro k h1
    rw [hg2.block k (by simp; omega) (fun e => by have := hlt k e.symm; omega)]
    rw [heap_alloc_old W1 _ (by omega)]
    exact hN1.block k (by omega)
  have hset : ∀ k, k ≠ H + 1 → G.heap[k]? = W2.heap[k]? := fun k hk => by rw [← hG]; exact Below.heap_setCell _ _ _ _ hk
  have hGs : G.heap.size = W2.heap.size := by rw [← hG]; simp
  have hb5' : Blk W2 (H + 1) (outC obj iv kv) 58 := (hfar _ (by omega)).trans hO.b5
  have hB2 : Below H W0 W2 := ((hO.below.trans (hN1.mono (by omega))).alloc (by omega) _).grown hg2 (by simp; omega) (fun k hk => by have := hlt k hk; omega)
  refine ⟨⟨?_, hb5'.set 3 _, hB2.setCell (by show H ≤ H + 1; omega) _⟩, fun x h2 => ?_⟩
  · rw [hG]
    exact (hset H (by omega)).trans ((hfar H (by omega)).trans hO.b4)
  · have hI1 := hI.later (W' := W1.alloc (.cells #[v0, v1, v2, v3, v4] 58)) (fun b h1 h2 => by rw [heap_alloc_old W1 _ (by omega)]; exact hN1.block b h2) (by simp; omega)
    have ht1 : JAt (W1.alloc (.cells #[v0, v1, v2, v3, v4] 58)) (fun b => wr.heap.size ≤ b ∧ b < W1.heap.size) x [v0, v1, v2, v3, v4] := h2.frame (fun b hb => heap_alloc_old W1 _ hb.2)
    have hp := hI1.push ht1 (fun b hb => ⟨by omega, by simp; omega, fun e => by have := hlt b e; omega, fun e => by have := hltk b e; omega⟩) hown2 hg2 (by simpa using hb2)
    exact hp.later (fun b h1 h2 => by rw [hG]; exact hset b (by omega)) (by rw [hG, hGs]; exact Nat.le_refl _)
/-- What the items' loop keeps. -/
def RRel (R : JR) (W0 : World) (l : List UInt8) (ws : List MT) (f : MT → JR) (obj : Bool) (H i0 : Nat) (t : Value) (wr : World) : Prop :=
  ∃ (i p : Nat) (xs : List JT) (iv kv : Value) (vss : List (List Value)) (ks : List (List UInt8)), t = .int .i64 (i : Int) ∧ i0 ≤ i ∧ At l ws i p ∧ R = mLoop l f obj p ks xs ∧ xs.length ≤ i ∧ ks.length ≤ i ∧ RBlk W0 wr H obj iv kv ∧ ItemsK wr (H + 2) iv kv xs vss ks
theorem RVPost.no {W W1 : World} {H i0 e : Nat} {i' : Int} (hH : W.heap.size = H) (hB : Below H W W1) : RVPost W l ws i0 (.bad e) (.returned (.tuple #[.agg #[.int .i64 0, .int .i64 0, .string ⟨#[]⟩, .slice none 0 0, .slice none 0 0], .int .i64 i', .int .i64 (e : Int)])) W1 := by
  refine ⟨_, _, _, _, _, _, _, rfl, by intro u hu; simp at hu; rcases hu with rfl | rfl | rfl | rfl | rfl <;> rfl, hH ▸ hB, fun e' he => ?_, fun t q hq => by cases hq⟩
  cases he
  rfl

end Go.Proofs.Ytmembanbemljoaa
