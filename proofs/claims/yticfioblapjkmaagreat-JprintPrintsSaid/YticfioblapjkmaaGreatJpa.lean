/- jparse: trees, the plain model, and the parser up to its loops. -/
import Derived.Test.YticfioblapjkmaaGreatTake
import Derived.Test.YticfioblapjkmaaGreatJ0
import Derived.Maps.AppendAt
import Derived.Test.YticfioblapjkmaaGreatLexv
import Derived.Deep.CutRange
namespace Go.Proofs.YticfioblapjkmaaGreat
open Go.RowKit
set_option linter.unusedVariables false
set_option linter.unusedSimpArgs false

def strV (s : List UInt8) : Value := .string (str s)
/-- A row of n elements of z cells each, in a block that 'ok' allows. -/
def RowAt (W : World) (ok : Nat → Prop) (v : Value) (n z : Nat) (cs : List Value) : Prop :=
  (cs.length = n * z ∧ n ≤ 9223372036854775807) ∧ ∃ a c, v = .slice a n c ∧ (n ≤ c ∧ c ≤ 9223372036854775807 ∧ (a = none → c = 0)) ∧ (n ≠ 0 → ∃ b off, a = some ⟨b, off, none⟩ ∧ ok b ∧ ∀ j, j < n * z → W.cell? ⟨b, off + j, none⟩ = cs[j]?)
theorem RowAt.frame {W W' : World} {ok : Nat → Prop} {v : Value} {n z : Nat} {cs : List Value} (h : RowAt W ok v n z cs) (hs : ∀ b, ok b → W'.heap[b]? = W.heap[b]?) : RowAt W' ok v n z cs := by
  obtain ⟨h1, a, c, h2, h3, h4⟩ := h
  refine ⟨h1, a, c, h2, h3, fun hn => ?_⟩
  obtain ⟨b, off, h5, h6, h7⟩ := h4 hn
  exact ⟨b, off, h5, h6, fun j hj => (World.cell?_of_block (w := W) (hs b h6)).trans (h7 j hj)⟩
theorem RowAt.mono {W : World} {ok ok' : Nat → Prop} {v : Value} {n z : Nat} {cs : List Value} (h : RowAt W ok v n z cs) (hs : ∀ b, ok b → ok' b) : RowAt W ok' v n z cs := by
  obtain ⟨h1, a, c, h2, h3, h4⟩ := h
  refine ⟨h1, a, c, h2, h3, fun hn => ?_⟩
  obtain ⟨b, off, h5, h6, h7⟩ := h4 hn
  exact ⟨b, off, h5, hs b h6, h7⟩
theorem RowAt.nil (W : World) (ok : Nat → Prop) (z : Nat) : RowAt W ok (.slice none 0 0) 0 z [] := ⟨⟨by simp, by omega⟩, none, 0, rfl, ⟨Nat.le_refl _, by omega, fun _ => rfl⟩, fun h => absurd rfl h⟩
theorem RowAt.own {W : World} {ok : Nat → Prop} {base : Nat} {e : TypeId} {v : Value} {n z : Nat} {cs : List Value} (h : W.ownsRow base e z v n cs) (hok : ∀ b, v.ownBlock = some b → ok b) : RowAt W ok v n z cs := by
  have h' := h
  obtain ⟨h1, h2⟩ := h
  rcases h2 with ⟨rfl, rfl⟩ | ⟨g, cap, cur, rfl, hbg, hg, hnc, hcm, hr⟩
  · exact ⟨⟨h1, by omega⟩, none, 0, rfl, ⟨Nat.le_refl _, by omega, fun _ => rfl⟩, fun h => absurd rfl h⟩
  · exact ⟨⟨h1, by unfold maxLen at hcm; omega⟩, some ⟨g, 0, none⟩, cap, rfl, ⟨hnc, by unfold maxLen at hcm; omega, fun h => by simp at h⟩, fun _ => ⟨g, 0, rfl, hok g rfl, fun j hj => by rw [Nat.zero_add]; exact World.ownsRow.cellAt h' j hj⟩⟩

/-- A tree in memory: its five cells. -/
inductive JAt (W : World) (ok : Nat → Prop) : JT → List Value → Prop
  | mk {k n : Int} {s : List UInt8} {ks : List (List UInt8)} {xs : List JT} {iv kv : Value} {vss : List (List Value)}
      (hk : RowAt W ok kv ks.length 1 (ks.map strV)) (hi : RowAt W ok iv xs.length 5 vss.flatten) (hl : vss.length = xs.length)
      (hx : ∀ (i : Nat) (x : JT) (vs : List Value), xs[i]? = some x → vss[i]? = some vs → JAt W ok x vs) :
      JAt W ok (.mk k n s ks xs) [.int .i64 k, .int .i64 n, .string (str s), iv, kv]
theorem JAt.five {W : World} {ok : Nat → Prop} {t : JT} {vs : List Value} (h : JAt W ok t vs) : vs.length = 5 := by cases h; rfl
theorem JAt.frame {W W' : World} {ok : Nat → Prop} {t : JT} {vs : List Value} (h : JAt W ok t vs) (hs : ∀ b, ok b → W'.heap[b]? = W.heap[b]?) : JAt W' ok t vs := by
  induction h with
  | mk hk hi hl hx ih => exact .mk (hk.frame hs) (hi.frame hs) hl ih
theorem JAt.mono {W : World} {ok ok' : Nat → Prop} {t : JT} {vs : List Value} (h : JAt W ok t vs) (hs : ∀ b, ok b → ok' b) : JAt W ok' t vs := by
  induction h with
  | mk hk hi hl hx ih => exact .mk (hk.mono hs) (hi.mono hs) hl ih
theorem JAt.one {W : World} {ok : Nat → Prop} {t : JT} {vs : List Value} (h : JAt W ok t vs) : ∀ u ∈ vs, u.oneCell' = true := by
  cases h with
  | mk hk hi hl hx =>
    obtain ⟨_, a, c, rfl, _⟩ := hk
    obtain ⟨_, a', c', rfl, _⟩ := hi
    intro u hu
    simp at hu
    rcases hu with rfl | rfl | rfl | rfl | rfl <;> rfl

theorem Tryz.infoJ : (Tryz.prog.info? 25).map (fun i => (i.zero, i.size, i.bytes)) = some (some (.agg #[.int .i64 0, .int .i64 0, .string ⟨#[]⟩, .slice none 0 0, .slice none 0 0]), 5, 80) := by kernel_rfl
theorem Tryz.infoS : (Tryz.prog.info? 9).map (fun i => (i.zero, i.size, i.bytes)) = some (some (.string ⟨#[]⟩), 1, 16) := by kernel_rfl
/-- append(v, x), v the call's own row, x one element in a row of its own. -/
theorem appendR {t e : TypeId} {zv : Value} {z bytes : Nat} (ht : Tryz.prog.underlying t = some (.slice e)) (hinf : (Tryz.prog.info? e).map (fun i => (i.zero, i.size, i.bytes)) = some (some zv, z, bytes)) (hzs : zv.cells.size = z) (hz0 : 0 < z) (hby : bytes ≤ 96)
    {w : World} {base : Nat} {v : Value} {n : Nat} {cs : List Value} (h : w.ownsRow base e z v n cs) (Y : Nat) (news : List Value) (hl : news.length = z) (hx : ∀ j, j < z → w.cell? ⟨Y, j, none⟩ = news[j]?) (h1 : ∀ u ∈ news, u.oneCell' = true)
    (hn : n < 1099511627776) (hbase : base ≤ w.heap.size) :
    ∃ a' c' w', (Builtin.append_ #[t, t] t #[v, .slice (some ⟨Y, 0, none⟩) 1 1]).run Tryz.prog w = .ok (.slice a' (n + 1) c') w' ∧ w'.ownsRow base e z (.slice a' (n + 1) c') (n + 1) (cs ++ news) ∧ w.grownBy w' v.ownBlock ∧
      ((Value.slice a' (n + 1) c').ownBlock = v.ownBlock ∨ (Value.slice a' (n + 1) c').ownBlock = some w.heap.size) := by
  obtain ⟨i, hi, hq0, hq1, hq2⟩ := info_parts hinf
  obtain ⟨v', w', r, h2, h3, _, h5⟩ := run_append_own_at (P := Tryz.prog) w base t t e i zv z bytes ht hi hq0 hq1 hq2 hzs hz0 v n cs h ⟨Y, 0, none⟩ 1 1 news (by rw [hl, Nat.one_mul])
    (by intro j u hj
        have hjz : j < z := by rw [← hl]; exact (List.getElem?_eq_some_iff.1 hj).1
        have e : (⟨Y, 0, none⟩ : Addr).add j = ⟨Y, j, none⟩ := by simp [Addr.add]; omega
        rw [e, hx j hjz]; exact hj)
    h1 (by unfold maxLen; omega) (by have := Nat.mul_le_mul (show n + 1 ≤ 1099511627776 from hn) hby; omega) hbase
  have hs : ∃ a' c', v' = .slice a' (n + 1) c' := by
    rcases h2.2 with ⟨rfl, h0⟩ | ⟨g, cap, cur, rfl, _⟩
    · omega
    · exact ⟨_, _, rfl⟩
  obtain ⟨a', c', rfl⟩ := hs
  exact ⟨a', c', w', r, h2, h3, h5⟩
theorem oper_appendR {t e : TypeId} {zv : Value} {z bytes : Nat} (ht : Tryz.prog.underlying t = some (.slice e)) (hinf : (Tryz.prog.info? e).map (fun i => (i.zero, i.size, i.bytes)) = some (some zv, z, bytes)) (hzs : zv.cells.size = z) (hz0 : 0 < z) (hby : bytes ≤ 96)
    {o : Oper} {a : Act} {K : Act → World → Prop} {Q : Exit → Act → World → Prop} {w : World}
    (s x : Operand) (ho : o.op = .call { callee := .builtin .append, args := #[s, x], argTypes := #[t, t] }) (hty : o.type = t)
    (base : Nat) (v : Value) (n : Nat) (cs : List Value) (Y : Nat) (news : List Value) (hs : a.eval s = v) (hxv : a.eval x = .slice (some ⟨Y, 0, none⟩) 1 1)
    (h : w.ownsRow base e z v n cs) (hl : news.length = z) (hx : ∀ j, j < z → w.cell? ⟨Y, j, none⟩ = news[j]?) (h1 : ∀ u ∈ news, u.oneCell' = true) (hn : n < 1099511627776) (hbase : base ≤ w.heap.size)
    (k : ∀ a' c' w', Hid (w'.ownsRow base e z (.slice a' (n + 1) c') (n + 1) (cs ++ news)) → Hid (w.grownBy w' v.ownBlock) → Hid ((Value.slice a' (n + 1) c').ownBlock = v.ownBlock ∨ (Value.slice a' (n + 1) c').ownBlock = some w.heap.size) → K (a.put o.dst (.slice a' (n + 1) c')) w') :
    Oper.wp Tryz.prog o a w K Q := by
  obtain ⟨a', c', w', r, h2, h3, h4⟩ := appendR ht hinf hzs hz0 hby h Y news hl hx h1 hn hbase
  unfold Oper.wp
  rw [exec_append s x _ ho hs hxv (by rw [hty]; exact r)]
  exact k a' c' w' h2 h3 h4
theorem wpList_appendR {t e : TypeId} {zv : Value} {z bytes : Nat} (ht : Tryz.prog.underlying t = some (.slice e)) (hinf : (Tryz.prog.info? e).map (fun i => (i.zero, i.size, i.bytes)) = some (some zv, z, bytes)) (hzs : zv.cells.size = z) (hz0 : 0 < z) (hby : bytes ≤ 96)
    {ops : Array Oper} {rest : List Oper} {o : Oper} {a : Act} {Q : Exit → Act → World → Prop} {w : World}
    (s x : Operand) (ho : o.op = .call { callee := .builtin .append, args := #[s, x], argTypes := #[t, t] }) (hty : o.type = t)
    (hw : Region.wanted o (yielded ops a.tmps) = true)
    (base : Nat) (v : Value) (n : Nat) (cs : List Value) (Y : Nat) (news : List Value) (hs : a.eval s = v) (hxv : a.eval x = .slice (some ⟨Y, 0, none⟩) 1 1)
    (h : w.ownsRow base e z v n cs) (hl : news.length = z) (hx : ∀ j, j < z → w.cell? ⟨Y, j, none⟩ = news[j]?) (h1 : ∀ u ∈ news, u.oneCell' = true) (hn : n < 1099511627776) (hbase : base ≤ w.heap.size)
    (k : ∀ a' c' w', Hid (w'.ownsRow base e z (.slice a' (n + 1) c') (n + 1) (cs ++ news)) → Hid (w.grownBy w' v.ownBlock) → Hid ((Value.slice a' (n + 1) c').ownBlock = v.ownBlock ∨ (Value.slice a' (n + 1) c').ownBlock = some w.heap.size) → wpList Tryz.prog ops Q rest (a.put o.dst (.slice a' (n + 1) c')) w') :
    wpList Tryz.prog ops Q (o :: rest) a w := by
  obtain ⟨a', c', w', r, h2, h3, h4⟩ := appendR ht hinf hzs hz0 hby h Y news hl hx h1 hn hbase
  exact wpList_val hw (exec_append s x _ ho hs hxv (by rw [hty]; exact r)) (k a' c' w' h2 h3 h4)
theorem step_appendR {t e : TypeId} {zv : Value} {z bytes : Nat} (ht : Tryz.prog.underlying t = some (.slice e)) (hinf : (Tryz.prog.info? e).map (fun i => (i.zero, i.size, i.bytes)) = some (some zv, z, bytes)) (hzs : zv.cells.size = z) (hz0 : 0 < z) (hby : bytes ≤ 96)
    {ops : Array Oper} {o : Oper} {a : Act} {K : Act → World → Prop} {Q : Exit → Act → World → Prop} {E : Prop} {w : World} (hgd : o.guard = none)
    (s x : Operand) (ho : o.op = .call { callee := .builtin .append, args := #[s, x], argTypes := #[t, t] }) (hty : o.type = t)
    (base : Nat) (v : Value) (n : Nat) (cs : List Value) (Y : Nat) (news : List Value) (hs : a.eval s = v) (hxv : a.eval x = .slice (some ⟨Y, 0, none⟩) 1 1)
    (h : w.ownsRow base e z v n cs) (hl : news.length = z) (hx : ∀ j, j < z → w.cell? ⟨Y, j, none⟩ = news[j]?) (h1 : ∀ u ∈ news, u.oneCell' = true) (hn : n < 1099511627776) (hbase : base ≤ w.heap.size)
    (k : ∀ a' c' w', Hid (w'.ownsRow base e z (.slice a' (n + 1) c') (n + 1) (cs ++ news)) → Hid (w.grownBy w' v.ownBlock) → Hid ((Value.slice a' (n + 1) c').ownBlock = v.ownBlock ∨ (Value.slice a' (n + 1) c').ownBlock = some w.heap.size) → K (a.put o.dst (.slice a' (n + 1) c')) w') :
    if Region.wanted o (yielded ops a.tmps) = true then Oper.wp Tryz.prog o a w K Q else E := by
  have hw : Region.wanted o (yielded ops a.tmps) = true := by simp [Region.wanted, hgd]
  rw [if_pos hw]
  exact oper_appendR ht hinf hzs hz0 hby s x ho hty base v n cs Y news hs hxv h hl hx h1 hn hbase k

theorem ownsRow_block {W W' : World} {base : Nat} {e : TypeId} {z : Nat} {v : Value} {n : Nat} {cs : List Value} (h : W.ownsRow base e z v n cs) (hs : ∀ b, v.ownBlock = some b → W'.heap[b]? = W.heap[b]?) : W'.ownsRow base e z v n cs := by
  obtain ⟨h1, h2⟩ := h
  refine ⟨h1, ?_⟩
  rcases h2 with h2 | ⟨g, cap, cur, rfl, hbg, hg, hr⟩
  · exact .inl h2
  · exact .inr ⟨g, cap, cur, rfl, hbg, by rw [hs g rfl]; exact hg, hr⟩
/-- Trees in a row that the call grows. -/
structure ItemsO (W : World) (base : Nat) (iv : Value) (xs : List JT) (vss : List (List Value)) : Prop where
  own : W.ownsRow base 25 5 iv xs.length vss.flatten
  len : vss.length = xs.length
  at_ : ∀ (i : Nat) (x : JT) (vs : List Value), xs[i]? = some x → vss[i]? = some vs → JAt W (fun b => base ≤ b ∧ b < W.heap.size ∧ iv.ownBlock ≠ some b) x vs
theorem ItemsO.nil (W : World) (base : Nat) : ItemsO W base (.slice none 0 0) [] [] := ⟨World.ownsRow_nil _ _ _ _, rfl, fun i x vs h => by simp at h⟩
/-- Nothing from base on has turned. -/
theorem ItemsO.later {W W' : World} {base : Nat} {iv : Value} {xs : List JT} {vss : List (List Value)} (h : ItemsO W base iv xs vss) (hs : ∀ b, base ≤ b → b < W.heap.size → W'.heap[b]? = W.heap[b]?) (hz : W.heap.size ≤ W'.heap.size) : ItemsO W' base iv xs vss :=
  ⟨ownsRow_block h.own (fun b hb => hs b (h.own.lt b hb).1 (h.own.lt b hb).2), h.len, fun i x vs h1 h2 => ((h.at_ i x vs h1 h2).frame (fun b hb => hs b hb.1 hb.2.1)).mono (fun b hb => ⟨hb.1, by omega, hb.2.2⟩)⟩
/-- One more. -/
theorem ItemsO.push {W W' : World} {base : Nat} {iv iv' : Value} {xs : List JT} {vss : List (List Value)} {x : JT} {vs : List Value} {ok : Nat → Prop} (h : ItemsO W base iv xs vss) (hx : JAt W ok x vs) (hok : ∀ b, ok b → base ≤ b ∧ b < W.heap.size ∧ iv.ownBlock ≠ some b)
    (hown : W'.ownsRow base 25 5 iv' (xs.length + 1) (vss.flatten ++ vs)) (hg : W.grownBy W' iv.ownBlock) (hb : iv'.ownBlock = iv.ownBlock ∨ iv'.ownBlock = some W.heap.size) : ItemsO W' base iv' (xs ++ [x]) (vss ++ [vs]) := by
  have hmv : ∀ y ws, JAt W (fun b => base ≤ b ∧ b < W.heap.size ∧ iv.ownBlock ≠ some b) y ws → JAt W' (fun b => base ≤ b ∧ b < W'.heap.size ∧ iv'.ownBlock ≠ some b) y ws := by
    intro y ws hy
    have hsz := hg.size
    refine (hy.frame (fun b hb => hg.block b hb.2.1 (fun e => hb.2.2 e.symm))).mono (fun b hb' => ⟨hb'.1, by omega, fun e => ?_⟩)
    rcases hb with h1 | h1
    · exact hb'.2.2 (h1 ▸ e)
    · rw [h1] at e
      have := Option.some.inj e
      omega
  refine ⟨by simpa using hown, by simp [h.len], fun i y ws h1 h2 => ?_⟩
  rcases Nat.lt_trichotomy i xs.length with hi | hi | hi
  · rw [List.getElem?_append_left hi] at h1
    rw [List.getElem?_append_left (by rw [h.len]; exact hi)] at h2
    exact hmv y ws (h.at_ i y ws h1 h2)
  · subst hi
    rw [List.getElem?_append_right (Nat.le_refl _)] at h1
    rw [← h.len, List.getElem?_append_right (Nat.le_refl _)] at h2
    simp at h1 h2
    subst h1 h2
    exact hmv x vs (hx.mono hok)
  · rw [List.getElem?_eq_none (by simp; omega)] at h1
    simp at h1
/-- A whole tree of keys and items that the call has grown. -/
theorem ItemsO.tree {W : World} {base : Nat} {iv kv : Value} {xs : List JT} {vss : List (List Value)} {ks : List (List UInt8)} (h : ItemsO W base iv xs vss) (hk : W.ownsRow base 9 1 kv ks.length (ks.map strV)) (k n : Int) (s : List UInt8) :
    JAt W (fun b => base ≤ b ∧ b < W.heap.size) (.mk k n s ks xs) [.int .i64 k, .int .i64 n, .string (str s), iv, kv] :=
  .mk (RowAt.own hk (fun b hb => hk.lt b hb)) (RowAt.own h.own (fun b hb => h.own.lt b hb)) h.len (fun i x vs h1 h2 => (h.at_ i x vs h1 h2).mono (fun b hb => ⟨hb.1, hb.2.1⟩))

end Go.Proofs.YticfioblapjkmaaGreat

namespace Go.Proofs.YticfioblapjkmaaGreat
open Go.RowKit
set_option linter.unusedVariables false
set_option linter.unusedSimpArgs false

/-- A tree and where it ends, or why there is none. -/
inductive JR where
  | bad (e : Nat)
  | ok (t : JT) (q : Nat)
/-- The refusal of a word that may not stand where it does. -/
def wrongE (m : MT) : Nat := if m.e ≠ 0 then m.e else 20
theorem wrongE_ne (m : MT) : wrongE m ≠ 0 := by unfold wrongE; split <;> omega
/-- The kind of the word that ends them; of the tree. -/
def endK (obj : Bool) : Nat := if obj = true then 2 else 4
def objK (obj : Bool) : Int := if obj = true then 6 else 5
theorem endK_pos (obj : Bool) : endK obj ≠ 0 := by unfold endK; split <;> omega
/-- One item: the keys behind it, and what it is. -/
def mHead (l : List UInt8) (f : MT → JR) (obj : Bool) (p : Nat) (ks : List (List UInt8)) : JR :=
  if obj = true then
    if (mTakeN l p).k ≠ 10 then .bad (wrongE (mTakeN l p))
    else if (mTakeN l p).s ∈ ks then .bad 23
    else if (mTakeN l (mTakeN l p).nx).k ≠ 5 then .bad (wrongE (mTakeN l (mTakeN l p).nx))
    else f (mTakeN l (mTakeN l (mTakeN l p).nx).nx)
  else f (mTakeN l p)
def mKeys (l : List UInt8) (obj : Bool) (p : Nat) (ks : List (List UInt8)) : List (List UInt8) := if obj = true then ks ++ [(mTakeN l p).s] else ks
/-- The items from the word at p on. -/
def mLoop (l : List UInt8) (f : MT → JR) (obj : Bool) (p : Nat) (ks : List (List UInt8)) (xs : List JT) : JR :=
  match mHead l f obj p ks with
  | .bad e => .bad e
  | .ok x q =>
    if (mTakeN l q).k = endK obj then .ok (.mk (objK obj) 0 [] (mKeys l obj p ks) (xs ++ [x])) (mTakeN l q).nx
    else if (mTakeN l q).k ≠ 6 then .bad (wrongE (mTakeN l q))
    else if h : p < (mTakeN l q).nx ∧ (mTakeN l q).nx ≤ l.length then mLoop l f obj (mTakeN l q).nx (mKeys l obj p ks) (xs ++ [x]) else .bad 20
termination_by l.length - p
def mItems (l : List UInt8) (f : MT → JR) (obj : Bool) (p : Nat) : JR :=
  if (mTakeN l p).k = endK obj then .ok (.mk (objK obj) 0 [] [] []) (mTakeN l p).nx else mLoop l f obj p [] []
/-- The tree that begins with the word m, d deep at most. -/
def mVal (l : List UInt8) : Nat → MT → JR
  | 0, m => if m.k = 8 then .ok (.mk 1 0 [] [] []) m.nx else if m.k = 7 then .ok (.mk 2 m.n [] [] []) m.nx else if m.k = 9 then .ok (.mk 3 m.n [] [] []) m.nx else if m.k = 10 then .ok (.mk 4 0 m.s [] []) m.nx
    else if m.k = 1 ∨ m.k = 3 then .bad 21 else .bad (wrongE m)
  | d + 1, m => if m.k = 8 then .ok (.mk 1 0 [] [] []) m.nx else if m.k = 7 then .ok (.mk 2 m.n [] [] []) m.nx else if m.k = 9 then .ok (.mk 3 m.n [] [] []) m.nx else if m.k = 10 then .ok (.mk 4 0 m.s [] []) m.nx
    else if m.k = 1 then mItems l (mVal l d) true m.nx else if m.k = 3 then mItems l (mVal l d) false m.nx else .bad (wrongE m)
/-- What Parse tells. -/
def mParse (l : List UInt8) : JR :=
  match mVal l 32 (mTakeN l 0) with
  | .bad e => .bad e
  | .ok t q => if (mTakeN l q).k = 11 then .ok t q else .bad (wrongE (mTakeN l q))

variable {l : List UInt8}
/-- Of a word: it is one, or there is a reason why not. -/
theorem take_kinds {p : Nat} (hp : p ≤ l.length) : ((mTakeN l p).e = 0 ∧ 1 ≤ (mTakeN l p).k ∧ (mTakeN l p).k ≤ 11 ∧ p ≤ (mTakeN l p).nx ∧ (mTakeN l p).nx ≤ l.length ∧ ((mTakeN l p).k ≠ 11 → p < (mTakeN l p).nx)) ∨ ((mTakeN l p).e ≠ 0 ∧ (mTakeN l p).k = 0) := by
  by_cases he : (mTakeN l p).e = 0
  · left
    by_cases hk : (mTakeN l p).k = 11
    · refine ⟨he, by omega, by omega, ?_, ?_, fun h => absurd hk h⟩
      all_goals
        have hw := wEnd_le hp
        unfold mTakeN at he hk ⊢
        by_cases h1 : wEnd l p = l.length
        · rw [if_pos h1]
          simp only []
          omega
        · rw [if_neg h1] at he hk ⊢
          by_cases h2 : (mWord l (wEnd l p)).e = 0
          · rw [if_pos h2] at hk
            have := mWord_bound h2 (by omega)
            simp only [] at hk
            omega
          · rw [if_neg h2] at he
            exact absurd he h2
    · have hb := mTake_bound hp he hk
      refine ⟨he, ?_, ?_, by omega, hb.2.1, fun _ => hb.1⟩
      all_goals
        have hw := wEnd_le hp
        unfold mTakeN at he hk ⊢
        by_cases h1 : wEnd l p = l.length
        · rw [if_pos h1] at hk; simp at hk
        · rw [if_neg h1] at he ⊢
          by_cases h2 : (mWord l (wEnd l p)).e = 0
          · rw [if_pos h2]
            have := mWord_bound h2 (by omega)
            simp only []
            omega
          · rw [if_neg h2] at he
            exact absurd he h2
  · right
    refine ⟨he, ?_⟩
    unfold mTakeN at he ⊢
    by_cases h1 : wEnd l p = l.length
    · rw [if_pos h1] at he; simp at he
    · rw [if_neg h1] at he ⊢
      by_cases h2 : (mWord l (wEnd l p)).e = 0
      · rw [if_pos h2] at he; simp at he
      · rw [if_neg h2]
/-- A result that keeps within the text. -/
def JR.within (l : List UInt8) (p : Nat) : JR → Prop
  | .bad e => e ≠ 0
  | .ok _ q => p ≤ q ∧ q ≤ l.length
theorem JR.within.mono {p p' : Nat} {r : JR} (h : r.within l p) (hp : p' ≤ p) : r.within l p' := by
  cases r with
  | bad e => exact h
  | ok t q => exact ⟨by have := h.1; omega, h.2⟩
/-- What a tree's reading promises. -/
def Reads (l : List UInt8) (f : MT → JR) : Prop := ∀ m : MT, (m.k = 0 → f m = .bad (wrongE m)) ∧ (m.k ≠ 0 → m.nx ≤ l.length → (f m).within l m.nx)
/-- One item's end: the loop's step. -/
def mAfter (l : List UInt8) (f : MT → JR) (obj : Bool) (ks : List (List UInt8)) (xs : List JT) (r : JR) : JR :=
  match r with
  | .bad e => .bad e
  | .ok x q => if (mTakeN l q).k = endK obj then .ok (.mk (objK obj) 0 [] ks (xs ++ [x])) (mTakeN l q).nx
    else if (mTakeN l q).k ≠ 6 then .bad (wrongE (mTakeN l q)) else mLoop l f obj (mTakeN l q).nx ks (xs ++ [x])
theorem item_within {f : MT → JR} (hf : Reads l f) {p : Nat} (hp : p ≤ l.length) : (f (mTakeN l p)).within l p := by
  have hk := take_kinds hp
  rcases hk with hk | hk
  · exact ((hf _).2 (by omega) hk.2.2.2.2.1).mono hk.2.2.2.1
  · rw [(hf _).1 hk.2]
    exact wrongE_ne _
theorem head_within {f : MT → JR} (hf : Reads l f) {obj : Bool} {p : Nat} (hp : p ≤ l.length) (ks : List (List UInt8)) : (mHead l f obj p ks).within l p := by
  unfold mHead
  cases obj with
  | false => exact item_within hf hp
  | true =>
    simp only [if_true]
    have hk := take_kinds hp
    split
    · exact wrongE_ne _
    · split
      · exact (by decide : (23 : Nat) ≠ 0)
      · have hk1 := take_kinds (l := l) (p := (mTakeN l p).nx) (by omega)
        split
        · exact wrongE_ne _
        · exact (item_within (l := l) (f := f) hf (p := (mTakeN l (mTakeN l p).nx).nx) (by omega)).mono (by omega)
theorem loop_eq {f : MT → JR} (hf : Reads l f) {obj : Bool} {p : Nat} (hp : p ≤ l.length) (ks : List (List UInt8)) (xs : List JT) :
    mLoop l f obj p ks xs = mAfter l f obj (mKeys l obj p ks) xs (mHead l f obj p ks) := by
  have hw := head_within hf (obj := obj) hp ks
  rw [mLoop]
  unfold mAfter
  cases hr : mHead l f obj p ks with
  | bad e => rfl
  | ok x q =>
    rw [hr] at hw
    have h1 : p ≤ q := hw.1
    have h2 : q ≤ l.length := hw.2
    have hk := take_kinds h2
    simp only []
    split
    · rfl
    · split
      · rfl
      · rename_i h6
        rw [dif_pos (by omega)]
theorem loop_within {f : MT → JR} (hf : Reads l f) {obj : Bool} : ∀ (n : Nat) {p : Nat}, l.length - p ≤ n → p ≤ l.length → ∀ (ks : List (List UInt8)) (xs : List JT), (mLoop l f obj p ks xs).within l p := by
  intro n
  induction n with
  | zero =>
    intro p hn hp ks xs
    have hw := head_within hf (obj := obj) hp ks
    rw [mLoop]
    cases hr : mHead l f obj p ks with
    | bad e => rw [hr] at hw; exact hw
    | ok x q =>
      rw [hr] at hw
      have h1 : p ≤ q := hw.1
      have h2 : q ≤ l.length := hw.2
      have hk := take_kinds h2
      simp only []
      split
      · rename_i h4
        have : (mTakeN l q).k ≠ 0 := by rw [h4]; exact endK_pos obj
        exact ⟨by omega, by omega⟩
      · split
        · exact wrongE_ne _
        · rename_i h6
          omega
  | succ n ih =>
    intro p hn hp ks xs
    have hw := head_within hf (obj := obj) hp ks
    rw [mLoop]
    cases hr : mHead l f obj p ks with
    | bad e => rw [hr] at hw; exact hw
    | ok x q =>
      rw [hr] at hw
      have h1 : p ≤ q := hw.1
      have h2 : q ≤ l.length := hw.2
      have hk := take_kinds h2
      simp only []
      split
      · rename_i h4
        have : (mTakeN l q).k ≠ 0 := by rw [h4]; exact endK_pos obj
        exact ⟨by omega, by omega⟩
      · split
        · exact wrongE_ne _
        · rename_i h6
          rw [dif_pos (by omega)]
          exact (ih (by omega) (by omega) _ _).mono (by omega)
theorem items_within {f : MT → JR} (hf : Reads l f) {obj : Bool} {p : Nat} (hp : p ≤ l.length) : (mItems l f obj p).within l p := by
  have hk := take_kinds hp
  unfold mItems
  split
  · rename_i h4
    have : (mTakeN l p).k ≠ 0 := by rw [h4]; exact endK_pos obj
    exact ⟨by omega, by omega⟩
  · exact loop_within hf _ (Nat.le_refl _) hp _ _
theorem reads_val : ∀ d, Reads l (mVal l d) := by
  intro d
  induction d with
  | zero =>
    intro m
    refine ⟨fun h => ?_, fun h hn => ?_⟩
    · unfold mVal
      simp [h]
    · unfold mVal
      repeat' split
      all_goals first | exact ⟨Nat.le_refl _, hn⟩ | exact wrongE_ne _ | exact (by decide : (21 : Nat) ≠ 0)
  | succ d ih =>
    intro m
    refine ⟨fun h => ?_, fun h hn => ?_⟩
    · unfold mVal
      simp [h]
    · unfold mVal
      repeat' split
      all_goals first | exact ⟨Nat.le_refl _, hn⟩ | exact wrongE_ne _ | exact items_within ih hn

end Go.Proofs.YticfioblapjkmaaGreat

namespace Go.Proofs.YticfioblapjkmaaGreat
open Go.RowKit
set_option linter.unusedVariables false
set_option linter.unusedSimpArgs false

/-- The parser at block X: its place, its refusal; whatever its last word was. -/
def Par (W : World) (X : Nat) (bv : Value) (p e k n : Int) (s : ByteArray) (at_ nx : Int) : Prop :=
  Blk W X #[bv, .int .i64 p, .int .i64 e, .int .i64 k, .int .i64 n, .string s, .int .i64 at_, .int .i64 nx] 53
def Any (W : World) (X : Nat) (bv : Value) (p e : Int) : Prop := ∃ k n s at_ nx, Par W X bv p e k n s at_ nx
def Bad (W : World) (X : Nat) (bv : Value) (e : Nat) : Prop := e ≠ 0 ∧ ∃ p, Any W X bv p (e : Int)
def Good (W : World) (X : Nat) (bv : Value) (m : MT) : Prop := Par W X bv (m.nx : Int) 0 (m.k : Int) m.n (str m.s) (m.at_ : Int) (m.nx : Int)
/-- The parser has just taken the word m. -/
def Took (W : World) (X : Nat) (bv : Value) (m : MT) : Prop := (m.e = 0 ∧ Good W X bv m) ∨ (m.k = 0 ∧ Bad W X bv m.e)
/-- Its bytes. -/
structure PEnv (W : World) (X : Nat) (a : Option Addr) (b off c : Nat) (l : List UInt8) : Prop where
  bytes : BytesAt W a b off l
  apart : l ≠ [] → b < X
  len : l.length ≤ c
  big : l.length ≤ 1000000
  nil : a = none → c = 0
variable {W W' : World} {X : Nat} {a : Option Addr} {b off c : Nat} {l : List UInt8}
theorem PEnv.near (h : PEnv W X a b off c l) {B : Nat} (hn : Near X B W W') : PEnv W' X a b off c l := ⟨h.bytes.keep hn.below h.apart, h.apart, h.len, h.big, h.nil⟩
theorem PEnv.below (h : PEnv W X a b off c l) {B : Nat} (hn : Below B W W') (hX : X ≤ B) : PEnv W' X a b off c l := ⟨h.bytes.keep hn (fun hh => by have := h.apart hh; omega), h.apart, h.len, h.big, h.nil⟩
theorem Near.later {X B B' : Nat} {w w1 w2 : World} (h : Near X B w w1) (h' : Near X B' w1 w2) (hB : B ≤ B') : Near X B w w2 := ⟨h.below.trans h'.below, fun k h1 h2 => (h'.far k (by omega) h2).trans (h.far k h1 h2)⟩

theorem Near.put5 {X B H : Nat} {w w1 : World} (h : Near X B w w1) (hX : X ≤ B) (hB : B ≤ H) (v0 v1 v2 v3 v4 : Value) : Near X B w (put5 w1 H v0 v1 v2 v3 v4) :=
  h.on (below_put5 (Below.refl B w1) hB v0 v1 v2 v3 v4) hX
theorem Near.ofBelow {X B : Nat} {w w1 : World} (h : Below B w w1) (hX : X ≤ B) : Near X B w w1 := ⟨h.mono hX, fun k h1 _ => h.block k h1⟩

theorem Blk.offX {w : World} {X Y : Nat} {C : Array Value} {T : TypeId} (h : Blk w Y C T) (hne : Y ≠ X) (j : Nat) (v : Value) : Blk (w.setCell ⟨X, j, none⟩ v) Y C T :=
  h.other (setCell_grown _ X j v) (by simpa using hne)
def put6 (w : World) (X : Nat) (k n : Int) (s : ByteArray) (at_ nx : Int) : World :=
  ((((((w.setCell ⟨X, 3, none⟩ (.int .i64 k)).setCell ⟨X, 4, none⟩ (.int .i64 n)).setCell ⟨X, 5, none⟩ (.string s)).setCell ⟨X, 6, none⟩ (.int .i64 at_)).setCell ⟨X, 7, none⟩ (.int .i64 nx)).setCell ⟨X, 1, none⟩ (.int .i64 nx)).drew
theorem Par.put6 {w : World} {X : Nat} {bv : Value} {p e k n : Int} {s : ByteArray} {at_ nx : Int} (h : Par w X bv p e k n s at_ nx) (k' n' : Int) (s' : ByteArray) (a' x' : Int) : Par (Go.Proofs.YticfioblapjkmaaGreat.put6 w X k' n' s' a' x') X bv x' e k' n' s' a' x' :=
  ((((((Blk.set (C := #[bv, .int .i64 p, .int .i64 e, .int .i64 k, .int .i64 n, .string s, .int .i64 at_, .int .i64 nx]) h 3 (.int .i64 k')).set 4 (.int .i64 n')).set 5 (.string s')).set 6 (.int .i64 a')).set 7 (.int .i64 x')).set 1 (.int .i64 x')).drewN 1
theorem Blk.put6 {w : World} {X Y : Nat} {C : Array Value} {T : TypeId} (h : Blk w Y C T) (hne : Y ≠ X) (k' n' : Int) (s' : ByteArray) (a' x' : Int) : Blk (Go.Proofs.YticfioblapjkmaaGreat.put6 w X k' n' s' a' x') Y C T :=
  ((((((h.offX hne 3 _).offX hne 4 _).offX hne 5 _).offX hne 6 _).offX hne 7 _).offX hne 1 _).drewN 1
theorem Near.put6 {X B : Nat} {w w1 : World} (h : Near X B w w1) (k' n' : Int) (s' : ByteArray) (a' x' : Int) : Near X B w (Go.Proofs.YticfioblapjkmaaGreat.put6 w1 X k' n' s' a' x') :=
  ((((((h.setX 3 _).setX 4 _).setX 5 _).setX 6 _).setX 7 _).setX 1 _).drew
theorem Par.keep {W W' : World} {X : Nat} {bv : Value} {p e k n : Int} {s : ByteArray} {at_ nx : Int} (h : Par W X bv p e k n s at_ nx) (hs : W'.heap[X]? = W.heap[X]?) : Par W' X bv p e k n s at_ nx := hs.trans h

set_option maxRecDepth 100000 in
set_option maxHeartbeats 2000000 in
theorem ptake_any (hE : PEnv W X a b off c l) {p : Nat} (hp : p ≤ l.length) (hs : Any W X (.slice a l.length c) (p : Int) 0) :
    Calls Tryz.prog 20 #[.pointer (some ⟨X, 0, none⟩)] W fun r W' => r = .returned (.int .i64 ((mTakeN l p).k : Int)) ∧ Near X W.heap.size W W' ∧ Took W' X (.slice a l.length c) (mTakeN l p) := by
  obtain ⟨k0, n0, s0, a0, x0, hP⟩ := hs
  have hXs := hP.lt
  obtain ⟨H, hH⟩ : ∃ H, W.heap.size = H := ⟨_, rfl⟩
  rw [hH] at hXs ⊢
  have hkd := take_kinds hp
  obtain ⟨m, hm⟩ : ∃ m, m = mTakeN l p := ⟨_, rfl⟩
  have htk : ∀ W1, Below H W W1 → Calls Tryz.prog 38 #[.slice a l.length c, .int .i64 (p : Int)] W1 fun r w' => r = .returned (.tuple #[.agg #[.int .i64 (m.k : Int), .int .i64 m.n, .string (str m.s), .int .i64 (m.at_ : Int), .int .i64 (m.nx : Int)], .int .i64 (m.e : Int)]) ∧ Below W1.heap.size W1 w' := by
    intro W1 hB
    have hE1 := hE.below hB (by omega)
    have := take_any (w := W1) hE1.bytes (fun hne => by have := hE1.apart hne; have := hB.size; omega) hE1.len (by have := hE1.big; omega) hE1.nil (p : Int)
    rw [show mTake l (p : Int) = m from by rw [hm]; unfold mTake; rw [if_neg (by omega)]; rfl] at this
    exact this
  rw [← hm] at hkd ⊢
  obtain ⟨eI, heI⟩ : ∃ eI : Int, eI = (m.e : Int) := ⟨_, rfl⟩
  rw [← heI] at htk
  replace heI := Lib.hid heI
  replace htk := Lib.hid htk
  have hB0 : Below H W W.drew := (Below.refl H W).drew
  have hB1 := Lib.hid fun o => ((Below.refl H W).alloc (by omega) o).drew
  have c0 := hP.cell 0
  have c1 := hP.cell 1
  have c2 := hP.cell 2
  have k0a := fun o => (hP.kept ((Below.refl H W).alloc (by omega) o) hXs).cell 0
  have k1a := fun o => (hP.kept ((Below.refl H W).alloc (by omega) o) hXs).cell 1
  have hz0 : Blk ((W.alloc (.cells #[.int .i64 0, .int .i64 0, .string ⟨#[]⟩, .int .i64 0, .int .i64 0] 51)).drew) H #[.int .i64 0, .int .i64 0, .string ⟨#[]⟩, .int .i64 0, .int .i64 0] 51 := Blk.made W _ _ H hH
  replace hz0 := Lib.hid hz0
  replace hkd := Lib.hid hkd
  replace hP := Lib.hid hP
  clear hE hm hp
  go_enter Tryz.func20, Tryz.ntmps20
  go_wp2_with fail
  go_cut [3, 4] from 10 to 21 (fun v3 v4 W1 => ∃ H3, v3 = .pointer (some ⟨H3, 0, none⟩) ∧ v4 = .int .i64 eI ∧ H ≤ H3 ∧ Blk W1 H3 #[.int .i64 (m.k : Int), .int .i64 m.n, .string (str m.s), .int .i64 (m.at_ : Int), .int .i64 (m.nx : Int)] 51 ∧ Below H W W1)
  case first =>
    go_region_law (go_simp; go_at_call 38; refine (htk.out _ (by first | exact hB0 | exact hB1.out _)).mono ?_; rintro r w1 ⟨rfl, hb1⟩; obtain ⟨Y, hY⟩ : ∃ Y, w1.heap.size = Y := ⟨_, rfl⟩; first | (have hzz := hz0.out.kept hb1 (by simp; omega); have zc := fun j => hzz.cell j; have zf := fun j => hzz.free j) | skip)
    all_goals
      go_wp2_with fail
      go_meet
      case rel =>
        have hz := hb1.size
        rw [hY] at hz
        first
          | exact ⟨H, rfl, rfl, Nat.le_refl _, Blk.put5 hzz _ _ _ _ _, below_put5 ((hB1.out _).trans (hb1.mono (by simp; omega))) (Nat.le_refl _) _ _ _ _ _⟩
          | exact ⟨Y, rfl, rfl, (by simp [hH] at hz; omega), Blk.made w1 _ _ Y hY, (hB0.trans (hb1.mono (by show H ≤ W.heap.size; omega))).alloc (by simp [hH] at hz; omega) _⟩
  case rest =>
    obtain ⟨H3, rfl, rfl, hH3, hZ, hBw⟩ := hcut
    have hPc := hP.out.kept hBw hXs
    have d0 := hZ.cell 0
    have d1 := hZ.cell 1
    have d2 := hZ.cell 2
    have d3 := hZ.cell 3
    have d4 := hZ.cell 4
    have f1 := hPc.free 1
    have f2 := hPc.free 2
    have f3 := hPc.free 3
    have f4 := hPc.free 4
    have f5 := hPc.free 5
    have f6 := hPc.free 6
    have f7 := hPc.free 7
    have p1 := hPc.cell 1
    have p2 := hPc.cell 2
    have p3 := hPc.cell 3
    have p4 := hPc.cell 4
    have p5 := hPc.cell 5
    have p6 := hPc.cell 6
    have p7 := hPc.cell 7
    have hXH : X ≠ H3 := by omega
    have hN := Near.ofBelow hBw (by omega : X ≤ H)
    replace hPc := Lib.hid hPc
    replace hZ := Lib.hid hZ
    replace hN := Lib.hid hN
    clear c0 c1 c2 k0a k1a hz0 hB1 hB0 htk hBw hP
    by_cases he : m.e = 0
    · obtain rfl : eI = 0 := by rw [heI.out, he]; rfl
      replace he := Lib.hid he
      go_wp2_with fail
      go_cut [] from 28 to 36 (fun W2 => Par W2 X (.slice a l.length c) (m.nx : Int) 0 (m.k : Int) m.n (str m.s) (m.at_ : Int) (m.nx : Int) ∧ Blk W2 H3 #[.int .i64 (m.k : Int), .int .i64 m.n, .string (str m.s), .int .i64 (m.at_ : Int), .int .i64 (m.nx : Int)] 51 ∧ Near X H W W2)
      case first =>
        go_region_law (fail)
        all_goals
          go_wp2_with fail
          go_meet
          case rel =>
            exact ⟨Par.put6 hPc.out _ _ _ _ _, hZ.out.put6 (fun e => hXH e.symm) _ _ _ _ _, hN.out.put6 _ _ _ _ _⟩
      case rest =>
        obtain ⟨hP2, hZ2, hN2⟩ := hcut
        have g0 := hZ2.cell 0
        replace hP2 := Lib.hid hP2
        replace hN2 := Lib.hid hN2
        clear hZ2 d0 d1 d2 d3 d4 f1 f2 f3 f4 f5 f6 f7 p1 p2 p3 p4 p5 p6 p7 hN hZ hPc
        go_wp2_with fail
        go_ret
        exact ⟨rfl, hN2.out, .inl ⟨he.out, hP2.out⟩⟩
    · have hez : (eI == 0) = false := by rw [heI.out]; simp; omega
      have hk0 : m.k = 0 := by have := hkd.out; omega
      replace hk0 := Lib.hid hk0
      go_wp2_with fail
      go_ret
      exact ⟨by rw [hk0.out]; rfl, hN.out.setX 2 _, .inr ⟨hk0.out, he, (p : Int), k0, n0, s0, a0, x0, by have := hPc.out.set 2 (.int .i64 eI); rw [heI.out] at this ⊢; exact this⟩⟩

end Go.Proofs.YticfioblapjkmaaGreat

namespace Go.Proofs.YticfioblapjkmaaGreat
open Go.RowKit
set_option linter.unusedVariables false
set_option linter.unusedSimpArgs false

variable {W W' : World} {X : Nat} {a : Option Addr} {b off c : Nat} {l : List UInt8} {bv : Value} {e : Nat}
set_option maxRecDepth 100000 in
set_option maxHeartbeats 400000 in
theorem ptake_bad (h : Bad W X bv e) : Calls Tryz.prog 20 #[.pointer (some ⟨X, 0, none⟩)] W fun r W' => r = .returned (.int .i64 0) ∧ W = W' := by
  obtain ⟨he, p, k, n, s, at_, nx, hP⟩ := h
  have c2 := hP.cell 2
  have hez : ((e : Int) == 0) = false := by simp; omega
  replace hP := Lib.hid hP
  go_enter Tryz.func20, Tryz.ntmps20
  go_wp2_with fail
  go_ret
  exact ⟨rfl, rfl⟩
set_option maxRecDepth 100000 in
set_option maxHeartbeats 400000 in
theorem pfail_bad (h : Bad W X bv e) (x : Int) : Calls Tryz.prog 35 #[.pointer (some ⟨X, 0, none⟩), .int .i64 x] W fun r W' => r = .returned (.tuple #[]) ∧ W = W' := by
  obtain ⟨he, p, k, n, s, at_, nx, hP⟩ := h
  have c2 := hP.cell 2
  have hez : ((e : Int) == 0) = false := by simp; omega
  replace hP := Lib.hid hP
  go_enter Tryz.func35, Tryz.ntmps35
  go_wp2_with fail
  go_end0
  exact ⟨rfl, rfl⟩
set_option maxRecDepth 100000 in
set_option maxHeartbeats 400000 in
theorem pfail_any {p : Int} (h : Any W X bv p 0) (x : Nat) (hx : x ≠ 0) : Calls Tryz.prog 35 #[.pointer (some ⟨X, 0, none⟩), .int .i64 (x : Int)] W fun r W' => r = .returned (.tuple #[]) ∧ Near X W.heap.size W W' ∧ Bad W' X bv x := by
  obtain ⟨k, n, s, at_, nx, hP⟩ := h
  have c2 := hP.cell 2
  have f2 := hP.free 2
  have hN := (Near.refl X W.heap.size W).setX 2 (.int .i64 (x : Int))
  have hP2 : Bad (W.setCell ⟨X, 2, none⟩ (.int .i64 (x : Int))) X bv x := ⟨hx, p, k, n, s, at_, nx, Blk.set hP 2 _⟩
  replace hP := Lib.hid hP
  replace hN := Lib.hid hN
  replace hP2 := Lib.hid hP2
  go_enter Tryz.func35, Tryz.ntmps35
  go_wp2_with fail
  go_end0
  exact ⟨rfl, hN.out, hP2.out⟩
theorem Good.any {m : MT} (h : Good W X bv m) : Any W X bv (m.nx : Int) 0 := ⟨_, _, _, _, _, h⟩
/-- What want leaves of the word m. -/
def Wanted (W : World) (X : Nat) (bv : Value) (kind : Nat) (m : MT) : Prop := (m.k = kind ∧ m.e = 0 ∧ Good W X bv m) ∨ (m.k ≠ kind ∧ Bad W X bv (wrongE m))
set_option maxRecDepth 100000 in
set_option maxHeartbeats 1000000 in
theorem pwant_any (hE : PEnv W X a b off c l) {p : Nat} (hp : p ≤ l.length) (hs : Any W X (.slice a l.length c) (p : Int) 0) (kind : Nat) (hk : kind ≠ 0) :
    Calls Tryz.prog 21 #[.pointer (some ⟨X, 0, none⟩), .int .i64 (kind : Int)] W fun r W' => r = .returned (.tuple #[]) ∧ Near X W.heap.size W W' ∧ Wanted W' X (.slice a l.length c) kind (mTakeN l p) := by
  have htk := Lib.hid (ptake_any hE hp hs)
  have hkd := take_kinds hp
  obtain ⟨m, hm⟩ : ∃ m, m = mTakeN l p := ⟨_, rfl⟩
  rw [← hm] at htk hkd ⊢
  clear hE hs hp
  replace hm := Lib.hid hm
  replace hkd := Lib.hid hkd
  by_cases hkk : m.k = kind
  · have hki : ((m.k : Int) == (kind : Int)) = true := by rw [hkk]; simp
    go_enter Tryz.func21, Tryz.ntmps21
    go_wp2_with fail
    refine htk.out.mono ?_
    rintro r W1 ⟨rfl, hN, hT⟩
    replace hN := Lib.hid hN
    replace hT := Lib.hid hT
    rw [hkk]
    replace hkk := Lib.hid hkk
    clear hki
    go_wp2_with fail
    go_end0
    refine ⟨rfl, hN.out, ?_⟩
    rcases hT.out with h | h
    · exact .inl ⟨hkk.out, h.1, h.2⟩
    · exact absurd (h.1.symm.trans hkk.out) (fun e => hk e.symm)
  · have hki : ((m.k : Int) == (kind : Int)) = false := by simp; omega
    replace hkk := Lib.hid hkk
    have hki2 : ((0 : Int) == (kind : Int)) = false := by simp; omega
    go_enter Tryz.func21, Tryz.ntmps21
    go_wp2_with fail
    refine htk.out.mono ?_
    rintro r W1 ⟨rfl, hN, hT⟩
    rcases hT with ⟨he, hG⟩ | ⟨hk0, hB⟩
    · have hfl := Lib.hid (pfail_any hG.any 20 (by decide))
      replace hN := Lib.hid hN
      replace hG := Lib.hid hG
      replace he := Lib.hid he
      go_wp2_with fail
      refine hfl.out.mono ?_
      rintro r W2 ⟨rfl, hN2, hB2⟩
      have hN3 := Lib.hid (hN.out.later hN2 hN.out.below.size)
      clear hN2
      replace hB2 := Lib.hid hB2
      go_wp2_with fail
      go_end0
      exact ⟨rfl, hN3.out, .inr ⟨hkk.out, by have := hB2.out; unfold wrongE; rw [if_neg (by simpa using he.out)]; exact this⟩⟩
    · have hfl := Lib.hid (pfail_bad hB 20)
      have hez := hB.1
      replace hN := Lib.hid hN
      replace hB := Lib.hid hB
      rw [hk0]
      replace hk0 := Lib.hid hk0
      replace hez := Lib.hid hez
      clear hki
      go_wp2_with fail
      refine hfl.out.mono ?_
      rintro r W2 ⟨rfl, rfl⟩
      go_wp2_with fail
      go_end0
      exact ⟨rfl, hN.out, .inr ⟨hkk.out, by have := hB.out; unfold wrongE; rw [if_pos hez.out]; exact this⟩⟩
set_option maxRecDepth 100000 in
set_option maxHeartbeats 1000000 in
theorem pwant_bad (hB : Bad W X bv e) (kind : Nat) (hk : kind ≠ 0) : Calls Tryz.prog 21 #[.pointer (some ⟨X, 0, none⟩), .int .i64 (kind : Int)] W fun r W' => r = .returned (.tuple #[]) ∧ W = W' := by
  have htk := Lib.hid (ptake_bad hB)
  have hfl := Lib.hid (pfail_bad hB 20)
  have hki2 : ((0 : Int) == (kind : Int)) = false := by simp; omega
  clear hB
  go_enter Tryz.func21, Tryz.ntmps21
  go_wp2_with fail
  refine htk.out.mono ?_
  rintro r W1 ⟨rfl, rfl⟩
  go_wp2_with fail
  refine hfl.out.mono ?_
  rintro r W2 ⟨rfl, rfl⟩
  go_wp2_with fail
  go_end0
  exact ⟨rfl, rfl⟩

end Go.Proofs.YticfioblapjkmaaGreat

namespace Go.Proofs.YticfioblapjkmaaGreat
open Go.RowKit
set_option linter.unusedVariables false
set_option linter.unusedSimpArgs false

variable {W W' : World} {X : Nat} {a : Option Addr} {b off c : Nat} {l : List UInt8} {bv : Value} {e : Nat}
/-- What a tree's reading leaves. -/
def VPost (W : World) (X : Nat) (bv : Value) (R : JR) (r : Ending) (W' : World) : Prop :=
  ∃ v0 v1 v2 v3 v4 : Value, r = .returned (.agg #[v0, v1, v2, v3, v4]) ∧ (∀ u ∈ [v0, v1, v2, v3, v4], u.oneCell' = true) ∧ Near X W.heap.size W W' ∧ (∀ e, R = .bad e → Bad W' X bv e) ∧
    (∀ t q, R = .ok t q → Any W' X bv (q : Int) 0 ∧ JAt W' (fun b => W.heap.size ≤ b ∧ b < W'.heap.size) t [v0, v1, v2, v3, v4])
/-- The contract of value, d deep at most. -/
def ValC (X : Nat) (a : Option Addr) (b off c : Nat) (l : List UInt8) (d : Nat) : Prop :=
  ∀ (W : World) (m : MT), PEnv W X a b off c l → X < W.heap.size → Took W X (.slice a l.length c) m → (m.k ≠ 0 → m.nx ≤ l.length) →
    Calls Tryz.prog 19 #[.pointer (some ⟨X, 0, none⟩), .int .i64 (m.k : Int), .int .i64 ((32 - d : Nat) : Int)] W (VPost W X (.slice a l.length c) (mVal l d m))
set_option maxRecDepth 100000 in
theorem pfail_took {m : MT} (h : Took W X bv m) : Calls Tryz.prog 35 #[.pointer (some ⟨X, 0, none⟩), .int .i64 20] W fun r W' => r = .returned (.tuple #[]) ∧ Near X W.heap.size W W' ∧ Bad W' X bv (wrongE m) := by
  rcases h with ⟨he, hG⟩ | ⟨hk, hB⟩
  · refine (pfail_any hG.any 20 (by decide)).mono ?_
    rintro r W' ⟨rfl, h1, h2⟩
    exact ⟨rfl, h1, by unfold wrongE; rw [if_neg (by simpa using he)]; exact h2⟩
  · refine (pfail_bad hB 20).mono ?_
    rintro r W' ⟨rfl, rfl⟩
    exact ⟨rfl, Near.refl _ _ _, by unfold wrongE; rw [if_pos hB.1]; exact hB⟩
theorem list_ret {W : World} {H : Nat} {v0 v1 v2 v3 v4 : Value} (tmps : Array Value) (hz : tmps[4]?.getD undef = .pointer (some ⟨H, 0, none⟩)) (hc : ∀ j, W.cell? ⟨H, j, none⟩ = (#[v0, v1, v2, v3, v4] : Array Value)[j]?) :
    (results Tryz.f37 tmps).run Tryz.prog W = .ok (.agg #[v0, v1, v2, v3, v4]) W := by
  simp [results, Tryz.results37, go_sem, hz, hc]
def z5J : Array Value := #[.int .i64 0, .int .i64 0, .string ⟨#[]⟩, .slice none 0 0, .slice none 0 0]
def listC (iv : Value) : Array Value := #[.int .i64 5, .int .i64 0, .string ⟨#[]⟩, iv, .slice none 0 0]
/-- What the list's loop keeps while nothing is wrong. -/
structure LAlive (R : JR) (W0 : World) (X : Nat) (a : Option Addr) (b off c : Nat) (l : List UInt8) (f : MT → JR) (H4 : Nat) (wr : World) (p : Nat) (xs : List JT) (iv : Value) (vss : List (List Value)) : Prop where
  pos : p ≤ l.length
  word : (mTakeN l p).e = 0
  good : Good wr X (.slice a l.length c) (mTakeN l p)
  res : R = mLoop l f false p [] xs
  few : xs.length ≤ p
  b4 : Blk wr H4 z5J 25
  b5 : Blk wr (H4 + 1) (listC iv) 25
  items : ItemsO wr (H4 + 2) iv xs vss
  near : Near X H4 W0 wr
structure LDead (R : JR) (W0 : World) (X : Nat) (bv : Value) (H4 : Nat) (wr : World) (e : Nat) (iv : Value) : Prop where
  bad : Bad wr X bv e
  res : R = .bad e
  b4 : Blk wr H4 z5J 25
  b5 : Blk wr (H4 + 1) (listC iv) 25
  one : ∃ a n c, iv = .slice a n c
  near : Near X H4 W0 wr
def LRel (R : JR) (W0 : World) (X : Nat) (a : Option Addr) (b off c : Nat) (l : List UInt8) (f : MT → JR) (H4 : Nat) (t : Value) (wr : World) : Prop :=
  (∃ p xs iv vss, t = .int .i64 ((mTakeN l p).k : Int) ∧ LAlive R W0 X a b off c l f H4 wr p xs iv vss) ∨ (∃ e iv k, t = .int .i64 k ∧ LDead R W0 X (.slice a l.length c) H4 wr e iv)
theorem own_near {wr w1 : World} {base X : Nat} {e : TypeId} {z : Nat} {v : Value} {n : Nat} {cs : List Value} (h : wr.ownsRow base e z v n cs) (hN : Near X wr.heap.size wr w1) (hX : X < base) (o : Obj) : (w1.alloc o).ownsRow base e z v n cs :=
  ownsRow_block h (fun b hb => by
    have h1 := h.lt b hb
    have h2 := hN.below.size
    rw [heap_alloc_old w1 _ (by omega)]
    exact hN.far b h1.2 (by omega))
/-- An item is appended: what is left of the memory. -/
theorem list_step {W0 wr W1 W2 : World} {H4 : Nat} {iv : Value} {xs : List JT} {vss : List (List Value)} {v0 v1 v2 v3 v4 : Value} {a' : Option Addr} {c' : Nat} {C4 C5 : Array Value} (hX : X < H4) (h4 : Blk wr H4 C4 25) (h5 : Blk wr (H4 + 1) C5 25) (hI : ItemsO wr (H4 + 2) iv xs vss) (hN0 : Near X H4 W0 wr)
    (hN1 : Near X wr.heap.size wr W1) (hown2 : W2.ownsRow (H4 + 2) 25 5 (.slice a' (xs.length + 1) c') (xs.length + 1) (vss.flatten ++ [v0, v1, v2, v3, v4]))
    (hg2 : (W1.alloc (.cells #[v0, v1, v2, v3, v4] 25)).grownBy W2 iv.ownBlock) (hb2 : (Value.slice a' (xs.length + 1) c').ownBlock = iv.ownBlock ∨ (Value.slice a' (xs.length + 1) c').ownBlock = some (W1.heap.size + 1)) :
    Near X H4 W0 (W2.setCell ⟨H4 + 1, 3, none⟩ (.slice a' (xs.length + 1) c')) ∧ Blk (W2.setCell ⟨H4 + 1, 3, none⟩ (.slice a' (xs.length + 1) c')) H4 C4 25 ∧
    Blk (W2.setCell ⟨H4 + 1, 3, none⟩ (.slice a' (xs.length + 1) c')) (H4 + 1) (C5.setIfInBounds 3 (.slice a' (xs.length + 1) c')) 25 ∧
    (∀ p e bv, Any W1 X bv p e → Any (W2.setCell ⟨H4 + 1, 3, none⟩ (.slice a' (xs.length + 1) c')) X bv p e) ∧
    (∀ t, JAt W1 (fun b => wr.heap.size ≤ b ∧ b < W1.heap.size) t [v0, v1, v2, v3, v4] → ItemsO (W2.setCell ⟨H4 + 1, 3, none⟩ (.slice a' (xs.length + 1) c')) (H4 + 2) (.slice a' (xs.length + 1) c') (xs ++ [t]) (vss ++ [[v0, v1, v2, v3, v4]])) := by
  obtain ⟨G, hG⟩ : ∃ G, W2.setCell ⟨H4 + 1, 3, none⟩ (.slice a' (xs.length + 1) c') = G := ⟨_, rfl⟩
  have l4 := h4.lt
  have l5 := h5.lt
  have hs1 := hN1.below.size
  have hs2 := hg2.size
  simp at hs2
  have hlt := hI.own.lt
  -- blocks below the rows
  have hfar : ∀ k, k < H4 + 2 → k ≠ X → W2.heap[k]? = wr.heap[k]? := by
    intro k h1 h2
    rw [hg2.block k (by simp; omega) (fun e => by have := hlt k e.symm; omega)]
    rw [heap_alloc_old W1 _ (by omega)]
    exact hN1.far k (by omega) h2
  have hfarX : W2.heap[X]? = W1.heap[X]? := by
    rw [hg2.block X (by simp; omega) (fun e => by have := hlt X e.symm; omega)]
    exact heap_alloc_old W1 _ (by omega)
  have hset : ∀ k, k ≠ H4 + 1 → G.heap[k]? = W2.heap[k]? := fun k hk => by rw [← hG]; exact Below.heap_setCell _ _ _ _ (fun e => hk e)
  have hGs : G.heap.size = W2.heap.size := by rw [← hG]; simp
  have hb5' : Blk W2 (H4 + 1) C5 25 := (hfar _ (by omega) (by omega)).trans h5
  have hB2 : Below X W0 W2 := by
    have h0 := (hN0.below.trans hN1.below).alloc (by omega) (.cells #[v0, v1, v2, v3, v4] 25)
    exact h0.grown hg2 (by simp; omega) (fun k hk => by have := hlt k hk; omega)
  refine ⟨?_, ?_, ?_, ?_, ?_⟩
  · refine ⟨hB2.setCell (by show X ≤ H4 + 1; omega) _, fun k h1 h2 => ?_⟩
    rw [hG, hset k (by omega), hfar k (by omega) h2]
    exact hN0.far k h1 h2
  · rw [hG]
    exact (hset H4 (by omega)).trans ((hfar H4 (by omega) (by omega)).trans h4)
  · exact hb5'.set 3 _
  · rintro p e bv ⟨k, n, s, at_, nx, hP⟩
    exact ⟨k, n, s, at_, nx, by rw [hG]; exact (hset X (by omega)).trans (hfarX.trans hP)⟩
  · intro t ht
    have hI1 := hI.later (W' := W1.alloc (.cells #[v0, v1, v2, v3, v4] 25)) (fun b h1 h2 => by rw [heap_alloc_old W1 _ (by omega)]; exact hN1.far b h2 (by omega)) (by simp; omega)
    have ht1 : JAt (W1.alloc (.cells #[v0, v1, v2, v3, v4] 25)) (fun b => wr.heap.size ≤ b ∧ b < W1.heap.size) t [v0, v1, v2, v3, v4] := ht.frame (fun b hb => heap_alloc_old W1 _ hb.2)
    have hp := hI1.push ht1 (fun b hb => ⟨by omega, by simp; omega, fun e => by have := hlt b e; omega⟩) hown2 hg2 (by simpa using hb2)
    exact hp.later (fun b h1 h2 => by rw [hG]; exact hset b (by omega)) (by rw [hG, hGs]; exact Nat.le_refl _)
/-- What an item's reading leaves. -/
def LItem (W0 : World) (X : Nat) (bv : Value) (H4 : Nat) (R1 : JR) (xs : List JT) (W6 : World) : Prop :=
  ∃ ia ic, Near X H4 W0 W6 ∧ Blk W6 H4 z5J 25 ∧ Blk W6 (H4 + 1) (listC (.slice ia (xs.length + 1) ic)) 25 ∧ (∀ e, R1 = .bad e → Bad W6 X bv e) ∧
    (∀ x q, R1 = .ok x q → Any W6 X bv (q : Int) 0 ∧ ∃ vss, ItemsO W6 (H4 + 2) (.slice ia (xs.length + 1) ic) (xs ++ [x]) vss)
theorem list_item {W0 wr W1 W2 : World} {X H4 : Nat} {bv iv : Value} {R1 : JR} {xs : List JT} {vss : List (List Value)} {v0 v1 v2 v3 v4 : Value} {a' : Option Addr} {c' : Nat} (hX : X < H4) (h4 : Blk wr H4 z5J 25) (h5 : Blk wr (H4 + 1) (listC iv) 25) (hI : ItemsO wr (H4 + 2) iv xs vss) (hN0 : Near X H4 W0 wr)
    (hN1 : Near X wr.heap.size wr W1) (hown2 : W2.ownsRow (H4 + 2) 25 5 (.slice a' (xs.length + 1) c') (xs.length + 1) (vss.flatten ++ [v0, v1, v2, v3, v4]))
    (hg2 : (W1.alloc (.cells #[v0, v1, v2, v3, v4] 25)).grownBy W2 iv.ownBlock) (hb2 : (Value.slice a' (xs.length + 1) c').ownBlock = iv.ownBlock ∨ (Value.slice a' (xs.length + 1) c').ownBlock = some (W1.heap.size + 1))
    (hbad : ∀ e, R1 = .bad e → Bad W1 X bv e) (hok : ∀ t q, R1 = .ok t q → Any W1 X bv (q : Int) 0 ∧ JAt W1 (fun b => wr.heap.size ≤ b ∧ b < W1.heap.size) t [v0, v1, v2, v3, v4]) :
    LItem W0 X bv H4 R1 xs (W2.setCell ⟨H4 + 1, 3, none⟩ (.slice a' (xs.length + 1) c')) := by
  obtain ⟨s1, s2, s3, s4, s5⟩ := list_step hX h4 h5 hI hN0 hN1 hown2 hg2 hb2
  refine ⟨a', c', s1, s2, s3, fun e he => ?_, fun x q hq => ?_⟩
  · obtain ⟨h1, p, h2⟩ := hbad e he
    exact ⟨h1, p, s4 _ _ _ h2⟩
  · obtain ⟨h1, h2⟩ := hok x q hq
    exact ⟨s4 _ _ _ h1, _, s5 x h2⟩
theorem loop_dead {f : MT → JR} (hf : Reads l f) {p : Nat} (hp : p ≤ l.length) {xs : List JT} (he : (mTakeN l p).e ≠ 0) : mLoop l f false p [] xs = .bad (mTakeN l p).e := by
  have hk := take_kinds hp
  rw [mLoop]
  have h1 : mHead l f false p [] = .bad (mTakeN l p).e := by
    unfold mHead
    simp only [Bool.false_eq_true, if_false]
    rw [(hf _).1 (by omega)]
    unfold wrongE
    rw [if_pos he]
  rw [h1]

end Go.Proofs.YticfioblapjkmaaGreat

namespace Go.Proofs.YticfioblapjkmaaGreat
open Go.RowKit
set_option linter.unusedVariables false
set_option linter.unusedSimpArgs false

variable {X : Nat} {a : Option Addr} {b off c : Nat} {l : List UInt8}
theorem Near.undrew {X B : Nat} {w w1 : World} (h : Near X B w.drew w1) : Near X B w w1 := ⟨((Below.refl X w).drew).trans h.below, h.far⟩
theorem Any.keep {W W' : World} {X : Nat} {bv : Value} {p e : Int} (h : Any W X bv p e) (hs : W'.heap[X]? = W.heap[X]?) : Any W' X bv p e := by
  obtain ⟨k, n, s, at_, nx, hP⟩ := h
  exact ⟨k, n, s, at_, nx, hs.trans hP⟩
theorem Took.keep {W W' : World} {X : Nat} {bv : Value} {m : MT} (h : Took W X bv m) (hs : W'.heap[X]? = W.heap[X]?) : Took W' X bv m := by
  rcases h with ⟨h1, h2⟩ | ⟨h1, h2, p, h3⟩
  · exact .inl ⟨h1, hs.trans h2⟩
  · exact .inr ⟨h1, h2, p, h3.keep hs⟩
theorem Bad.keep {W W' : World} {X : Nat} {bv : Value} {e : Nat} (h : Bad W X bv e) (hs : W'.heap[X]? = W.heap[X]?) : Bad W' X bv e := by
  obtain ⟨h2, p, h3⟩ := h
  exact ⟨h2, p, h3.keep hs⟩
theorem Near.blk {X B Y : Nat} {w w' : World} {C : Array Value} {T : TypeId} (h : Blk w Y C T) (hn : Near X B w w') (h1 : Y < B) (h2 : Y ≠ X) : Blk w' Y C T := (hn.far Y h1 h2).trans h
theorem heap_put5 (w : World) (H k : Nat) (v0 v1 v2 v3 v4 : Value) (hk : k ≠ H) : (put5 w H v0 v1 v2 v3 v4).heap[k]? = w.heap[k]? := by
  unfold put5
  have h : ∀ (w : World) (j : Nat) (v : Value), (w.setCell ⟨H, j, none⟩ v).heap[k]? = w.heap[k]? := fun w j v => Below.heap_setCell _ _ _ _ hk
  rw [h, h, h, h, h]
theorem size_put5 (w : World) (H : Nat) (v0 v1 v2 v3 v4 : Value) : (put5 w H v0 v1 v2 v3 v4).heap.size = w.heap.size := by
  unfold put5
  simp
/-- The result's block is filled: what is told. -/
theorem VPost.ret {W0 W1 : World} {X H4 : Nat} {bv : Value} {R : JR} {v0 v1 v2 v3 v4 : Value} (hX : X < H4) (hH : W0.heap.size = H4) (hs : H4 < W1.heap.size) (hN : Near X H4 W0 W1) (h1 : ∀ u ∈ [v0, v1, v2, v3, v4], u.oneCell' = true)
    (hb : ∀ e, R = .bad e → Bad W1 X bv e) (ho : ∀ t q, R = .ok t q → Any W1 X bv (q : Int) 0 ∧ JAt W1 (fun b => H4 < b ∧ b < W1.heap.size) t [v0, v1, v2, v3, v4]) :
    VPost W0 X bv R (.returned (.agg #[v0, v1, v2, v3, v4])) (put5 W1 H4 v0 v1 v2 v3 v4) := by
  have hx : (put5 W1 H4 v0 v1 v2 v3 v4).heap[X]? = W1.heap[X]? := heap_put5 _ _ _ _ _ _ _ _ (by omega)
  refine ⟨v0, v1, v2, v3, v4, rfl, h1, ?_, fun e he => (hb e he).keep hx, fun t q hq => ?_⟩
  · rw [hH]
    exact hN.put5 (Nat.le_of_lt hX) (Nat.le_refl _) _ _ _ _ _
  · obtain ⟨h2, h3⟩ := ho t q hq
    refine ⟨h2.keep hx, ?_⟩
    refine (h3.frame (fun b hb => heap_put5 _ _ _ _ _ _ _ _ (by omega))).mono (fun b hb => ⟨by omega, by rw [size_put5]; exact hb.2⟩)

/-- What follows an item. -/
theorem loop_ok {f : MT → JR} (hf : Reads l f) {obj : Bool} {p q : Nat} {ks : List (List UInt8)} {xs : List JT} {x : JT} (hp : p ≤ l.length) (hr : mHead l f obj p ks = .ok x q) :
    mLoop l f obj p ks xs = (if (mTakeN l q).k = endK obj then .ok (.mk (objK obj) 0 [] (mKeys l obj p ks) (xs ++ [x])) (mTakeN l q).nx
    else if (mTakeN l q).k ≠ 6 then .bad (wrongE (mTakeN l q)) else mLoop l f obj (mTakeN l q).nx (mKeys l obj p ks) (xs ++ [x])) := by
  rw [loop_eq hf hp, hr]
  rfl
theorem loop_bad {f : MT → JR} (hf : Reads l f) {obj : Bool} {p e : Nat} {ks : List (List UInt8)} {xs : List JT} (hp : p ≤ l.length) (hr : mHead l f obj p ks = .bad e) : mLoop l f obj p ks xs = .bad e := by
  rw [loop_eq hf hp, hr]
  rfl
theorem Any.meas {W : World} {X n : Nat} {bv : Value} {p e : Int} (h : Any W X bv p e) : lexMeas W X n = if e = 0 then n + 1 - p.toNat else 0 := by
  obtain ⟨k, n', s, at_, nx, hP⟩ := h
  have c1 := hP.cell 1
  have c2 := hP.cell 2
  unfold lexMeas posOf
  simp at c1 c2
  rw [c1, c2]
  rfl

set_option maxRecDepth 100000 in
set_option maxHeartbeats 4000000 in
theorem plist_any {d : Nat} (hV : ValC X a b off c l d) {W : World} {p : Nat} (hE : PEnv W X a b off c l) (hX : X < W.heap.size) (hp : p ≤ l.length) (hs : Any W X (.slice a l.length c) (p : Int) 0) :
    Calls Tryz.prog 37 #[.pointer (some ⟨X, 0, none⟩), .int .i64 ((32 - d : Nat) : Int)] W (VPost W X (.slice a l.length c) (mItems l (mVal l d) false p)) := by
  obtain ⟨H4, hH⟩ : ∃ H, W.heap.size = H := ⟨_, rfl⟩
  rw [hH] at hX
  have hf := reads_val (l := l) d
  obtain ⟨f, hfe⟩ : ∃ f, f = mVal l d := ⟨_, rfl⟩
  obtain ⟨R, hR⟩ : ∃ R, R = mItems l f false p := ⟨_, rfl⟩
  rw [← hfe] at hf ⊢
  rw [← hR]
  obtain ⟨dI, hdI⟩ : ∃ dI : Int, dI = ((32 - d : Nat) : Int) := ⟨_, rfl⟩
  have hV' := Lib.hid fun W m h1 h2 h3 h4 => hfe ▸ hdI ▸ hV W m h1 h2 h3 h4
  rw [← hdI]
  -- the world behind the two new blocks
  obtain ⟨W2, hW2⟩ : ∃ W2, W2 = (W.alloc (.cells z5J 25)).alloc (.cells (listC (.slice none 0 0)) 25) := ⟨_, rfl⟩
  have hb4 : Blk W2 H4 z5J 25 := by rw [hW2]; exact (Blk.made W _ _ H4 hH).kept ((Below.refl (H4 + 1) (W.alloc _)).alloc (by simp; omega) _) (by omega)
  have hb5 : Blk W2 (H4 + 1) (listC (.slice none 0 0)) 25 := by rw [hW2]; exact Blk.made _ _ _ (H4 + 1) (by simp; omega)
  have hB2 : Below H4 W W2 := by rw [hW2]; exact ((Below.refl H4 W).alloc (by omega) _).alloc (by simp; omega) _
  have hs2 : W2.heap.size = H4 + 2 := by rw [hW2]; simp; omega
  have htk := Lib.hid (ptake_any (hE.below hB2 (by omega)) hp (hs.keep (hB2.block X hX)))
  have hkd := take_kinds hp
  obtain ⟨m, hm⟩ : ∃ m, m = mTakeN l p := ⟨_, rfl⟩
  rw [← hm] at htk hkd
  replace hB2 := Lib.hid hB2
  replace hb4 := Lib.hid hb4
  replace hb5 := Lib.hid hb5
  replace hE := Lib.hid hE
  replace hkd := Lib.hid hkd
  replace hm := Lib.hid hm
  unfold z5J listC at hW2
  replace hR := Lib.hid hR
  clear hV hs hdI hfe
  go_enter Tryz.func37, Tryz.ntmps37
  go_wp2_with fail
  rw [← hW2]
  clear hW2
  refine htk.out.mono ?_
  rintro r W3 ⟨rfl, hN3, hT3⟩
  clear htk
  rw [hs2] at hN3
  have g4 := hN3.far H4 (by omega) (by omega)
  have g5 := hN3.far (H4 + 1) (by omega) (by omega)
  have h4 : Blk W3 H4 z5J 25 := g4.trans hb4.out
  have h5 : Blk W3 (H4 + 1) (listC (.slice none 0 0)) 25 := g5.trans hb5.out
  have hNw : Near X H4 W W3 := (Near.ofBelow hB2.out (by omega)).later hN3 (by omega)
  have hs3 : H4 + 2 ≤ W3.heap.size := by have := hN3.below.size; omega
  clear g4 g5 hb4 hb5 hB2 hN3 hs2
  by_cases hk4 : m.k = 4
  · have hk4i : ((m.k : Int) == 4) = true := by rw [hk4]; rfl
    have he : m.e = 0 := by have := hkd.out; omega
    have hG : Good W3 X (.slice a l.length c) m := by
      rcases hT3 with h | h
      · exact h.2
      · omega
    have hRv : R = .ok (.mk 5 0 [] [] []) m.nx := by
      rw [hR.out]
      unfold mItems
      rw [← hm.out, if_pos (by rw [hk4]; rfl)]
      rfl
    have r4 := h4.cell
    have s4 := h4.free
    have r5 := h5.cell
    have hfin := VPost.ret (R := R) hX hH (by omega : H4 < W3.heap.size) hNw (v0 := .int .i64 5) (v1 := .int .i64 0) (v2 := .string ⟨#[]⟩) (v3 := .slice none 0 0) (v4 := .slice none 0 0) (by intro u hu; simp at hu; rcases hu with rfl | rfl | rfl | rfl | rfl <;> rfl)
      (fun e he => by rw [hRv] at he; cases he) (fun t q hq => by
        rw [hRv] at hq
        cases hq
        exact ⟨hG.any, .mk (RowAt.nil _ _ _) (vss := []) (RowAt.nil _ _ _) rfl (fun i x vs h => by simp at h)⟩)
    have hzr := put5_cell (w := W3) h4 (.int .i64 5) (.int .i64 0) (.string ⟨#[]⟩) (.slice none 0 0) (.slice none 0 0)
    unfold z5J at r4
    unfold listC at r5
    replace hfin := Lib.hid hfin
    replace hzr := Lib.hid hzr
    replace hk4 := Lib.hid hk4
    replace hNw := Lib.hid hNw
    clear hT3 hG hRv h4 h5
    go_wp2_with fail
    refine bodyPost_ret (list_ret _ (by rfl) hzr.out) rfl ?_
    exact hfin.out
  · have hk4i : ((m.k : Int) == 4) = false := by simp; omega
    have hRl : R = mLoop l f false p [] [] := by
      rw [hR.out]
      unfold mItems
      rw [← hm.out, if_neg (by exact hk4)]
    have hrel : LRel R W X a b off c l f H4 (.int .i64 (m.k : Int)) W3 := by
      rcases hT3 with ⟨he, hG⟩ | ⟨h0, hB⟩
      · rw [hm.out] at he hG ⊢
        exact .inl ⟨p, [], .slice none 0 0, [], rfl, hp, he, hG, hRl, Nat.zero_le _, h4, h5, ItemsO.nil _ _, hNw⟩
      · refine .inr ⟨m.e, .slice none 0 0, _, rfl, hB, ?_, h4, h5, ⟨_, _, _, rfl⟩, hNw⟩
        rw [hRl, hm.out]
        exact loop_dead hf hp (by rw [← hm.out]; exact hB.1)
    replace hrel := Lib.hid hrel
    replace hk4 := Lib.hid hk4
    clear hT3 h4 h5 hNw hRl hs3
    go_wp2_with fail
    go_loopw [7] (fun t wr => LRel R W X a b off c l f H4 t wr) (fun _ wr => lexMeas wr X l.length)
    case atStart => exact hrel.out
    case round =>
      rcases hrel with ⟨pp, xs, iv, vss, rfl, hA⟩ | ⟨e, iv, k, rfl, hD⟩
      rotate_left
      · obtain ⟨ia, ni, ic, rfl⟩ := hD.one
        obtain ⟨he0, pI, hAny⟩ := hD.bad
        obtain ⟨k1, n1, s1, a1, x1, hP⟩ := hAny
        have c2 := hP.cell 2
        have hez : ((e : Int) == 0) = false := by simp; omega
        have r4 := hD.b4.cell
        have s4 := hD.b4.free
        have r5 := hD.b5.cell
        have hfin := VPost.ret (R := R) hX hH hD.b4.lt hD.near (v0 := .int .i64 5) (v1 := .int .i64 0) (v2 := .string ⟨#[]⟩) (v3 := .slice ia ni ic) (v4 := .slice none 0 0) (by intro u hu; simp at hu; rcases hu with rfl | rfl | rfl | rfl | rfl <;> rfl)
          (fun e he => by have := hD.res; rw [this] at he; cases he; exact hD.bad) (fun t q hq => by rw [hD.res] at hq; cases hq)
        have hzr := put5_cell (w := wr) hD.b4 (.int .i64 5) (.int .i64 0) (.string ⟨#[]⟩) (.slice ia ni ic) (.slice none 0 0)
        unfold z5J at r4
        unfold listC at r5
        replace hfin := Lib.hid hfin
        replace hzr := Lib.hid hzr
        replace he0 := Lib.hid he0
        clear hD hP hV' hkd hm hR hk4 hk4i hE
        go_wp2_with fail
        refine bodyPost_ret (list_ret _ (by rfl) hzr.out) rfl ?_
        exact hfin.out
      · obtain ⟨m, hm⟩ : ∃ m, m = mTakeN l pp := ⟨_, rfl⟩
        have hG := hA.good
        have he := hA.word
        have hkd := take_kinds hA.pos
        rw [← hm] at hG he hkd ⊢
        have hEr := hE.out.near hA.near
        have hAny := hG.any
        have hmeas : lexMeas wr X l.length = l.length + 1 - m.nx := by rw [hAny.meas]; simp
        have c2 : wr.cell? ⟨X, 2, none⟩ = some (.int .i64 0) := Blk.cell hG 2
        have hVc := Lib.hid (hV'.out wr.drew m (hEr.below (Below.refl (wr.heap.size) wr).drew (by have := hA.b4.lt; omega)) (by show X < wr.heap.size; have := hA.b4.lt; omega) (.inl ⟨he, hG⟩) (fun _ => by omega))
        have h5 := hA.b5
        have h5d : Blk wr.drew (H4 + 1) (listC iv) 25 := h5
        have hl5 : H4 + 1 < wr.drew.heap.size := h5d.lt
        have hone := hA.items.own
        obtain ⟨ia, ic, rfl⟩ : ∃ ia ic, iv = .slice ia xs.length ic := by
          rcases hone.2 with ⟨rfl, h0⟩ | ⟨g, cap, cur, rfl, _⟩
          · exact ⟨none, 0, by rw [h0]⟩
          · exact ⟨_, _, rfl⟩
        have hfew : xs.length < 1099511627776 := by have := hA.few; have := hA.pos; have := hE.out.big; omega
        have k5 : wr.cell? ⟨H4 + 1, 3, none⟩ = some (.slice ia xs.length ic) := h5.cell 3
        replace hEr := Lib.hid hEr
        replace hA := Lib.hid hA
        replace hm := Lib.hid hm
        replace hkd := Lib.hid hkd
        replace he := Lib.hid he
        replace hmeas := Lib.hid hmeas
        have hiown : wr.drew.ownsRow (H4 + 2) 25 5 (.slice ia xs.length ic) xs.length vss.flatten := hone
        clear hG hAny hV' hone
        go_wp2_with fail
        go_cut [] from 21 to 29 (fun W6 => LItem W X (.slice a l.length c) H4 (f m) xs W6)
        case first =>
          go_region_law (first
            | (go_simp; go_at_call 19; refine hVc.out.mono ?_; rintro r w1 ⟨v0, v1, v2, v3, v4, rfl, hones, hN1, hbad, hok⟩; obtain ⟨Y, hY⟩ : ∃ Y, w1.heap.size = Y := ⟨_, rfl⟩; have hz5 : Blk w1 (H4 + 1) (listC (.slice ia xs.length ic)) 25 := Near.blk h5d hN1 hl5 (by omega); have hz6 : Blk ((w1.alloc (.cells #[v0, v1, v2, v3, v4] 25))) (H4 + 1) (listC (.slice ia xs.length ic)) 25 := hz5.kept ((Below.refl Y w1).alloc (by omega) _) (by have := hz5.lt; omega); have hownA := own_near hiown hN1 (by omega : X < H4 + 2) (.cells #[v0, v1, v2, v3, v4] 25); have hYl : H4 + 2 ≤ Y := (by have := hz5.lt; omega); have z5c : w1.cell? ⟨H4 + 1, 3, none⟩ = some (.slice ia xs.length ic) := hz5.cell 3; have z6c : (w1.alloc (.cells #[v0, v1, v2, v3, v4] 25)).cell? ⟨H4 + 1, 3, none⟩ = some (.slice ia xs.length ic) := hz6.cell 3)
            | (refine step_appendR Tryz.underlying22 Tryz.infoJ (by rfl) (by decide) (by decide) (by rfl) _ _ (by rfl) (by rfl) (H4 + 2) (.slice ia xs.length ic) xs.length vss.flatten Y [v0, v1, v2, v3, v4] (by rfl) (by rfl) (by exact hownA) (by rfl) (fun j _ => ((Blk.made w1 _ _ Y hY).cell j).trans (by simp)) hones hfew (by simp; omega) ?_; intro a' c' w2 hown2 hg2 hb2; have hz7 : Blk w2 (H4 + 1) (listC (.slice ia xs.length ic)) 25 := (hg2.out.block (H4 + 1) (by simp; omega) (fun e => by have := (hiown.lt _ e.symm).1; omega)).trans hz6; have z7c : w2.cell? ⟨H4 + 1, 3, none⟩ = some (.slice ia xs.length ic) := hz7.cell 3; have z7f := hz7.free 3))
          all_goals
            go_wp2_with fail
            go_meet
            case rel => exact list_item hX hA.out.b4 hA.out.b5 hA.out.items hA.out.near hN1.undrew hown2.out hg2.out (by have := hb2.out; simpa using this) hbad hok
        case rest =>
          obtain ⟨ja, jc, hN6, h46, h56, hbad, hok⟩ := hcut
          have hE6 := hE.out.near hN6
          have hX6 : X < wc.heap.size := by have := h46.lt; omega
          have hs6 := hN6.below.size
          rcases hr : f m with e1 | ⟨x, q⟩
          · have hB6 := hbad e1 hr
            have hRb : R = .bad e1 := by rw [hA.out.res]; exact loop_bad hf hA.out.pos (by unfold mHead; simp only [Bool.false_eq_true, if_false]; rw [← hm.out]; exact hr)
            have htk := Lib.hid (ptake_bad hB6)
            have hfl := Lib.hid (pfail_bad hB6 20)
            have hlt : lexMeas wc X l.length < lexMeas wr X l.length := by
              obtain ⟨h1, pI, h2⟩ := hB6
              have h3 : (e1 : Int) ≠ 0 := by omega
              rw [h2.meas, hmeas.out, if_neg h3]
              have := hkd.out
              have := he.out
              omega
            have hdead := Lib.hid (⟨hB6, hRb, h46, h56, ⟨_, _, _, rfl⟩, hN6⟩ : LDead R W X (.slice a l.length c) H4 wc e1 (.slice ja (xs.length + 1) jc))
            replace hlt := Lib.hid hlt
            clear hbad hok hB6 hRb h46 h56 hN6 hVc h5 h5d k5 hiown c2 hr
            go_wp2_with fail
            refine htk.out.mono ?_
            rintro r w7 ⟨rfl, rfl⟩
            go_wp2_with fail
            refine hfl.out.mono ?_
            rintro r w7 ⟨rfl, rfl⟩
            go_wp2_with fail
            go_roundw
            case rel => exact .inr ⟨_, _, _, rfl, hdead.out⟩
            case measure => exact hlt.out
          · obtain ⟨hA6, vs6, hI6⟩ := hok x q hr
            have hwi := (hf m).2 (by have := hkd.out; have := he.out; omega) (by have := hkd.out; have := he.out; omega)
            rw [hr] at hwi
            have hq1 : m.nx ≤ q := hwi.1
            have hq2 : q ≤ l.length := hwi.2
            have hRn := loop_ok (obj := false) (ks := []) (xs := xs) (p := pp) (q := q) (x := x) hf hA.out.pos (by unfold mHead; simp only [Bool.false_eq_true, if_false]; rw [← hm.out]; exact hr)
            rw [← hA.out.res] at hRn
            have hfewq : xs.length ≤ q := by have := hA.out.few; have := hkd.out; have := he.out; omega
            have hmn : m.nx ≤ l.length := by have := hkd.out; have := he.out; omega
            have hl46 := h46.lt
            have hl56 := h56.lt
            have htk := Lib.hid (ptake_any hE6 hq2 hA6)
            have hkt := take_kinds hq2
            obtain ⟨t, ht⟩ : ∃ t, t = mTakeN l q := ⟨_, rfl⟩
            rw [← ht] at hRn htk hkt
            have hposm : lexMeas wr X l.length = l.length + 1 - m.nx := hmeas.out
            replace hkt := Lib.hid hkt
            replace ht := Lib.hid ht
            replace hE6 := Lib.hid hE6
            clear hbad hok hVc h5 h5d k5 hiown c2 hr
            by_cases ht4 : t.k = 4
            · have ht4i : ((t.k : Int) == 4) = true := by rw [ht4]; rfl
              have hRv : R = .ok (.mk 5 0 [] [] (xs ++ [x])) t.nx := by rw [hRn, if_pos (by rw [ht4]; rfl)]; rfl
              replace hRv := Lib.hid hRv
              have ht4' := Lib.hid ht4
              clear hRn ht4
              go_wp2_with fail
              refine htk.out.mono ?_
              rintro r w7 ⟨rfl, hN7, hT7⟩
              have h47 := Near.blk h46 hN7 hl46 (by omega)
              have h57 := Near.blk h56 hN7 hl56 (by omega)
              have hI7 := hI6.later (fun b h1 h2 => hN7.far b h2 (by omega)) hN7.below.size
              have hN := hN6.later hN7 (by omega)
              have hGt : Good w7 X (.slice a l.length c) t := by
                rcases hT7 with h | h
                · exact h.2
                · have := h.1; have := ht4'.out; omega
              have hfin := VPost.ret (R := R) hX hH h47.lt hN (v0 := .int .i64 5) (v1 := .int .i64 0) (v2 := .string ⟨#[]⟩) (v3 := .slice ja (xs.length + 1) jc) (v4 := .slice none 0 0) (by intro u hu; simp at hu; rcases hu with rfl | rfl | rfl | rfl | rfl <;> rfl)
                (fun e he => by rw [hRv.out] at he; cases he) (fun t' q' hq => by
                  rw [hRv.out] at hq
                  cases hq
                  exact ⟨hGt.any, (hI7.tree (ks := []) (World.ownsRow_nil _ _ _ _) 5 0 []).mono (fun b hb => ⟨by omega, hb.2⟩)⟩)
              have r4 := h47.cell
              have s4 := h47.free
              have r5 := h57.cell
              have hzr := put5_cell (w := w7) h47 (.int .i64 5) (.int .i64 0) (.string ⟨#[]⟩) (.slice ja (xs.length + 1) jc) (.slice none 0 0)
              unfold z5J at r4
              unfold listC at r5
              replace hfin := Lib.hid hfin
              replace hzr := Lib.hid hzr
              clear hN7 hT7 h47 h57 hI7 hN hGt hI6 h46 h56 hN6 hA6 htk
              go_wp2_with fail
              refine bodyPost_ret (list_ret _ (by rfl) hzr.out) rfl ?_
              exact hfin.out
            · have ht4i : ((t.k : Int) == 4) = false := by simp; omega
              by_cases ht6 : t.k = 6
              · have ht6i : ((t.k : Int) == 6) = true := by rw [ht6]; rfl
                have hRv : R = mLoop l f false t.nx [] (xs ++ [x]) := by rw [hRn, if_neg (by exact ht4), if_neg (by simpa using ht6)]; rfl
                replace hRv := Lib.hid hRv
                have ht6' := Lib.hid ht6
                have ht4' := Lib.hid ht4
                clear hRn ht6 ht4
                go_wp2_with fail
                refine htk.out.mono ?_
                rintro r w7 ⟨rfl, hN7, hT7⟩
                have h47 := Near.blk h46 hN7 hl46 (by omega)
                have h57 := Near.blk h56 hN7 hl56 (by omega)
                have hI7 := hI6.later (fun b h1 h2 => hN7.far b h2 (by omega)) hN7.below.size
                have hN := hN6.later hN7 (by omega)
                have hGt : Good w7 X (.slice a l.length c) t := by
                  rcases hT7 with h | h
                  · exact h.2
                  · have := h.1; have := ht6'.out; omega
                have htn : q < t.nx ∧ t.nx ≤ l.length := by have := hkt.out; have := ht6'.out; omega
                have htk2 := Lib.hid (ptake_any (hE6.out.near hN7) htn.2 hGt.any)
                have hk2 := take_kinds htn.2
                have hs7 := hN.below.size
                have hl47 := h47.lt
                have hl57 := h57.lt
                clear hN7 hT7 hGt hI6 h46 h56 hN6 hA6 htk
                go_wp2_with fail
                refine htk2.out.mono ?_
                rintro r w8 ⟨rfl, hN8, hT8⟩
                have h48 := Near.blk h47 hN8 hl47 (by omega)
                have h58 := Near.blk h57 hN8 hl57 (by omega)
                have hI8 := hI7.later (fun b h1 h2 => hN8.far b h2 (by omega)) hN8.below.size
                have hNf := hN.later hN8 (by omega)
                have hboth : (LRel R W X a b off c l f H4 (.int .i64 ((mTakeN l t.nx).k : Int)) w8) ∧ lexMeas w8 X l.length < lexMeas wr X l.length := by
                  rcases hT8 with ⟨hz, hG8⟩ | ⟨hz, hB8⟩
                  · refine ⟨.inl ⟨t.nx, xs ++ [x], _, vs6, rfl, htn.2, hz, hG8, hRv.out, by simp; omega, h48, h58, hI8, hNf⟩, ?_⟩
                    rw [hG8.any.meas, hposm, if_pos rfl]
                    have := hk2
                    simp
                    omega
                  · refine ⟨.inr ⟨_, _, _, rfl, hB8, by rw [hRv.out]; exact loop_dead hf htn.2 hB8.1, h48, h58, ⟨_, _, _, rfl⟩, hNf⟩, ?_⟩
                    obtain ⟨h1, pI, h2⟩ := hB8
                    have h3 : ((mTakeN l t.nx).e : Int) ≠ 0 := by omega
                    rw [h2.meas, hposm, if_neg h3]
                    omega
                replace hboth := Lib.hid hboth
                clear hN8 hT8 h47 h57 hI7 hN h48 h58 hI8 hNf htk2
                go_wp2_with fail
                go_roundw
                case rel => exact hboth.out.1
                case measure => exact hboth.out.2
              · have ht6i : ((t.k : Int) == 6) = false := by simp; omega
                have hRv : R = .bad (wrongE t) := by rw [hRn, if_neg (by exact ht4), if_pos (by simpa using ht6)]
                replace hRv := Lib.hid hRv
                have ht6' := Lib.hid ht6
                have ht4' := Lib.hid ht4
                clear hRn ht6 ht4
                go_wp2_with fail
                refine htk.out.mono ?_
                rintro r w7 ⟨rfl, hN7, hT7⟩
                have h47 := Near.blk h46 hN7 hl46 (by omega)
                have h57 := Near.blk h56 hN7 hl56 (by omega)
                have hN := hN6.later hN7 (by omega)
                have hfl := Lib.hid (pfail_took hT7)
                have hs7 := hN.below.size
                have hl47 := h47.lt
                have hl57 := h57.lt
                clear hN7 hT7 hI6 h46 h56 hN6 hA6 htk
                go_wp2_with fail
                refine hfl.out.mono ?_
                rintro r w8 ⟨rfl, hN8, hB8⟩
                have h48 := Near.blk h47 hN8 hl47 (by omega)
                have h58 := Near.blk h57 hN8 hl57 (by omega)
                have hNf := hN.later hN8 (by omega)
                have hboth : (∀ kk : Int, LRel R W X a b off c l f H4 (.int .i64 kk) w8) ∧ lexMeas w8 X l.length < lexMeas wr X l.length := by
                  refine ⟨fun kk => .inr ⟨_, _, _, rfl, hB8, hRv.out, h48, h58, ⟨_, _, _, rfl⟩, hNf⟩, ?_⟩
                  obtain ⟨h1, pI, h2⟩ := hB8
                  have h3 : ((wrongE t : Nat) : Int) ≠ 0 := by omega
                  rw [h2.meas, hposm, if_neg h3]
                  omega
                replace hboth := Lib.hid hboth
                clear hN8 h47 h57 hN h48 h58 hNf hfl hB8
                go_wp2_with fail
                go_roundw
                case rel => exact hboth.out.1 _
                case measure => exact hboth.out.2

end Go.Proofs.YticfioblapjkmaaGreat

namespace Go.Proofs.YticfioblapjkmaaGreat
open Go.RowKit
set_option linter.unusedVariables false
set_option linter.unusedSimpArgs false

set_option maxRecDepth 100000 in
set_option maxHeartbeats 1000000 in
theorem sindex_any {W : World} {ok : Nat → Prop} {kv : Value} {ks : List (List UInt8)} (h : RowAt W ok kv ks.length 1 (ks.map strV)) (key : List UInt8) (hbig : ks.length ≤ 140737488351232) :
    Calls Tryz.prog 60 #[kv, .string (str key)] W fun r W' => r = .returned (.int .i64 (idxS key ks)) ∧ W = W' := by
  obtain ⟨_, a, c, rfl, hc, hrd⟩ := h
  have h0 : ∀ j, j < 0 → ks[j]? ≠ some key := fun j hj => absurd hj (by omega)
  replace h0 := Lib.hid h0
  replace hrd := Lib.hid hrd
  obtain ⟨R, hR⟩ : ∃ R, R = idxS key ks := ⟨_, rfl⟩
  rw [← hR]
  replace hR := Lib.hid hR
  have t1 := str_toList key
  go_enter Tryz.func60, Tryz.ntmps60
  go_wp2_with fail
  go_loopw [8] (fun t wr => ∃ k : Nat, t = .int .i64 (k : Int) ∧ k ≤ ks.length ∧ wr = W ∧ Hid (∀ j, j < k → ks[j]? ≠ some key)) (fun t _ => ks.length - (intOf t).toNat)
  case atStart => exact ⟨0, rfl, Nat.zero_le _, rfl, h0⟩
  case round =>
    obtain ⟨k, rfl, hk, rfl, hno⟩ := hrel
    clear h0
    by_cases hlt : k < ks.length
    · obtain ⟨b, off, rfl, _, hcell⟩ := hrd.out (by omega)
      have hlti : (k : Int) < (ks.length : Int) := by omega
      obtain ⟨x, hx⟩ : ∃ x, ks[k]? = some x := ⟨ks[k], List.getElem?_eq_getElem hlt⟩
      have c0 : wr.cell? ⟨b, off + k, none⟩ = some (.string (str x)) := by
        rw [hcell k (by omega), List.getElem?_map, hx]
        rfl
      have t2 := str_toList x
      by_cases hkx : key = x
      · have hr := idxS_at (ks := ks) (i := k) (by rw [hx, hkx]) hno.out
        rw [← hR.out] at hr
        subst hr
        subst hkx
        replace hx := Lib.hid hx
        clear hcell hno hrd hR
        go_wp2_with fail
        go_ret
        exact ⟨rfl, rfl⟩
      · have he : (key == x) = false := by simpa using hkx
        have hno2 := Lib.hid fun j (hj : j < k + 1) => (by
          rcases Nat.lt_or_ge j k with h | h
          · exact hno.out j h
          · rw [show j = k from by omega, hx]
            intro e
            exact hkx (Option.some.inj e).symm : ks[j]? ≠ some key)
        replace hkx := Lib.hid hkx
        replace hx := Lib.hid hx
        clear hcell hno hrd
        go_wp2_with fail
        go_roundw
        case rel => exact ⟨k + 1, rfl, by omega, by trivial, hno2⟩
        case measure => simp [intOf]; omega
    · obtain rfl : k = ks.length := by omega
      have hr := idxS_none hno.out
      rw [← hR.out] at hr
      subst hr
      clear hrd hlt hk hno hR
      go_wp2_with fail
      go_ret
      exact ⟨rfl, rfl⟩
set_option maxRecDepth 100000 in
set_option maxHeartbeats 400000 in
theorem scontains_any {W : World} {ok : Nat → Prop} {kv : Value} {ks : List (List UInt8)} (h : RowAt W ok kv ks.length 1 (ks.map strV)) (key : List UInt8) (hbig : ks.length ≤ 140737488351232) :
    Calls Tryz.prog 50 #[kv, .string (str key)] W fun r W' => r = .returned (.bool (decide (key ∈ ks))) ∧ W = W' := by
  have hc := Lib.hid (sindex_any h key hbig)
  have hm := idxS_mem key ks
  obtain ⟨i, hi⟩ : ∃ i, i = idxS key ks := ⟨_, rfl⟩
  rw [← hi] at hc hm
  replace hi := Lib.hid hi
  rw [← hm]
  clear h hm
  go_enter Tryz.func50, Tryz.ntmps50
  go_wp2_with fail
  refine hc.out.mono ?_
  rintro r W' ⟨rfl, rfl⟩
  go_wp2_with fail
  go_ret
  exact ⟨rfl, rfl⟩

end Go.Proofs.YticfioblapjkmaaGreat

namespace Go.Proofs.YticfioblapjkmaaGreat
open Go.RowKit
set_option linter.unusedVariables false
set_option linter.unusedSimpArgs false

/-- Trees and keys in two rows that the call grows. -/
structure ItemsK (W : World) (base : Nat) (iv kv : Value) (xs : List JT) (vss : List (List Value)) (ks : List (List UInt8)) : Prop where
  own : W.ownsRow base 25 5 iv xs.length vss.flatten
  keys : W.ownsRow base 9 1 kv ks.length (ks.map strV)
  apart : ∀ b, iv.ownBlock = some b → kv.ownBlock ≠ some b
  len : vss.length = xs.length
  at_ : ∀ (i : Nat) (x : JT) (vs : List Value), xs[i]? = some x → vss[i]? = some vs → JAt W (fun b => base ≤ b ∧ b < W.heap.size ∧ iv.ownBlock ≠ some b ∧ kv.ownBlock ≠ some b) x vs
variable {W W' : World} {base : Nat} {iv iv' kv kv' : Value} {xs : List JT} {vss : List (List Value)} {ks : List (List UInt8)}
theorem ItemsK.nil (W : World) (base : Nat) : ItemsK W base (.slice none 0 0) (.slice none 0 0) [] [] [] :=
  ⟨World.ownsRow_nil _ _ _ _, World.ownsRow_nil _ _ _ _, fun b h => by simp [Value.ownBlock] at h, rfl, fun i x vs h => by simp at h⟩
theorem ItemsK.later (h : ItemsK W base iv kv xs vss ks) (hs : ∀ b, base ≤ b → b < W.heap.size → W'.heap[b]? = W.heap[b]?) (hz : W.heap.size ≤ W'.heap.size) : ItemsK W' base iv kv xs vss ks :=
  ⟨ownsRow_block h.own (fun b hb => hs b (h.own.lt b hb).1 (h.own.lt b hb).2), ownsRow_block h.keys (fun b hb => hs b (h.keys.lt b hb).1 (h.keys.lt b hb).2), h.apart, h.len,
    fun i x vs h1 h2 => ((h.at_ i x vs h1 h2).frame (fun b hb => hs b hb.1 hb.2.1)).mono (fun b hb => ⟨hb.1, by omega, hb.2.2⟩)⟩
/-- One more key. -/
theorem ItemsK.key (h : ItemsK W base iv kv xs vss ks) {k : List UInt8} (hown : W'.ownsRow base 9 1 kv' (ks.length + 1) (ks.map strV ++ [strV k])) (hg : W.grownBy W' kv.ownBlock)
    (hb : kv'.ownBlock = kv.ownBlock ∨ kv'.ownBlock = some W.heap.size) : ItemsK W' base iv kv' xs vss (ks ++ [k]) := by
  have hsz := hg.size
  refine ⟨ownsRow_block h.own (fun b hb => hg.block b (h.own.lt b hb).2 (fun e => h.apart b hb e.symm)), by simpa using hown, fun b hb' e => ?_, h.len, fun i x vs h1 h2 => ?_⟩
  · rcases hb with h1 | h1
    · exact h.apart b hb' (h1 ▸ e)
    · rw [h1] at e
      have := Option.some.inj e
      have := (h.own.lt b hb').2
      omega
  · refine ((h.at_ i x vs h1 h2).frame (fun b hb => hg.block b hb.2.1 (fun e => hb.2.2.2 e.symm))).mono (fun b hb' => ⟨hb'.1, by omega, hb'.2.2.1, fun e => ?_⟩)
    rcases hb with h1 | h1
    · exact hb'.2.2.2 (h1 ▸ e)
    · rw [h1] at e
      have := Option.some.inj e
      omega
/-- One more item. -/
theorem ItemsK.push {x : JT} {vs : List Value} {ok : Nat → Prop} (h : ItemsK W base iv kv xs vss ks) (hx : JAt W ok x vs) (hok : ∀ b, ok b → base ≤ b ∧ b < W.heap.size ∧ iv.ownBlock ≠ some b ∧ kv.ownBlock ≠ some b)
    (hown : W'.ownsRow base 25 5 iv' (xs.length + 1) (vss.flatten ++ vs)) (hg : W.grownBy W' iv.ownBlock) (hb : iv'.ownBlock = iv.ownBlock ∨ iv'.ownBlock = some W.heap.size) : ItemsK W' base iv' kv (xs ++ [x]) (vss ++ [vs]) ks := by
  have hsz := hg.size
  have hmv : ∀ y ws, JAt W (fun b => base ≤ b ∧ b < W.heap.size ∧ iv.ownBlock ≠ some b ∧ kv.ownBlock ≠ some b) y ws → JAt W' (fun b => base ≤ b ∧ b < W'.heap.size ∧ iv'.ownBlock ≠ some b ∧ kv.ownBlock ≠ some b) y ws := by
    intro y ws hy
    refine (hy.frame (fun b hb => hg.block b hb.2.1 (fun e => hb.2.2.1 e.symm))).mono (fun b hb' => ⟨hb'.1, by omega, fun e => ?_, hb'.2.2.2⟩)
    rcases hb with h1 | h1
    · exact hb'.2.2.1 (h1 ▸ e)
    · rw [h1] at e
      have := Option.some.inj e
      omega
  refine ⟨by simpa using hown, ownsRow_block h.keys (fun b hb => hg.block b (h.keys.lt b hb).2 (fun e => h.apart b e.symm hb)), fun b hb' e => ?_, by simp [h.len], fun i y ws h1 h2 => ?_⟩
  · rcases hb with h1 | h1
    · exact h.apart b (h1 ▸ hb') e
    · rw [h1] at hb'
      have := Option.some.inj hb'
      have := (h.keys.lt b e).2
      omega
  · rcases Nat.lt_trichotomy i xs.length with hi | hi | hi
    · rw [List.getElem?_append_left hi] at h1
      rw [List.getElem?_append_left (by rw [h.len]; exact hi)] at h2
      exact hmv y ws (h.at_ i y ws h1 h2)
    · subst hi
      rw [List.getElem?_append_right (Nat.le_refl _)] at h1
      rw [← h.len, List.getElem?_append_right (Nat.le_refl _)] at h2
      simp at h1 h2
      subst h1 h2
      exact hmv x vs (hx.mono hok)
    · rw [List.getElem?_eq_none (by simp; omega)] at h1
      simp at h1
theorem ItemsK.tree (h : ItemsK W base iv kv xs vss ks) (k n : Int) (s : List UInt8) : JAt W (fun b => base ≤ b ∧ b < W.heap.size) (.mk k n s ks xs) [.int .i64 k, .int .i64 n, .string (str s), iv, kv] :=
  .mk (RowAt.own h.keys (fun b hb => h.keys.lt b hb)) (RowAt.own h.own (fun b hb => h.own.lt b hb)) h.len (fun i x vs h1 h2 => (h.at_ i x vs h1 h2).mono (fun b hb => ⟨hb.1, hb.2.1⟩))

def objC (iv kv : Value) : Array Value := #[.int .i64 6, .int .i64 0, .string ⟨#[]⟩, iv, kv]
/-- The blocks of the object under way. -/
structure OBlk (W0 wr : World) (X H4 : Nat) (iv kv : Value) : Prop where
  b4 : Blk wr H4 z5J 25
  b5 : Blk wr (H4 + 1) (objC iv kv) 25
  near : Near X H4 W0 wr
theorem OBlk.near' {W0 wr w1 : World} {X H4 : Nat} {iv kv : Value} (h : OBlk W0 wr X H4 iv kv) (hX : X < H4) (hN : Near X wr.heap.size wr w1) : OBlk W0 w1 X H4 iv kv :=
  ⟨Near.blk h.b4 hN h.b4.lt (by omega), Near.blk h.b5 hN h.b5.lt (by omega), h.near.later hN (Nat.le_of_lt h.b4.lt)⟩
/-- What is still to be said of an item's beginning. -/
def S3 (W : World) (X : Nat) (bv : Value) (l : List UInt8) (f : MT → JR) (R1 : JR) : Prop := (∃ e, Bad W X bv e ∧ R1 = .bad e) ∨ (∃ q : Nat, Any W X bv (q : Int) 0 ∧ q ≤ l.length ∧ R1 = f (mTakeN l q))
theorem S3.keep {W W' : World} {X : Nat} {bv : Value} {l : List UInt8} {f : MT → JR} {R1 : JR} (h : S3 W X bv l f R1) (hs : W'.heap[X]? = W.heap[X]?) : S3 W' X bv l f R1 := by
  rcases h with ⟨e, h1, h2⟩ | ⟨q, h1, h2⟩
  · exact .inl ⟨e, h1.keep hs, h2⟩
  · exact .inr ⟨q, h1.keep hs, h2⟩
def T3 (W : World) (X : Nat) (bv : Value) (l : List UInt8) (f : MT → JR) (R1 : JR) (m2 : MT) (W' : World) : Prop := Near X W.heap.size W W' ∧ Took W' X bv m2 ∧ R1 = f m2 ∧ (m2.k ≠ 0 → m2.nx ≤ l.length)
theorem take3 {W : World} {X : Nat} {a : Option Addr} {b off c : Nat} {l : List UInt8} {f : MT → JR} {R1 : JR} (hf : Reads l f) (hE : PEnv W X a b off c l) (h : S3 W X (.slice a l.length c) l f R1) :
    Calls Tryz.prog 20 #[.pointer (some ⟨X, 0, none⟩)] W fun r W' => ∃ m2 : MT, r = .returned (.int .i64 (m2.k : Int)) ∧ T3 W X (.slice a l.length c) l f R1 m2 W' := by
  rcases h with ⟨e, hB, hR⟩ | ⟨q, hA, hq, hR⟩
  · refine (ptake_bad hB).mono ?_
    rintro r W' ⟨rfl, rfl⟩
    refine ⟨⟨e, 0, 0, [], 0, 0⟩, rfl, Near.refl _ _ _, .inr ⟨rfl, hB⟩, ?_, fun h => absurd rfl h⟩
    rw [hR, (hf _).1 rfl]
    unfold wrongE
    rw [if_pos hB.1]
  · refine (ptake_any hE hq hA).mono ?_
    rintro r W' ⟨rfl, hN, hT⟩
    exact ⟨mTakeN l q, rfl, hN, hT, hR, fun h => by have := take_kinds hq; omega⟩
/-- What an object's loop keeps while nothing is wrong. -/
structure OAlive (R : JR) (W0 : World) (X : Nat) (a : Option Addr) (b off c : Nat) (l : List UInt8) (f : MT → JR) (H4 : Nat) (wr : World) (p : Nat) (xs : List JT) (iv kv : Value) (vss : List (List Value)) (ks : List (List UInt8)) : Prop where
  pos : p ≤ l.length
  word : (mTakeN l p).e = 0
  good : Good wr X (.slice a l.length c) (mTakeN l p)
  res : R = mLoop l f true p ks xs
  few : xs.length ≤ p ∧ ks.length ≤ p
  blk : OBlk W0 wr X H4 iv kv
  items : ItemsK wr (H4 + 2) iv kv xs vss ks
structure ODead (R : JR) (W0 : World) (X : Nat) (bv : Value) (H4 : Nat) (wr : World) (e : Nat) (iv kv : Value) : Prop where
  bad : Bad wr X bv e
  res : R = .bad e
  blk : OBlk W0 wr X H4 iv kv
  one : (∃ a n c, iv = .slice a n c) ∧ ∃ a n c, kv = .slice a n c
def ORel (R : JR) (W0 : World) (X : Nat) (a : Option Addr) (b off c : Nat) (l : List UInt8) (f : MT → JR) (H4 : Nat) (t : Value) (wr : World) : Prop :=
  (∃ p xs iv kv vss ks, t = .int .i64 ((mTakeN l p).k : Int) ∧ OAlive R W0 X a b off c l f H4 wr p xs iv kv vss ks) ∨ (∃ e iv kv k, t = .int .i64 k ∧ ODead R W0 X (.slice a l.length c) H4 wr e iv kv)
theorem oloop_dead {f : MT → JR} {l : List UInt8} {p : Nat} (hp : p ≤ l.length) {ks : List (List UInt8)} {xs : List JT} (he : (mTakeN l p).e ≠ 0) : mLoop l f true p ks xs = .bad (mTakeN l p).e := by
  have hk := take_kinds hp
  rw [mLoop]
  have h1 : mHead l f true p ks = .bad (mTakeN l p).e := by
    unfold mHead
    rw [if_pos rfl, if_pos (by omega)]
    unfold wrongE
    rw [if_pos he]
  rw [h1]
/-- A key is appended. -/
theorem obj_key {W0 W1 W2 : World} {X H4 : Nat} {iv kv : Value} {xs : List JT} {vss : List (List Value)} {ks : List (List UInt8)} {k : List UInt8} {a' : Option Addr} {c' : Nat} (hX : X < H4) (hO : OBlk W0 W1 X H4 iv kv) (hI : ItemsK W1 (H4 + 2) iv kv xs vss ks)
    (hown : W2.ownsRow (H4 + 2) 9 1 (.slice a' (ks.length + 1) c') (ks.length + 1) (ks.map strV ++ [strV k])) (hg : (W1.alloc (.cells #[strV k] 9)).grownBy W2 kv.ownBlock)
    (hb : (Value.slice a' (ks.length + 1) c').ownBlock = kv.ownBlock ∨ (Value.slice a' (ks.length + 1) c').ownBlock = some (W1.heap.size + 1)) :
    OBlk W0 (W2.setCell ⟨H4 + 1, 4, none⟩ (.slice a' (ks.length + 1) c')) X H4 iv (.slice a' (ks.length + 1) c') ∧ ItemsK (W2.setCell ⟨H4 + 1, 4, none⟩ (.slice a' (ks.length + 1) c')) (H4 + 2) iv (.slice a' (ks.length + 1) c') xs vss (ks ++ [k]) ∧
    (W2.setCell ⟨H4 + 1, 4, none⟩ (.slice a' (ks.length + 1) c')).heap[X]? = W1.heap[X]? := by
  obtain ⟨G, hG⟩ : ∃ G, W2.setCell ⟨H4 + 1, 4, none⟩ (.slice a' (ks.length + 1) c') = G := ⟨_, rfl⟩
  have l4 := hO.b4.lt
  have l5 := hO.b5.lt
  have hs2 := hg.size
  simp at hs2
  have hlt := hI.keys.lt
  have hfar : ∀ k, k < H4 + 2 → W2.heap[k]? = W1.heap[k]? := by
    intro k h1
    rw [hg.block k (by simp; omega) (fun e => by have := hlt k e.symm; omega)]
    exact heap_alloc_old W1 _ (by omega)
  have hset : ∀ k, k ≠ H4 + 1 → G.heap[k]? = W2.heap[k]? := fun k hk => by rw [← hG]; exact Below.heap_setCell _ _ _ _ hk
  have hGs : G.heap.size = W2.heap.size := by rw [← hG]; simp
  have hb5' : Blk W2 (H4 + 1) (objC iv kv) 25 := (hfar _ (by omega)).trans hO.b5
  have hB2 : Below X W0 W2 := (hO.near.below.alloc (by omega) _).grown hg (by simp; omega) (fun k hk => by have := hlt k hk; omega)
  refine ⟨⟨?_, hb5'.set 4 _, hB2.setCell (by show X ≤ H4 + 1; omega) _, fun k h1 h2 => ?_⟩, ?_, ?_⟩
  · rw [hG]
    exact (hset H4 (by omega)).trans ((hfar H4 (by omega)).trans hO.b4)
  · rw [hG, hset k (by omega), hfar k (by omega)]
    exact hO.near.far k h1 h2
  · have hI1 := hI.later (W' := W1.alloc (.cells #[strV k] 9)) (fun b h1 h2 => heap_alloc_old W1 _ h2) (by simp)
    have hp := hI1.key hown hg (by simpa using hb)
    exact hp.later (fun b h1 h2 => by rw [hG]; exact hset b (by omega)) (by rw [hG, hGs]; exact Nat.le_refl _)
  · rw [hG, hset X (by omega), hfar X (by omega)]
/-- What an item of an object leaves. -/
def OItem (W0 : World) (X : Nat) (bv : Value) (H4 : Nat) (R1 : JR) (xs : List JT) (kv : Value) (ks : List (List UInt8)) (W6 : World) : Prop :=
  ∃ ia ic, OBlk W0 W6 X H4 (.slice ia (xs.length + 1) ic) kv ∧ (∀ e, R1 = .bad e → Bad W6 X bv e) ∧
    (∀ x q, R1 = .ok x q → Any W6 X bv (q : Int) 0 ∧ ∃ vss, ItemsK W6 (H4 + 2) (.slice ia (xs.length + 1) ic) kv (xs ++ [x]) vss ks)
theorem obj_item {W0 wr W1 W2 : World} {X H4 : Nat} {bv iv kv : Value} {R1 : JR} {xs : List JT} {vss : List (List Value)} {ks : List (List UInt8)} {v0 v1 v2 v3 v4 : Value} {a' : Option Addr} {c' : Nat} (hX : X < H4) (hO : OBlk W0 wr X H4 iv kv) (hI : ItemsK wr (H4 + 2) iv kv xs vss ks)
    (hN1 : Near X wr.heap.size wr W1) (hown2 : W2.ownsRow (H4 + 2) 25 5 (.slice a' (xs.length + 1) c') (xs.length + 1) (vss.flatten ++ [v0, v1, v2, v3, v4]))
    (hg2 : (W1.alloc (.cells #[v0, v1, v2, v3, v4] 25)).grownBy W2 iv.ownBlock) (hb2 : (Value.slice a' (xs.length + 1) c').ownBlock = iv.ownBlock ∨ (Value.slice a' (xs.length + 1) c').ownBlock = some (W1.heap.size + 1))
    (hbad : ∀ e, R1 = .bad e → Bad W1 X bv e) (hok : ∀ t q, R1 = .ok t q → Any W1 X bv (q : Int) 0 ∧ JAt W1 (fun b => wr.heap.size ≤ b ∧ b < W1.heap.size) t [v0, v1, v2, v3, v4]) :
    OItem W0 X bv H4 R1 xs kv ks (W2.setCell ⟨H4 + 1, 3, none⟩ (.slice a' (xs.length + 1) c')) := by
  obtain ⟨G, hG⟩ : ∃ G, W2.setCell ⟨H4 + 1, 3, none⟩ (.slice a' (xs.length + 1) c') = G := ⟨_, rfl⟩
  have l4 := hO.b4.lt
  have l5 := hO.b5.lt
  have hs1 := hN1.below.size
  have hs2 := hg2.size
  simp at hs2
  have hlt := hI.own.lt
  have hltk := hI.keys.lt
  have hfar : ∀ k, k < H4 + 2 → k ≠ X → W2.heap[k]? = wr.heap[k]? := by
    intro k h1 h2
    rw [hg2.block k (by simp; omega) (fun e => by have := hlt k e.symm; omega)]
    rw [heap_alloc_old W1 _ (by omega)]
    exact hN1.far k (by omega) h2
  have hfarX : W2.heap[X]? = W1.heap[X]? := by
    rw [hg2.block X (by simp; omega) (fun e => by have := hlt X e.symm; omega)]
    exact heap_alloc_old W1 _ (by omega)
  have hset : ∀ k, k ≠ H4 + 1 → G.heap[k]? = W2.heap[k]? := fun k hk => by rw [← hG]; exact Below.heap_setCell _ _ _ _ hk
  have hGs : G.heap.size = W2.heap.size := by rw [← hG]; simp
  have hb5' : Blk W2 (H4 + 1) (objC iv kv) 25 := (hfar _ (by omega) (by omega)).trans hO.b5
  have hB2 : Below X W0 W2 := ((hO.near.below.trans hN1.below).alloc (by omega) _).grown hg2 (by simp; omega) (fun k hk => by have := hlt k hk; omega)
  have hXe : G.heap[X]? = W1.heap[X]? := (hset X (by omega)).trans hfarX
  refine ⟨a', c', ⟨?_, hb5'.set 3 _, hB2.setCell (by show X ≤ H4 + 1; omega) _, fun k h1 h2 => ?_⟩, fun e he => ?_, fun x q hq => ?_⟩
  · rw [hG]
    exact (hset H4 (by omega)).trans ((hfar H4 (by omega) (by omega)).trans hO.b4)
  · rw [hG, hset k (by omega), hfar k (by omega) h2]
    exact hO.near.far k h1 h2
  · exact (hbad e he).keep (by rw [hG]; exact hXe)
  · obtain ⟨h1, h2⟩ := hok x q hq
    refine ⟨h1.keep (by rw [hG]; exact hXe), vss ++ [[v0, v1, v2, v3, v4]], ?_⟩
    have hI1 := hI.later (W' := W1.alloc (.cells #[v0, v1, v2, v3, v4] 25)) (fun b h1 h2 => by rw [heap_alloc_old W1 _ (by omega)]; exact hN1.far b h2 (by omega)) (by simp; omega)
    have ht1 : JAt (W1.alloc (.cells #[v0, v1, v2, v3, v4] 25)) (fun b => wr.heap.size ≤ b ∧ b < W1.heap.size) x [v0, v1, v2, v3, v4] := h2.frame (fun b hb => heap_alloc_old W1 _ hb.2)
    have hp := hI1.push ht1 (fun b hb => ⟨by omega, by simp; omega, fun e => by have := hlt b e; omega, fun e => by have := hltk b e; omega⟩) hown2 hg2 (by simpa using hb2)
    exact hp.later (fun b h1 h2 => by rw [hG]; exact hset b (by omega)) (by rw [hG, hGs]; exact Nat.le_refl _)

end Go.Proofs.YticfioblapjkmaaGreat
