/- JSON trees: plain, and as they lie in memory; rows that a call grows. -/
import Derived.Test.YtmembanbemljoaaWrd
import Derived.Maps.AppendAt
namespace Go.Proofs.Ytmembanbemljoaa
open Go.RowKit
set_option linter.unusedVariables false
set_option linter.unusedSimpArgs false

/-- A tree: its kind, number, text, keys, items. -/
inductive JT where
  | mk (k : Int) (n : Int) (s : List UInt8) (ks : List (List UInt8)) (xs : List JT)
def strV (s : List UInt8) : Value := .string (str s)
/-- A row of n elements of z cells each, in a block that 'ok' allows. -/
def RowAt (W : World) (ok : Nat → Prop) (v : Value) (n z : Nat) (cs : List Value) : Prop :=
  (cs.length = n * z ∧ n ≤ 9223372036854775807) ∧ ∃ a c, v = .slice a n c ∧ (n ≤ c ∧ c ≤ 9223372036854775807 ∧ (a = none → c = 0)) ∧ (n ≠ 0 → ∃ b off, a = some ⟨b, off, none⟩ ∧ ok b ∧ ∀ j, j < n * z → W.cell? ⟨b, off + j, none⟩ = cs[j]?)
theorem RowAt.frame {W W' : World} {ok : Nat → Prop} {v : Value} {n z : Nat} {cs : List Value} (h : RowAt W ok v n z cs) (hs : ∀ b, ok b → W'.heap[b]? = W.heap[b]?) : RowAt W' ok v n z cs := by
  obtain ⟨h1, a, c, h2, h3, h4⟩ := h
  refine ⟨h1, a, c, h2, h3, fun hn => ?_⟩
  obtain ⟨b, off, h5, h6, h7⟩ := h4 hn
  exact ⟨b, off, h5, h6, fun j hj => (World.cell?_of_block (w := W) (hs b h6)).trans (h7 j hj)⟩
theorem RowAt.mono {W : World} {ok ok' : Nat → Prop} {v : Value} {n z : Nat} {cs : List Value} (h : RowAt W ok v n z cs) (hs : ∀ b, ok b → ok' b) : RowAt W ok' v n z cs := by
  obtain ⟨h1, a, c, h2, h3, h4⟩ := h
  refine ⟨h1, a, c, h2, h3, fun hn => ?_⟩
  obtain ⟨b, off, h5, h6, h7⟩ := h4 hn
  exact ⟨b, off, h5, hs b h6, h7⟩
theorem RowAt.nil (W : World) (ok : Nat → Prop) (z : Nat) : RowAt W ok (.slice none 0 0) 0 z [] := ⟨⟨by simp, by omega⟩, none, 0, rfl, ⟨Nat.le_refl _, by omega, fun _ => rfl⟩, fun h => absurd rfl h⟩
theorem RowAt.own {W : World} {ok : Nat → Prop} {base : Nat} {e : TypeId} {v : Value} {n z : Nat} {cs : List Value} (h : W.ownsRow base e z v n cs) (hok : ∀ b, v.ownBlock = some b → ok b) : RowAt W ok v n z cs := by
  have h' := h
  obtain ⟨h1, h2⟩ := h
  rcases h2 with ⟨rfl, rfl⟩ | ⟨g, cap, cur, rfl, hbg, hg, hnc, hcm, hr⟩
  · exact ⟨⟨h1, by omega⟩, none, 0, rfl, ⟨Nat.le_refl _, by omega, fun _ => rfl⟩, fun h => absurd rfl h⟩
  · exact ⟨⟨h1, by unfold maxLen at hcm; omega⟩, some ⟨g, 0, none⟩, cap, rfl, ⟨hnc, by unfold maxLen at hcm; omega, fun h => by simp at h⟩, fun _ => ⟨g, 0, rfl, hok g rfl, fun j hj => by rw [Nat.zero_add]; exact World.ownsRow.cellAt h' j hj⟩⟩

/-- A tree in memory: its five cells. -/
inductive JAt (W : World) (ok : Nat → Prop) : JT → List Value → Prop
  | mk {k n : Int} {s : List UInt8} {ks : List (List UInt8)} {xs : List JT} {iv kv : Value} {vss : List (List Value)}
      (hk : RowAt W ok kv ks.length 1 (ks.map strV)) (hi : RowAt W ok iv xs.length 5 vss.flatten) (hl : vss.length = xs.length)
      (hx : ∀ (i : Nat) (x : JT) (vs : List Value), xs[i]? = some x → vss[i]? = some vs → JAt W ok x vs) :
      JAt W ok (.mk k n s ks xs) [.int .i64 k, .int .i64 n, .string (str s), iv, kv]
theorem JAt.five {W : World} {ok : Nat → Prop} {t : JT} {vs : List Value} (h : JAt W ok t vs) : vs.length = 5 := by cases h; rfl
theorem JAt.frame {W W' : World} {ok : Nat → Prop} {t : JT} {vs : List Value} (h : JAt W ok t vs) (hs : ∀ b, ok b → W'.heap[b]? = W.heap[b]?) : JAt W' ok t vs := by
  induction h with
  | mk hk hi hl hx ih => exact .mk (hk.frame hs) (hi.frame hs) hl ih
theorem JAt.mono {W : World} {ok ok' : Nat → Prop} {t : JT} {vs : List Value} (h : JAt W ok t vs) (hs : ∀ b, ok b → ok' b) : JAt W ok' t vs := by
  induction h with
  | mk hk hi hl hx ih => exact .mk (hk.mono hs) (hi.mono hs) hl ih
theorem JAt.one {W : World} {ok : Nat → Prop} {t : JT} {vs : List Value} (h : JAt W ok t vs) : ∀ u ∈ vs, u.oneCell' = true := by
  cases h with
  | mk hk hi hl hx =>
    obtain ⟨_, a, c, rfl, _⟩ := hk
    obtain ⟨_, a', c', rfl, _⟩ := hi
    intro u hu
    simp at hu
    rcases hu with rfl | rfl | rfl | rfl | rfl <;> rfl

theorem Try.infoJ : (Try.prog.info? 58).map (fun i => (i.zero, i.size, i.bytes)) = some (some (.agg #[.int .i64 0, .int .i64 0, .string ⟨#[]⟩, .slice none 0 0, .slice none 0 0]), 5, 80) := by kernel_rfl
theorem Try.infoS : (Try.prog.info? 9).map (fun i => (i.zero, i.size, i.bytes)) = some (some (.string ⟨#[]⟩), 1, 16) := by kernel_rfl
/-- append(v, x), v the call's own row, x one element in a row of its own. -/
theorem appendR {t e : TypeId} {zv : Value} {z bytes : Nat} (ht : Try.prog.underlying t = some (.slice e)) (hinf : (Try.prog.info? e).map (fun i => (i.zero, i.size, i.bytes)) = some (some zv, z, bytes)) (hzs : zv.cells.size = z) (hz0 : 0 < z) (hby : bytes ≤ 96)
    {w : World} {base : Nat} {v : Value} {n : Nat} {cs : List Value} (h : w.ownsRow base e z v n cs) (Y : Nat) (news : List Value) (hl : news.length = z) (hx : ∀ j, j < z → w.cell? ⟨Y, j, none⟩ = news[j]?) (h1 : ∀ u ∈ news, u.oneCell' = true)
    (hn : n < 1099511627776) (hbase : base ≤ w.heap.size) :
    ∃ a' c' w', (Builtin.append_ #[t, t] t #[v, .slice (some ⟨Y, 0, none⟩) 1 1]).run Try.prog w = .ok (.slice a' (n + 1) c') w' ∧ w'.ownsRow base e z (.slice a' (n + 1) c') (n + 1) (cs ++ news) ∧ w.grownBy w' v.ownBlock ∧
      ((Value.slice a' (n + 1) c').ownBlock = v.ownBlock ∨ (Value.slice a' (n + 1) c').ownBlock = some w.heap.size) := by
  obtain ⟨i, hi, hq0, hq1, hq2⟩ := info_parts hinf
  obtain ⟨v', w', r, h2, h3, _, h5⟩ := run_append_own_at (P := Try.prog) w base t t e i zv z bytes ht hi hq0 hq1 hq2 hzs hz0 v n cs h ⟨Y, 0, none⟩ 1 1 news (by rw [hl, Nat.one_mul])
    (by intro j u hj
        have hjz : j < z := by rw [← hl]; exact (List.getElem?_eq_some_iff.1 hj).1
        have e : (⟨Y, 0, none⟩ : Addr).add j = ⟨Y, j, none⟩ := by simp [Addr.add]; omega
        rw [e, hx j hjz]; exact hj)
    h1 (by unfold maxLen; omega) (by have := Nat.mul_le_mul (show n + 1 ≤ 1099511627776 from hn) hby; omega) hbase
  have hs : ∃ a' c', v' = .slice a' (n + 1) c' := by
    rcases h2.2 with ⟨rfl, h0⟩ | ⟨g, cap, cur, rfl, _⟩
    · omega
    · exact ⟨_, _, rfl⟩
  obtain ⟨a', c', rfl⟩ := hs
  exact ⟨a', c', w', r, h2, h3, h5⟩
theorem oper_appendR {t e : TypeId} {zv : Value} {z bytes : Nat} (ht : Try.prog.underlying t = some (.slice e)) (hinf : (Try.prog.info? e).map (fun i => (i.zero, i.size, i.bytes)) = some (some zv, z, bytes)) (hzs : zv.cells.size = z) (hz0 : 0 < z) (hby : bytes ≤ 96)
    {o : Oper} {a : Act} {K : Act → World → Prop} {Q : Exit → Act → World → Prop} {w : World}
    (s x : Operand) (ho : o.op = .call { callee := .builtin .append, args := #[s, x], argTypes := #[t, t] }) (hty : o.type = t)
    (base : Nat) (v : Value) (n : Nat) (cs : List Value) (Y : Nat) (news : List Value) (hs : a.eval s = v) (hxv : a.eval x = .slice (some ⟨Y, 0, none⟩) 1 1)
    (h : w.ownsRow base e z v n cs) (hl : news.length = z) (hx : ∀ j, j < z → w.cell? ⟨Y, j, none⟩ = news[j]?) (h1 : ∀ u ∈ news, u.oneCell' = true) (hn : n < 1099511627776) (hbase : base ≤ w.heap.size)
    (k : ∀ a' c' w', Hid (w'.ownsRow base e z (.slice a' (n + 1) c') (n + 1) (cs ++ news)) → Hid (w.grownBy w' v.ownBlock) → Hid ((Value.slice a' (n + 1) c').ownBlock = v.ownBlock ∨ (Value.slice a' (n + 1) c').ownBlock = some w.heap.size) → K (a.put o.dst (.slice a' (n + 1) c')) w') :
    Oper.wp Try.prog o a w K Q := by
  obtain ⟨a', c', w', r, h2, h3, h4⟩ := appendR ht hinf hzs hz0 hby h Y news hl hx h1 hn hbase
  unfold Oper.wp
  rw [exec_append s x _ ho hs hxv (by rw [hty]; exact r)]
  exact k a' c' w' h2 h3 h4
theorem wpList_appendR {t e : TypeId} {zv : Value} {z bytes : Nat} (ht : Try.prog.underlying t = some (.slice e)) (hinf : (Try.prog.info? e).map (fun i => (i.zero, i.size, i.bytes)) = some (some zv, z, bytes)) (hzs : zv.cells.size = z) (hz0 : 0 < z) (hby : bytes ≤ 96)
    {ops : Array Oper} {rest : List Oper} {o : Oper} {a : Act} {Q : Exit → Act → World → Prop} {w : World}
    (s x : Operand) (ho : o.op = .call { callee := .builtin .append, args := #[s, x], argTypes := #[t, t] }) (hty : o.type = t)
    (hw : Region.wanted o (yielded ops a.tmps) = true)
    (base : Nat) (v : Value) (n : Nat) (cs : List Value) (Y : Nat) (news : List Value) (hs : a.eval s = v) (hxv : a.eval x = .slice (some ⟨Y, 0, none⟩) 1 1)
    (h : w.ownsRow base e z v n cs) (hl : news.length = z) (hx : ∀ j, j < z → w.cell? ⟨Y, j, none⟩ = news[j]?) (h1 : ∀ u ∈ news, u.oneCell' = true) (hn : n < 1099511627776) (hbase : base ≤ w.heap.size)
    (k : ∀ a' c' w', Hid (w'.ownsRow base e z (.slice a' (n + 1) c') (n + 1) (cs ++ news)) → Hid (w.grownBy w' v.ownBlock) → Hid ((Value.slice a' (n + 1) c').ownBlock = v.ownBlock ∨ (Value.slice a' (n + 1) c').ownBlock = some w.heap.size) → wpList Try.prog ops Q rest (a.put o.dst (.slice a' (n + 1) c')) w') :
    wpList Try.prog ops Q (o :: rest) a w := by
  obtain ⟨a', c', w', r, h2, h3, h4⟩ := appendR ht hinf hzs hz0 hby h Y news hl hx h1 hn hbase
  exact wpList_val hw (exec_append s x _ ho hs hxv (by rw [hty]; exact r)) (k a' c' w' h2 h3 h4)
theorem step_appendR {t e : TypeId} {zv : Value} {z bytes : Nat} (ht : Try.prog.underlying t = some (.slice e)) (hinf : (Try.prog.info? e).map (fun i => (i.zero, i.size, i.bytes)) = some (some zv, z, bytes)) (hzs : zv.cells.size = z) (hz0 : 0 < z) (hby : bytes ≤ 96)
    {ops : Array Oper} {o : Oper} {a : Act} {K : Act → World → Prop} {Q : Exit → Act → World → Prop} {E : Prop} {w : World} (hgd : o.guard = none)
    (s x : Operand) (ho : o.op = .call { callee := .builtin .append, args := #[s, x], argTypes := #[t, t] }) (hty : o.type = t)
    (base : Nat) (v : Value) (n : Nat) (cs : List Value) (Y : Nat) (news : List Value) (hs : a.eval s = v) (hxv : a.eval x = .slice (some ⟨Y, 0, none⟩) 1 1)
    (h : w.ownsRow base e z v n cs) (hl : news.length = z) (hx : ∀ j, j < z → w.cell? ⟨Y, j, none⟩ = news[j]?) (h1 : ∀ u ∈ news, u.oneCell' = true) (hn : n < 1099511627776) (hbase : base ≤ w.heap.size)
    (k : ∀ a' c' w', Hid (w'.ownsRow base e z (.slice a' (n + 1) c') (n + 1) (cs ++ news)) → Hid (w.grownBy w' v.ownBlock) → Hid ((Value.slice a' (n + 1) c').ownBlock = v.ownBlock ∨ (Value.slice a' (n + 1) c').ownBlock = some w.heap.size) → K (a.put o.dst (.slice a' (n + 1) c')) w') :
    if Region.wanted o (yielded ops a.tmps) = true then Oper.wp Try.prog o a w K Q else E := by
  have hw : Region.wanted o (yielded ops a.tmps) = true := by simp [Region.wanted, hgd]
  rw [if_pos hw]
  exact oper_appendR ht hinf hzs hz0 hby s x ho hty base v n cs Y news hs hxv h hl hx h1 hn hbase k

theorem ownsRow_block {W W' : World} {base : Nat} {e : TypeId} {z : Nat} {v : Value} {n : Nat} {cs : List Value} (h : W.ownsRow base e z v n cs) (hs : ∀ b, v.ownBlock = some b → W'.heap[b]? = W.heap[b]?) : W'.ownsRow base e z v n cs := by
  obtain ⟨h1, h2⟩ := h
  refine ⟨h1, ?_⟩
  rcases h2 with h2 | ⟨g, cap, cur, rfl, hbg, hg, hr⟩
  · exact .inl h2
  · exact .inr ⟨g, cap, cur, rfl, hbg, by rw [hs g rfl]; exact hg, hr⟩
/-- Trees in a row that the call grows. -/
structure ItemsO (W : World) (base : Nat) (iv : Value) (xs : List JT) (vss : List (List Value)) : Prop where
  own : W.ownsRow base 58 5 iv xs.length vss.flatten
  len : vss.length = xs.length
  at_ : ∀ (i : Nat) (x : JT) (vs : List Value), xs[i]? = some x → vss[i]? = some vs → JAt W (fun b => base ≤ b ∧ b < W.heap.size ∧ iv.ownBlock ≠ some b) x vs
theorem ItemsO.nil (W : World) (base : Nat) : ItemsO W base (.slice none 0 0) [] [] := ⟨World.ownsRow_nil _ _ _ _, rfl, fun i x vs h => by simp at h⟩
/-- Nothing from base on has turned. -/
theorem ItemsO.later {W W' : World} {base : Nat} {iv : Value} {xs : List JT} {vss : List (List Value)} (h : ItemsO W base iv xs vss) (hs : ∀ b, base ≤ b → b < W.heap.size → W'.heap[b]? = W.heap[b]?) (hz : W.heap.size ≤ W'.heap.size) : ItemsO W' base iv xs vss :=
  ⟨ownsRow_block h.own (fun b hb => hs b (h.own.lt b hb).1 (h.own.lt b hb).2), h.len, fun i x vs h1 h2 => ((h.at_ i x vs h1 h2).frame (fun b hb => hs b hb.1 hb.2.1)).mono (fun b hb => ⟨hb.1, by omega, hb.2.2⟩)⟩
/-- One more. -/
theorem ItemsO.push {W W' : World} {base : Nat} {iv iv' : Value} {xs : List JT} {vss : List (List Value)} {x : JT} {vs : List Value} {ok : Nat → Prop} (h : ItemsO W base iv xs vss) (hx : JAt W ok x vs) (hok : ∀ b, ok b → base ≤ b ∧ b < W.heap.size ∧ iv.ownBlock ≠ some b)
    (hown : W'.ownsRow base 58 5 iv' (xs.length + 1) (vss.flatten ++ vs)) (hg : W.grownBy W' iv.ownBlock) (hb : iv'.ownBlock = iv.ownBlock ∨ iv'.ownBlock = some W.heap.size) : ItemsO W' base iv' (xs ++ [x]) (vss ++ [vs]) := by
  have hmv : ∀ y ws, JAt W (fun b => base ≤ b ∧ b < W.heap.size ∧ iv.ownBlock ≠ some b) y ws → JAt W' (fun b => base ≤ b ∧ b < W'.heap.size ∧ iv'.ownBlock ≠ some b) y ws := by
    intro y ws hy
    have hsz := hg.size
    refine (hy.frame (fun b hb => hg.block b hb.2.1 (fun e => hb.2.2 e.symm))).mono (fun b hb' => ⟨hb'.1, by omega, fun e => ?_⟩)
    rcases hb with h1 | h1
    · exact hb'.2.2 (h1 ▸ e)
    · rw [h1] at e
      have := Option.some.inj e
      omega
  refine ⟨by simpa using hown, by simp [h.len], fun i y ws h1 h2 => ?_⟩
  rcases Nat.lt_trichotomy i xs.length with hi | hi | hi
  · rw [List.getElem?_append_left hi] at h1
    rw [List.getElem?_append_left (by rw [h.len]; exact hi)] at h2
    exact hmv y ws (h.at_ i y ws h1 h2)
  · subst hi
    rw [List.getElem?_append_right (Nat.le_refl _)] at h1
    rw [← h.len, List.getElem?_append_right (Nat.le_refl _)] at h2
    simp at h1 h2
    subst h1 h2
    exact hmv x vs (hx.mono hok)
  · rw [List.getElem?_eq_none (by simp; omega)] at h1
    simp at h1
/-- A whole tree of keys and items that the call has grown. -/
theorem ItemsO.tree {W : World} {base : Nat} {iv kv : Value} {xs : List JT} {vss : List (List Value)} {ks : List (List UInt8)} (h : ItemsO W base iv xs vss) (hk : W.ownsRow base 9 1 kv ks.length (ks.map strV)) (k n : Int) (s : List UInt8) :
    JAt W (fun b => base ≤ b ∧ b < W.heap.size) (.mk k n s ks xs) [.int .i64 k, .int .i64 n, .string (str s), iv, kv] :=
  .mk (RowAt.own hk (fun b hb => hk.lt b hb)) (RowAt.own h.own (fun b hb => h.own.lt b hb)) h.len (fun i x vs h1 h2 => (h.at_ i x vs h1 h2).mono (fun b hb => ⟨hb.1, hb.2.1⟩))

end Go.Proofs.Ytmembanbemljoaa
