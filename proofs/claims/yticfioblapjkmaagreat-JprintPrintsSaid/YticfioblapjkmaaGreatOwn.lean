/- Bytes of the own, and slices of bytes. -/
import Derived.Test.YticfioblapjkmaaGreatBase
import Derived.Laws.OwnMore
namespace Go.Proofs.YticfioblapjkmaaGreat
open Go.RowKit
set_option linter.unusedVariables false
set_option linter.unusedSimpArgs false

def bv (x : UInt8) : Value := .int .u8 (x.toNat : Int)
/-- A slice of bytes that the call itself made (blocks from 'base' on), holding l. -/
def OwnB (w : World) (base : Nat) (v : Value) (l : List UInt8) : Prop := w.ownsRow base 5 1 v l.length (l.map bv)
theorem Tryz.info5 : (Tryz.prog.info? 5).map (fun i => (i.zero, i.size, i.bytes)) = some (some (.int .u8 0), 1, 1) := by kernel_rfl
theorem OwnB.nil (w : World) (base : Nat) : OwnB w base (.slice none 0 0) [] := World.ownsRow_nil _ _ _ _
theorem OwnB.alloc {w : World} {base : Nat} {v : Value} {l : List UInt8} (h : OwnB w base v l) (o : Obj) : OwnB (w.alloc o) base v l := World.ownsRow.alloc h o
/-- A list written out in the text, in a new block. -/
theorem OwnB.made (w : World) (base B : Nat) (C : Array Value) (l : List UInt8) (n : Nat) (hB : w.heap.size = B) (hb : base ≤ B) (hC : C.toList = l.map bv) (hn : n = l.length) (hm : l.length ≤ maxLen) :
    OwnB (w.alloc (.cells C 5)) base (.slice (some ⟨B, 0, none⟩) n n) l := by
  subst hB hn
  have h := World.ownsRow_lit (base := base) (e := 5) (size := 1) w C l.length hb hm (by rw [← Array.length_toList, hC]; simp)
  rw [hC] at h
  exact h
theorem OwnB.parts {w : World} {base : Nat} {v : Value} {l : List UInt8} (h : OwnB w base v l) :
    ∃ a b c, v = .slice a l.length c ∧ BytesAt w a b 0 l ∧ l.length ≤ c ∧ (∀ k, v.ownBlock = some k → k = b ∧ base ≤ b) ∧ (l ≠ [] → base ≤ b ∧ a = some ⟨b, 0, none⟩) := by
  have h' := h
  obtain ⟨h1, h2⟩ := h
  rcases h2 with ⟨rfl, h0⟩ | ⟨g, cap, cur, rfl, hbg, hg, hnc, hcm, hcs, htk⟩
  · have : l = [] := List.eq_nil_of_length_eq_zero h0
    subst this
    exact ⟨none, 0, 0, rfl, ⟨fun h => absurd rfl h, fun j hj => by simp at hj⟩, by simp, fun k hk => by simp [Value.ownBlock] at hk, fun h => absurd rfl h⟩
  · refine ⟨_, g, cap, rfl, ⟨fun _ => rfl, fun j hj => ?_⟩, hnc, fun k hk => ?_, fun _ => ⟨hbg, rfl⟩⟩
    · have := World.ownsRow.cellAt h' j (by omega)
      rw [Nat.zero_add, this]
      simp [List.getElem?_map, List.getElem?_eq_getElem hj, bv]
    · simp [Value.ownBlock] at hk
      omega
/-- append(v, x...), v the call's own, x any slice of bytes. -/
theorem appendBytes {w : World} {base : Nat} {v : Value} {l m : List UInt8} {a : Option Addr} {b off c : Nat} (h : OwnB w base v l) (hx : BytesAt w a b off m) (hc : a = none → c = 0)
    (hn : l.length + m.length ≤ 140737488355328) (hbase : base ≤ w.heap.size) (n : Nat) (hm : n = m.length) :
    ∃ v' w', (Builtin.append_ #[28, 28] 28 #[v, .slice a n c]).run Tryz.prog w = .ok v' w' ∧ OwnB w' base v' (l ++ m) ∧ w.grownBy w' v.ownBlock := by
  subst hm
  obtain ⟨i, hi, hz0, hz1, hz2⟩ := info_parts Tryz.info5
  cases a with
  | none =>
    have hm : m = [] := by
      rcases List.eq_nil_or_concat m with h | ⟨_, _, h⟩
      · exact h
      · have := hx.1 (by rw [h]; simp)
        simp at this
    subst hm
    rw [hc rfl]
    refine ⟨v, w, run_append_owned_none w base 28 28 5 i 1 Tryz.underlying28 hi v _ _ h, by simpa using h, World.grownBy.refl _ _⟩
  | some x =>
    have hnews : ∀ j u, (m.map bv)[j]? = some u → w.cell? (x.add j) = some u := by
      intro j u hj
      have hjl : j < m.length := by
        rcases Nat.lt_or_ge j m.length with h | h
        · exact h
        · rw [List.getElem?_eq_none (by simpa using h)] at hj; simp at hj
      have hxe := hx.1 (by intro e; subst e; simp at hjl)
      simp at hxe
      subst hxe
      have e : (⟨b, off, none⟩ : Addr).add j = ⟨b, off + j, none⟩ := by unfold Addr.add; split <;> simp_all
      rw [e, hx.2 j hjl]
      simp [List.getElem?_map, List.getElem?_eq_getElem hjl, bv] at hj
      subst hj
      simp [List.getElem?_eq_getElem hjl]
    obtain ⟨v', w', r, h1, h2, _⟩ := run_append_own (P := Tryz.prog) w base 28 28 5 i (.int .u8 0) 1 1 Tryz.underlying28 hi hz0 hz1 hz2 rfl (by decide) v l.length (l.map bv) h x m.length c (m.map bv) (by simp) hnews
      (by intro u hu; simp at hu; obtain ⟨y, _, rfl⟩ := hu; rfl) (by unfold maxLen; omega) (by omega) hbase
    refine ⟨v', w', r, ?_, h2⟩
    unfold OwnB
    simpa using h1

theorem below_own {w w1 : World} {base B : Nat} {v : Value} {l : List UInt8} (h : OwnB w base v l) (hg : w.grownBy w1 v.ownBlock) {w0 : World} (hb : Below B w0 w) (hB : B ≤ base) (hs : B ≤ w.heap.size) : Below B w0 w1 :=
  hb.grown hg hs fun k hk => Nat.le_trans hB (World.ownsRow.lt h k hk).1
theorem row_nil {w : World} {a : Option Addr} {len cap : Nat} {zs : List Int}
    (h : (a = none ∧ len = 0 ∧ cap = 0 ∧ zs = []) ∨ ∃ x, a = some x ∧ len ≤ cap ∧ cap ≤ maxLen ∧ zs.length = cap ∧ (∀ i, i < zs.length → w.cell? (x.add i) = some (.int .u8 (zs.getD i 0))) ∧ ∀ n ∈ zs, (Lit.int .u8 n).wf = true) :
    a = none → cap = 0 := by
  rcases h with ⟨rfl, rfl, rfl, rfl⟩ | ⟨x, rfl, h1, h2, h3, h4, h5⟩
  · exact fun _ => rfl
  · intro h; simp at h

section
variable {P : Program} {ops : Array Oper} {rest : List Oper} {o : Oper} {a : Act} {Q : Exit → Act → World → Prop} {w : World}
/-- An operation of a region, guarded or not, whose run is known. -/
theorem wpList_val {v : Value} {w' : World} (hw : Region.wanted o (yielded ops a.tmps) = true) (hrun : (execOp a.eval o).run P w = .ok (.value v) w')
    (h : wpList P ops Q rest (a.put o.dst v) w') : wpList P ops Q (o :: rest) a w :=
  wpList_step fun K hK => by rw [if_pos hw]; unfold Oper.wp; rw [hrun]; exact hK _ _ h
theorem exec_append {v v' : Value} {w' : World} {vx : Value} (s x : Operand) (t : TypeId) (ho : o.op = .call { callee := .builtin .append, args := #[s, x], argTypes := #[t, t] }) (hs : a.eval s = v) (hx : a.eval x = vx)
    (hrun : (Builtin.append_ #[t, t] o.type #[v, vx]).run P w = .ok v' w') : (execOp a.eval o).run P w = .ok (.value v') w' := by
  unfold execOp
  simp only [ho, resolve, invoke, builtin, Sem.run_bind, Sem.run_pure, Result.andThen_ok, List.map_toArray, List.map_cons, List.map_nil, hs, hx, hrun]
end
/-- The walk at 'append(v, x...)', v the call's own bytes, x any bytes. -/
theorem wpList_appendB {ops : Array Oper} {rest : List Oper} {o : Oper} {a : Act} {Q : Exit → Act → World → Prop} {w : World}
    (s x : Operand) (ho : o.op = .call { callee := .builtin .append, args := #[s, x], argTypes := #[28, 28] }) (hty : o.type = 28)
    (hw : Region.wanted o (yielded ops a.tmps) = true)
    (base : Nat) (v : Value) (l m : List UInt8) (ax : Option Addr) (b off n c : Nat) (hs : a.eval s = v) (hx : a.eval x = .slice ax n c)
    (h : OwnB w base v l) (hm : n = m.length) (hbx : BytesAt w ax b off m) (hc : ax = none → c = 0) (hn : l.length + m.length ≤ 140737488355328) (hbase : base ≤ w.heap.size)
    (k : ∀ a' c' w' L, Hid (L = l ++ m) → OwnB w' base (.slice a' L.length c') L → Hid (w.grownBy w' v.ownBlock) → wpList Tryz.prog ops Q rest (a.put o.dst (.slice a' L.length c')) w') :
    wpList Tryz.prog ops Q (o :: rest) a w := by
  obtain ⟨v', w', r, h1, h2⟩ := appendBytes h hbx hc hn hbase n hm
  obtain ⟨a', b', c', rfl, -, -, -, -⟩ := h1.parts
  exact wpList_val hw (exec_append s x _ ho hs hx (by rw [hty]; exact r)) (k a' c' w' _ rfl h1 h2)

/-- The same at a step of a region that draws its order. -/
theorem step_appendB {ops : Array Oper} {o : Oper} {a : Act} {K : Act → World → Prop} {Q : Exit → Act → World → Prop} {E : Prop} {w : World} (hgd : o.guard = none)
    (s x : Operand) (ho : o.op = .call { callee := .builtin .append, args := #[s, x], argTypes := #[28, 28] }) (hty : o.type = 28)
    (base : Nat) (v : Value) (l m : List UInt8) (ax : Option Addr) (b off n c : Nat) (hs : a.eval s = v) (hx : a.eval x = .slice ax n c)
    (h : OwnB w base v l) (hm : n = m.length) (hbx : BytesAt w ax b off m) (hc : ax = none → c = 0) (hn : l.length + m.length ≤ 140737488355328) (hbase : base ≤ w.heap.size)
    (k : ∀ a' c' w' L, Hid (L = l ++ m) → OwnB w' base (.slice a' L.length c') L → Hid (w.grownBy w' v.ownBlock) → K (a.put o.dst (.slice a' L.length c')) w') :
    if Region.wanted o (yielded ops a.tmps) = true then Oper.wp Tryz.prog o a w K Q else E := by
  have hw : Region.wanted o (yielded ops a.tmps) = true := by simp [Region.wanted, hgd]
  rw [if_pos hw]
  obtain ⟨v', w', r, h1, h2⟩ := appendBytes h hbx hc hn hbase n hm
  obtain ⟨a', b', c', rfl, -, -, -, -⟩ := h1.parts
  unfold Oper.wp
  rw [exec_append s x _ ho hs hx (by rw [hty]; exact r)]
  exact k a' c' w' _ rfl h1 h2

/-- What lies below the call's own blocks is none of its rows. -/
theorem OwnB.far {w : World} {base : Nat} {v : Value} {l : List UInt8} (h : OwnB w base v l) {b : Nat} (hb : b < base) : v.ownBlock ≠ some b := fun e => by
  have := (World.ownsRow.lt h b e).1
  omega

/-- 's[:n]': the head of a slice of bytes. -/
theorem BytesAt.head {w : World} {a : Option Addr} {b off : Nat} {l : List UInt8} (h : BytesAt w a b off l) (n : Nat) : BytesAt w a b off (l.take n) := by
  refine ⟨fun hne => h.1 (by intro e; subst e; simp at hne), fun j hj => ?_⟩
  have hj' : j < n ∧ j < l.length := by simp at hj; omega
  rw [h.2 j hj'.2, List.getElem?_take_of_lt hj'.1]
theorem slice_head (a : Option Addr) (m c n : Nat) (hn : n ≤ c) (W : World) :
    (Instr.slice 28 (.slice a m c) none (some (.int .i64 (n : Int))) none).run Tryz.prog W = .ok (.slice a n c) W := by
  rw [run_slice_h W 28 a m c (by simp [go_sem]) .i64 (n : Int) (by omega) (by omega)]
  simp [go_sem, sliced]
  try (intro _; cases a <;> simp [Addr.add])

theorem BytesAt.drewN {w : World} {a : Option Addr} {b off : Nat} {l : List UInt8} (h : BytesAt w a b off l) (n : Nat) : BytesAt (w.drewN n) a b off l := h.below (below_drewN (Below.refl _ _) n)

end Go.Proofs.YticfioblapjkmaaGreat

namespace Go.Proofs.YticfioblapjkmaaGreat
open Go.RowKit
set_option linter.unusedVariables false
set_option linter.unusedSimpArgs false

/-- Where 's[k:]' begins. -/
def tl (a : Option Addr) (k c : Nat) : Option Addr := if c = k then a else a.map (·.add k)
theorem slice_tail (a : Option Addr) (m c k : Nat) (hk : k ≤ m) (hm : m ≤ c) (W : World) :
    (Instr.slice 28 (.slice a m c) (some (.int .i64 (k : Int))) none none).run Tryz.prog W = .ok (.slice (tl a k c) (m - k) (c - k)) W := by
  have hm' : k ≤ c := by omega
  simp [go_sem, hk, hm, hm', tl]
theorem slice_mid (a : Option Addr) (m c k j : Nat) (hk : k ≤ j) (hm : j ≤ c) (W : World) :
    (Instr.slice 28 (.slice a m c) (some (.int .i64 (k : Int))) (some (.int .i64 (j : Int))) none).run Tryz.prog W = .ok (.slice (tl a k c) (j - k) (c - k)) W := by
  have hm' : k ≤ c := by omega
  simp [go_sem, hk, hm, hm', tl]
theorem BytesAt.tail {w : World} {a : Option Addr} {b off c : Nat} {l : List UInt8} (h : BytesAt w a b off l) (hc : l.length ≤ c) (k : Nat) : BytesAt w (tl a k c) b (off + k) (l.drop k) := by
  refine ⟨fun hne => ?_, fun j hj => ?_⟩
  · have hk : k < l.length := by
      rcases Nat.lt_or_ge k l.length with h | h
      · exact h
      · exact absurd (List.drop_of_length_le h) hne
    have hl : l ≠ [] := by intro e; subst e; simp at hk
    rw [h.1 hl]
    unfold tl
    rw [if_neg (by omega)]
    simp only [Option.map_some, Addr.add]
    split
    · simp_all
    · rfl
  · simp at hj
    rw [Nat.add_assoc, h.2 (k + j) (by omega)]
    simp
theorem tl_nil {a : Option Addr} {k c : Nat} (h : a = none → c = 0) : tl a k c = none → c - k = 0 := by
  unfold tl
  split
  · intro _; omega
  · intro e
    cases a with
    | none => have := h rfl; omega
    | some x => simp at e
theorem BytesAt.mid {w : World} {a : Option Addr} {b off c : Nat} {l : List UInt8} (h : BytesAt w a b off l) (hc : l.length ≤ c) (k j : Nat) : BytesAt w (tl a k c) b (off + k) ((l.drop k).take (j - k)) :=
  (h.tail hc k).head _

set_option maxRecDepth 100000 in
set_option maxHeartbeats 400000 in
theorem bytesEqual_any (a1 a2 : Option Addr) (b1 o1 c1 b2 o2 c2 : Nat) (l1 l2 : List UInt8) (n1 n2 : Nat) (w : World) (h1 : BytesAt w a1 b1 o1 l1) (h2 : BytesAt w a2 b2 o2 l2) (e1 : n1 = l1.length) (e2 : n2 = l2.length) :
    Calls Tryz.prog 79 #[.slice a1 n1 c1, .slice a2 n2 c2] w fun r w' => r = .returned (.bool (l1 == l2)) ∧ w = w' := by
  have s1 := h1.toStr n1 c1 e1
  have s2 := h2.toStr n2 c2 e2
  have t1 := str_toList l1
  have t2 := str_toList l2
  clear h1 h2 e1 e2
  go_enter Tryz.func79, Tryz.ntmps79
  go_wp2
  go_ret
  exact ⟨rfl, rfl⟩

set_option maxRecDepth 100000 in
set_option maxHeartbeats 400000 in
theorem hasPrefix_any (a1 a2 : Option Addr) (b1 o1 c1 b2 o2 c2 : Nat) (l1 l2 : List UInt8) (n1 n2 : Nat) (w : World) (h1 : BytesAt w a1 b1 o1 l1) (h2 : BytesAt w a2 b2 o2 l2) (e1 : n1 = l1.length) (e2 : n2 = l2.length) (hc : n1 ≤ c1) :
    Calls Tryz.prog 65 #[.slice a1 n1 c1, .slice a2 n2 c2] w fun r w' => r = .returned (.bool (l2.isPrefixOf l1)) ∧ w = w' := by
  by_cases hn : n2 ≤ n1
  · have hsl := slice_head a1 n1 c1 n2 (by omega)
    have heq := bytesEqual_any a1 a2 b1 o1 c1 b2 o2 c2 (l1.take n2) l2 n2 n2 w (h1.head n2) h2 (by simp; omega) e2
    have hv : (l1.take n2 == l2) = l2.isPrefixOf l1 := by
      rw [e2, Bool.eq_iff_iff, beq_iff_eq, List.isPrefixOf_iff_prefix, List.prefix_iff_eq_take]
      exact eq_comm
    rw [hv] at heq
    replace heq := Lib.hid heq
    clear h1 h2 e1 e2 hv
    go_enter Tryz.func65, Tryz.ntmps65
    go_wp2_with (go_at_call 79; refine heq.out.mono ?_; rintro r w' ⟨rfl, rfl⟩)
    go_ret
    exact ⟨rfl, rfl⟩
  · have hv : l2.isPrefixOf l1 = false := by
      rw [Bool.eq_false_iff]
      intro h
      have := (List.isPrefixOf_iff_prefix.1 h).length_le
      omega
    rw [hv]
    have hd : decide (n2 ≤ n1) = false := by simp; omega
    clear h1 h2 e1 e2 hv
    go_enter Tryz.func65, Tryz.ntmps65
    go_wp2
    go_ret
    exact ⟨rfl, rfl⟩

end Go.Proofs.YticfioblapjkmaaGreat
