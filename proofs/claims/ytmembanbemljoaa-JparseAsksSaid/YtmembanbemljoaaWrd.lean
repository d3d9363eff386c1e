/- What a word is, in plain terms: its bounds; the words of a text; a slice of words in memory. -/
import Derived.Test.YtmembanbemljoaaTake
namespace Go.Proofs.Ytmembanbemljoaa
open Go.RowKit
set_option linter.unusedVariables false
set_option linter.unusedSimpArgs false

theorem mText_bound {l : List UInt8} : ∀ (n p : Nat) (T S : List UInt8) (q : Nat), l.length - p ≤ n → mText l p T = some (S, q) → p < q ∧ q ≤ l.length := by
  intro n
  induction n with
  | zero =>
    intro p T S q hn h
    rw [mText, dif_neg (by omega)] at h
    simp at h
  | succ n ih =>
    intro p T S q hn h
    by_cases hp : p < l.length
    · rw [mText, dif_pos hp] at h
      split at h
      · simp at h
      · split at h
        · simp at h; omega
        · split at h
          · cases hm : mEsc l (p + 1) with
            | none => rw [hm] at h; simp at h
            | some x =>
              obtain ⟨bs, r⟩ := x
              rw [hm] at h
              have hb := (mEsc_bound hm).1
              simp only [] at h
              rw [dif_pos (by omega)] at h
              have := ih r _ _ _ (by omega) h
              omega
          · split at h
            · split at h
              · have := ih _ _ _ _ (by omega) h
                omega
              · simp at h
            · simp at h
    · rw [mText, dif_neg hp] at h
      simp at h
theorem byteAt_in {l : List UInt8} {p : Nat} (h : (byteAt l p).toNat ≠ 0) : p < l.length := by
  rcases Nat.lt_or_ge p l.length with h' | h'
  · exact h'
  · exfalso; apply h; unfold byteAt; rw [List.getElem?_eq_none h']; rfl
theorem mnEnd_bound {l : List UInt8} {p : Nat} (h : mnErr l p = 0) (hp : p < l.length) : p < mnEnd l p ∧ mnEnd l p ≤ l.length := by
  have hf : mnFrom l p ≤ l.length ∧ p ≤ mnFrom l p := by unfold mnFrom; split <;> omega
  have := dcount_le l (mnFrom l p) hf.1
  have hd : dcount l (mnFrom l p) ≠ 0 := by
    intro e
    unfold mnErr at h
    rw [if_pos (.inl e)] at h
    omega
  unfold mnEnd
  omega
theorem mNamed_bound {l : List UInt8} {p k m : Nat} {n : Int} (h : mNamed l p = some (k, n, m)) : p < p + m ∧ p + m ≤ l.length ∧ (k = 7 ∨ k = 8) := by
  unfold mNamed at h
  split at h
  · rename_i hh
    have h1 := (pre_len hh).resolve_right (by decide)
    simp only [show sTrue.size = 4 from rfl] at h1
    simp at h
    omega
  · split at h
    · rename_i hh
      have h1 := (pre_len hh).resolve_right (by decide)
      simp only [show sFalse.size = 5 from rfl] at h1
      simp at h
      omega
    · split at h
      · rename_i hh
        have h1 := (pre_len hh).resolve_right (by decide)
        simp only [show sNull.size = 4 from rfl] at h1
        simp at h
        omega
      · simp at h
theorem signOf_le (c : UInt8) : signOf c ≤ 6 := by
  unfold signOf
  repeat' split
  all_goals omega
theorem mWord_bound {l : List UInt8} {p : Nat} (h : (mWord l p).e = 0) (hp : p < l.length) : p < (mWord l p).nx ∧ (mWord l p).nx ≤ l.length ∧ 1 ≤ (mWord l p).k ∧ (mWord l p).k ≤ 10 := by
  unfold mWord at h ⊢
  split
  · rename_i h1
    have := signOf_le (byteAt l p)
    simp only []
    omega
  · rename_i h1
    rw [if_neg h1] at h
    split
    · rename_i h2
      rw [if_pos h2] at h
      cases hm : mText l (p + 1) [] with
      | none => rw [hm] at h; simp at h
      | some x =>
        obtain ⟨S, q⟩ := x
        have := mText_bound _ _ _ _ _ (Nat.le_refl _) hm
        simp only []
        omega
    · rename_i h2
      rw [if_neg h2] at h
      split
      · rename_i h3
        rw [if_pos h3] at h
        by_cases he : mnErr l p = 0
        · rw [if_pos he]
          have := mnEnd_bound he hp
          simp only []
          omega
        · rw [if_neg he] at h
          exact absurd h he
      · rename_i h3
        rw [if_neg h3] at h
        unfold mLet at h ⊢
        cases hn : mNamed l p with
        | none => rw [hn] at h; simp at h
        | some x =>
          obtain ⟨k, n, m⟩ := x
          rw [hn] at h
          simp only [] at h ⊢
          split
          · rename_i h4; rw [if_pos h4] at h; simp at h
          · have := mNamed_bound hn
            simp only []
            omega
theorem wEnd_le {l : List UInt8} {i : Nat} (hi : i ≤ l.length) : i ≤ wEnd l i ∧ wEnd l i ≤ l.length := by
  have := tw_le isWh l i hi
  unfold wEnd
  omega
/-- Of a word that Take tells: it ends behind the place, within the text. -/
theorem mTake_bound {l : List UInt8} {i : Nat} (hi : i ≤ l.length) (he : (mTakeN l i).e = 0) (hk : (mTakeN l i).k ≠ 11) :
    i < (mTakeN l i).nx ∧ (mTakeN l i).nx ≤ l.length ∧ i ≤ (mTakeN l i).at_ ∧ (mTakeN l i).at_ < (mTakeN l i).nx := by
  have hw := wEnd_le hi
  unfold mTakeN at he hk ⊢
  split
  · rename_i h1; rw [if_pos h1] at hk; simp at hk
  · rename_i h1
    rw [if_neg h1] at he hk
    split
    · rename_i h2
      have := mWord_bound h2 (by omega)
      simp only []
      omega
    · rename_i h2
      rw [if_neg h2] at he
      exact absurd he h2

/-- The words from a place on, behind those told so far. -/
def mAll (l : List UInt8) (i : Nat) (acc : List MT) : Nat × List MT :=
  if (mTakeN l i).e ≠ 0 then ((mTakeN l i).e, [])
  else if (mTakeN l i).k = 11 then (0, acc)
  else if h : i < (mTakeN l i).nx ∧ (mTakeN l i).nx ≤ l.length then mAll l (mTakeN l i).nx (acc ++ [mTakeN l i])
  else (0, [])
termination_by l.length - i
theorem mAll_bad {l : List UInt8} {i : Nat} {acc : List MT} (h : (mTakeN l i).e ≠ 0) : mAll l i acc = ((mTakeN l i).e, []) := by rw [mAll, if_pos h]
theorem mAll_end {l : List UInt8} {i : Nat} {acc : List MT} (h : (mTakeN l i).e = 0) (hk : (mTakeN l i).k = 11) : mAll l i acc = (0, acc) := by rw [mAll, if_neg (by omega), if_pos hk]
theorem mAll_next {l : List UInt8} {i : Nat} {acc : List MT} (hi : i ≤ l.length) (h : (mTakeN l i).e = 0) (hk : (mTakeN l i).k ≠ 11) : mAll l i acc = mAll l (mTakeN l i).nx (acc ++ [mTakeN l i]) := by
  have := mTake_bound hi h hk
  rw [mAll, if_neg (by omega), if_neg hk, dif_pos ⟨this.1, this.2.1⟩]

def MT.cells (m : MT) : List Value := [.int .i64 (m.k : Int), .int .i64 m.n, .string (str m.s), .int .i64 (m.at_ : Int), .int .i64 (m.nx : Int)]
/-- A slice of words that the call itself made. -/
def OwnW (e : TypeId) (w : World) (base : Nat) (v : Value) (ms : List MT) : Prop := w.ownsRow base e 5 v ms.length (ms.flatMap MT.cells)
theorem OwnW.nil (e : TypeId) (w : World) (base : Nat) : OwnW e w base (.slice none 0 0) [] := World.ownsRow_nil _ _ _ _
theorem OwnW.kept {e : TypeId} {w w' : World} {base : Nat} {v : Value} {ms : List MT} (h : OwnW e w base v ms) (hb : Below w.heap.size w w') : OwnW e w' base v ms := by
  obtain ⟨h1, h2⟩ := h
  refine ⟨h1, ?_⟩
  rcases h2 with h2 | ⟨g, cap, cur, hv, hbg, hg, hr⟩
  · exact .inl h2
  · refine .inr ⟨g, cap, cur, hv, hbg, ?_, hr⟩
    have hlt : g < w.heap.size := by
      rcases Nat.lt_or_ge g w.heap.size with h | h
      · exact h
      · rw [Array.getElem?_eq_none h] at hg; simp at hg
    rw [hb.block g hlt]
    exact hg
theorem OwnW.alloc {e : TypeId} {w : World} {base : Nat} {v : Value} {ms : List MT} (h : OwnW e w base v ms) (o : Obj) : OwnW e (w.alloc o) base v ms := World.ownsRow.alloc h o
theorem OwnW.lt {e : TypeId} {w : World} {base : Nat} {v : Value} {ms : List MT} (h : OwnW e w base v ms) : ∀ k, v.ownBlock = some k → base ≤ k ∧ k < w.heap.size := World.ownsRow.lt h
theorem OwnW.far {e : TypeId} {w : World} {base : Nat} {v : Value} {ms : List MT} (h : OwnW e w base v ms) {k : Nat} (hk : w.heap.size ≤ k) : v.ownBlock ≠ some k := fun e => by
  have := (h.lt k e).2
  omega
theorem OwnW.slice {e : TypeId} {w : World} {base : Nat} {v : Value} {ms : List MT} (h : OwnW e w base v ms) :
    ∃ a c, v = .slice a ms.length c ∧ ms.length ≤ c := by
  obtain ⟨h1, h2⟩ := h
  rcases h2 with ⟨rfl, h0⟩ | ⟨g, cap, cur, rfl, hbg, hg, hnc, hr⟩
  · exact ⟨none, 0, by rw [h0], by omega⟩
  · exact ⟨_, cap, rfl, hnc⟩

theorem OwnW.read {e : TypeId} {w : World} {base : Nat} {v : Value} {ms : List MT} (h : OwnW e w base v ms) (hne : ms ≠ []) :
    ∃ g c, v = .slice (some ⟨g, 0, none⟩) ms.length c ∧ ms.length ≤ c ∧ base ≤ g ∧ g < w.heap.size ∧ ∀ j, j < ms.length * 5 → w.cell? ⟨g, j, none⟩ = (ms.flatMap MT.cells)[j]? := by
  have h' := h
  obtain ⟨h1, h2⟩ := h
  rcases h2 with ⟨rfl, h0⟩ | ⟨g, cap, cur, rfl, hbg, hg, hnc, hr⟩
  · exact absurd (List.eq_nil_of_length_eq_zero h0) hne
  · exact ⟨g, cap, rfl, hnc, hbg, (h'.lt g rfl).2, fun j hj => World.ownsRow.cellAt h' j hj⟩
/-- append(v, x), v the call's own words, x one word in a new row. -/
theorem appendWord {t e : TypeId} (ht : Try.prog.underlying t = some (.slice e)) (hinf : (Try.prog.info? e).map (fun i => (i.zero, i.size, i.bytes)) = some (some (.agg #[.int .i64 0, .int .i64 0, .string ⟨#[]⟩, .int .i64 0, .int .i64 0]), 5, 48))
    {w : World} {base : Nat} {v : Value} {ms : List MT} {m : MT} (h : OwnW e w base v ms) (B : Nat) (hx : ∀ j, w.cell? ⟨B, j, none⟩ = m.cells[j]?)
    (hn : ms.length < 1099511627776) (hbase : base ≤ w.heap.size) :
    ∃ a' c' w', (Builtin.append_ #[t, t] t #[v, .slice (some ⟨B, 0, none⟩) 1 1]).run Try.prog w = .ok (.slice a' (ms ++ [m]).length c') w' ∧ OwnW e w' base (.slice a' (ms ++ [m]).length c') (ms ++ [m]) ∧ w.grownBy w' v.ownBlock := by
  obtain ⟨i, hi, hz0, hz1, hz2⟩ := info_parts hinf
  obtain ⟨v', w', r, h1, h2, _⟩ := run_append_own (P := Try.prog) w base t t e i (.agg #[.int .i64 0, .int .i64 0, .string ⟨#[]⟩, .int .i64 0, .int .i64 0]) 5 48 ht hi hz0 hz1 hz2 rfl (by decide) v ms.length (ms.flatMap MT.cells) h ⟨B, 0, none⟩ 1 1 m.cells rfl
    (by intro j u hj; have e : (⟨B, 0, none⟩ : Addr).add j = ⟨B, j, none⟩ := by simp [Addr.add]; omega
        rw [e, hx j]; exact hj)
    (by intro u hu; simp [MT.cells] at hu; rcases hu with rfl | rfl | rfl | rfl | rfl <;> rfl) (by unfold maxLen; omega) (by omega) hbase
  have h3 : OwnW e w' base v' (ms ++ [m]) := by
    unfold OwnW
    simpa using h1
  obtain ⟨a', c', rfl, _⟩ := h3.slice
  exact ⟨a', c', w', r, h3, h2⟩
theorem wpList_appendW {t e : TypeId} (ht : Try.prog.underlying t = some (.slice e)) (hinf : (Try.prog.info? e).map (fun i => (i.zero, i.size, i.bytes)) = some (some (.agg #[.int .i64 0, .int .i64 0, .string ⟨#[]⟩, .int .i64 0, .int .i64 0]), 5, 48))
    {ops : Array Oper} {rest : List Oper} {o : Oper} {a : Act} {Q : Exit → Act → World → Prop} {w : World}
    (s x : Operand) (ho : o.op = .call { callee := .builtin .append, args := #[s, x], argTypes := #[t, t] }) (hty : o.type = t)
    (hw : Region.wanted o (yielded ops a.tmps) = true)
    (base : Nat) (v : Value) (ms : List MT) (m : MT) (B : Nat) (hs : a.eval s = v) (hx : a.eval x = .slice (some ⟨B, 0, none⟩) 1 1)
    (h : OwnW e w base v ms) (hc : ∀ j, w.cell? ⟨B, j, none⟩ = (#[.int .i64 (m.k : Int), .int .i64 m.n, .string (str m.s), .int .i64 (m.at_ : Int), .int .i64 (m.nx : Int)] : Array Value)[j]?) (hn : ms.length < 1099511627776) (hbase : base ≤ w.heap.size)
    (k : ∀ a' c' w', OwnW e w' base (.slice a' (ms ++ [m]).length c') (ms ++ [m]) → Hid (w.grownBy w' v.ownBlock) → wpList Try.prog ops Q rest (a.put o.dst (.slice a' (ms ++ [m]).length c')) w') :
    wpList Try.prog ops Q (o :: rest) a w := by
  obtain ⟨a', c', w', r, h1, h2⟩ := appendWord (m := m) ht hinf h B (fun j => (hc j).trans (by simp [MT.cells])) hn hbase
  exact wpList_val hw (exec_append s x _ ho hs hx (by rw [hty]; exact r)) (k a' c' w' h1 h2)
theorem Try.infoW : (Try.prog.info? 36).map (fun i => (i.zero, i.size, i.bytes)) = some (some (.agg #[.int .i64 0, .int .i64 0, .string ⟨#[]⟩, .int .i64 0, .int .i64 0]), 5, 48) := by kernel_rfl
theorem Try.infoR : (Try.prog.info? 40).map (fun i => (i.zero, i.size, i.bytes)) = some (some (.agg #[.int .i64 0, .int .i64 0, .string ⟨#[]⟩, .int .i64 0, .int .i64 0]), 5, 48) := by kernel_rfl

end Go.Proofs.Ytmembanbemljoaa
