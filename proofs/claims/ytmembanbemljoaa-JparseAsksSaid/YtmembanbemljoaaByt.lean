/- The library's bytes.Equal and bytes.HasPrefix, and the tail of a slice. -/
import Derived.Test.YtmembanbemljoaaOwn
namespace Go.Proofs.Ytmembanbemljoaa
open Go.RowKit
set_option linter.unusedVariables false
set_option linter.unusedSimpArgs false

/-- Where 's[k:]' begins. -/
def tl (a : Option Addr) (k c : Nat) : Option Addr := if c = k then a else a.map (·.add k)
theorem slice_tail (a : Option Addr) (m c k : Nat) (hk : k ≤ m) (hm : m ≤ c) (W : World) :
    (Instr.slice 22 (.slice a m c) (some (.int .i64 (k : Int))) none none).run Try.prog W = .ok (.slice (tl a k c) (m - k) (c - k)) W := by
  have hm' : k ≤ c := by omega
  simp [go_sem, hk, hm, hm', tl]
theorem slice_mid (a : Option Addr) (m c k j : Nat) (hk : k ≤ j) (hm : j ≤ c) (W : World) :
    (Instr.slice 22 (.slice a m c) (some (.int .i64 (k : Int))) (some (.int .i64 (j : Int))) none).run Try.prog W = .ok (.slice (tl a k c) (j - k) (c - k)) W := by
  have hm' : k ≤ c := by omega
  simp [go_sem, hk, hm, hm', tl]
theorem BytesAt.tail {w : World} {a : Option Addr} {b off c : Nat} {l : List UInt8} (h : BytesAt w a b off l) (hc : l.length ≤ c) (k : Nat) : BytesAt w (tl a k c) b (off + k) (l.drop k) := by
  refine ⟨fun hne => ?_, fun j hj => ?_⟩
  · have hk : k < l.length := by
      rcases Nat.lt_or_ge k l.length with h | h
      · exact h
      · exact absurd (List.drop_of_length_le h) hne
    have hl : l ≠ [] := by intro e; subst e; simp at hk
    rw [h.1 hl]
    unfold tl
    rw [if_neg (by omega)]
    simp only [Option.map_some, Addr.add]
    split
    · simp_all
    · rfl
  · simp at hj
    rw [Nat.add_assoc, h.2 (k + j) (by omega)]
    simp
theorem tl_nil {a : Option Addr} {k c : Nat} (h : a = none → c = 0) : tl a k c = none → c - k = 0 := by
  unfold tl
  split
  · intro _; omega
  · intro e
    cases a with
    | none => have := h rfl; omega
    | some x => simp at e
theorem BytesAt.mid {w : World} {a : Option Addr} {b off c : Nat} {l : List UInt8} (h : BytesAt w a b off l) (hc : l.length ≤ c) (k j : Nat) : BytesAt w (tl a k c) b (off + k) ((l.drop k).take (j - k)) :=
  (h.tail hc k).head _

set_option maxRecDepth 100000 in
set_option maxHeartbeats 400000 in
theorem bytesEqual_any (a1 a2 : Option Addr) (b1 o1 c1 b2 o2 c2 : Nat) (l1 l2 : List UInt8) (n1 n2 : Nat) (w : World) (h1 : BytesAt w a1 b1 o1 l1) (h2 : BytesAt w a2 b2 o2 l2) (e1 : n1 = l1.length) (e2 : n2 = l2.length) :
    Calls Try.prog 83 #[.slice a1 n1 c1, .slice a2 n2 c2] w fun r w' => r = .returned (.bool (l1 == l2)) ∧ w = w' := by
  have s1 := h1.toStr n1 c1 e1
  have s2 := h2.toStr n2 c2 e2
  have t1 := str_toList l1
  have t2 := str_toList l2
  clear h1 h2 e1 e2
  go_enter Try.func83, Try.ntmps83
  go_wp2
  go_ret
  exact ⟨rfl, rfl⟩

set_option maxRecDepth 100000 in
set_option maxHeartbeats 400000 in
theorem hasPrefix_any (a1 a2 : Option Addr) (b1 o1 c1 b2 o2 c2 : Nat) (l1 l2 : List UInt8) (n1 n2 : Nat) (w : World) (h1 : BytesAt w a1 b1 o1 l1) (h2 : BytesAt w a2 b2 o2 l2) (e1 : n1 = l1.length) (e2 : n2 = l2.length) (hc : n1 ≤ c1) :
    Calls Try.prog 65 #[.slice a1 n1 c1, .slice a2 n2 c2] w fun r w' => r = .returned (.bool (l2.isPrefixOf l1)) ∧ w = w' := by
  by_cases hn : n2 ≤ n1
  · have hsl := slice_head a1 n1 c1 n2 (by omega)
    have heq := bytesEqual_any a1 a2 b1 o1 c1 b2 o2 c2 (l1.take n2) l2 n2 n2 w (h1.head n2) h2 (by simp; omega) e2
    have hv : (l1.take n2 == l2) = l2.isPrefixOf l1 := by
      rw [e2, Bool.eq_iff_iff, beq_iff_eq, List.isPrefixOf_iff_prefix, List.prefix_iff_eq_take]
      exact eq_comm
    rw [hv] at heq
    replace heq := Lib.hid heq
    clear h1 h2 e1 e2 hv
    go_enter Try.func65, Try.ntmps65
    go_wp2_with (go_at_call 83; refine heq.out.mono ?_; rintro r w' ⟨rfl, rfl⟩)
    go_ret
    exact ⟨rfl, rfl⟩
  · have hv : l2.isPrefixOf l1 = false := by
      rw [Bool.eq_false_iff]
      intro h
      have := (List.isPrefixOf_iff_prefix.1 h).length_le
      omega
    rw [hv]
    have hd : decide (n2 ≤ n1) = false := by simp; omega
    clear h1 h2 e1 e2 hv
    go_enter Try.func65, Try.ntmps65
    go_wp2
    go_ret
    exact ⟨rfl, rfl⟩

end Go.Proofs.Ytmembanbemljoaa
