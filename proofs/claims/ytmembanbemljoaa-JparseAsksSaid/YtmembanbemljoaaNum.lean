/- Numbers as words: what they are, in plain terms. -/
import Derived.Test.YtmembanbemljoaaLexb
namespace Go.Proofs.Ytmembanbemljoaa
open Go.RowKit
set_option linter.unusedVariables false
set_option linter.unusedSimpArgs false

/-- How many digits stand from a place on. -/
def dcount (l : List UInt8) (q : Nat) : Nat := ((l.drop q).takeWhile isDig).length
/-- What digits say. -/
def dval (ds : List UInt8) : Nat := ds.foldl (fun n c => n * 10 + (c.toNat - 48)) 0
/-- The least number's size. -/
def top63 : Nat := 9223372036854775808
theorem top63_val : top63 = 9223372036854775808 := rfl
def mnFrom (l : List UInt8) (p : Nat) : Nat := if byteAt l p = 45 then p + 1 else p
def mnEnd (l : List UInt8) (p : Nat) : Nat := mnFrom l p + dcount l (mnFrom l p)
def mnVal (l : List UInt8) (p : Nat) : Nat := dval ((l.drop (mnFrom l p)).take (dcount l (mnFrom l p)))
def mnErr (l : List UInt8) (p : Nat) : Nat :=
  if dcount l (mnFrom l p) = 0 ∨ 1 < dcount l (mnFrom l p) ∧ byteAt l (mnFrom l p) = 48 then 20
  else if byteAt l (mnEnd l p) = 46 ∨ byteAt l (mnEnd l p) = 101 ∨ byteAt l (mnEnd l p) = 69 then 22
  else if isLet (byteAt l (mnEnd l p)) = true then 20
  else if top63 < mnVal l p ∨ byteAt l p ≠ 45 ∧ mnVal l p = top63 then 22 else 0
def mnInt (l : List UInt8) (p : Nat) : Int := if byteAt l p = 45 then -(mnVal l p : Int) else (mnVal l p : Int)

theorem dcount_dig (l : List UInt8) (q k : Nat) (hk : k < dcount l q) : isDig (byteAt l (q + k)) = true ∧ q + k < l.length := by
  unfold dcount at hk
  have h1 : ((l.drop q).takeWhile isDig)[k]? = (l.drop q)[k]? := by
    have : (l.drop q).takeWhile isDig <+: l.drop q := List.takeWhile_prefix isDig
    obtain ⟨t, ht⟩ := this
    conv => rhs; rw [← ht]
    rw [List.getElem?_append_left hk]
  have h2 := List.all_takeWhile (p := isDig) (l := l.drop q)
  rw [List.all_eq_true] at h2
  have h3 := h2 _ (List.getElem_mem hk)
  rw [List.getElem?_eq_getElem hk, List.getElem?_drop] at h1
  have hlen : q + k < l.length := by
    rcases Nat.lt_or_ge (q + k) l.length with h | h
    · exact h
    · rw [List.getElem?_eq_none h] at h1; simp at h1
  refine ⟨?_, hlen⟩
  unfold byteAt
  rw [← h1]
  exact h3
theorem dcount_end (l : List UInt8) (q : Nat) : isDig (byteAt l (q + dcount l q)) = false := by
  unfold dcount byteAt
  rw [← List.getElem?_drop]
  generalize l.drop q = m
  induction m with
  | nil => rfl
  | cons c m ih =>
    by_cases h : isDig c = true
    · rw [List.takeWhile_cons_of_pos h]
      simpa using ih
    · rw [List.takeWhile_cons_of_neg h]
      simpa using h
theorem dcount_le (l : List UInt8) (q : Nat) : q ≤ l.length → q + dcount l q ≤ l.length := by
  intro hq
  have : ((l.drop q).takeWhile isDig).length ≤ (l.drop q).length := (List.takeWhile_prefix isDig).length_le
  simp at this
  unfold dcount
  omega
theorem dval_snoc (ds : List UInt8) (c : UInt8) : dval (ds ++ [c]) = dval ds * 10 + (c.toNat - 48) := by
  unfold dval
  rw [List.foldl_append]
  rfl
theorem dval_next (l : List UInt8) (q k : Nat) (hk : q + k < l.length) : dval ((l.drop q).take (k + 1)) = dval ((l.drop q).take k) * 10 + ((byteAt l (q + k)).toNat - 48) := by
  have h : k < (l.drop q).length := by simp; omega
  rw [List.take_succ_eq_append_getElem h, dval_snoc]
  congr 2
  unfold byteAt
  rw [← List.getElem?_drop, List.getElem?_eq_getElem h]
  rfl
/-- What the program keeps while it reads digits: k of them read, the number below 0, whether it is too great. -/
def NumRel (l : List UInt8) (q k P : Nat) (ov : Bool) : Prop :=
  P ≤ top63 ∧ (ov = true → top63 < dval ((l.drop q).take k)) ∧ (ov = false → P = dval ((l.drop q).take k))
theorem NumRel.start (l : List UInt8) (q : Nat) : NumRel l q 0 0 false := ⟨by unfold top63; omega, by simp, by simp [dval]⟩
theorem NumRel.step {l : List UInt8} {q k P : Nat} {ov : Bool} (h : NumRel l q k P ov) (hk : q + k < l.length) (d : Nat) (hd : d = (byteAt l (q + k)).toNat - 48) (hs : P * 10 + d ≤ top63) : NumRel l q (k + 1) (P * 10 + d) ov := by
  obtain ⟨h1, h2, h3⟩ := h
  have e := dval_next l q k hk
  rw [← hd] at e
  refine ⟨hs, fun ho => ?_, fun ho => ?_⟩
  · have := h2 ho; omega
  · have := h3 ho; omega
theorem NumRel.over {l : List UInt8} {q k P : Nat} {ov : Bool} (h : NumRel l q k P ov) (hk : q + k < l.length) (d : Nat) (hd : d = (byteAt l (q + k)).toNat - 48) (hs : top63 < P * 10 + d) : NumRel l q (k + 1) P true := by
  obtain ⟨h1, h2, h3⟩ := h
  have e := dval_next l q k hk
  rw [← hd] at e
  refine ⟨h1, fun _ => ?_, fun ho => by simp at ho⟩
  cases ov with
  | true => have := h2 rfl; omega
  | false => have := h3 rfl; omega
/-- The program's test. -/
theorem over_test (P d : Nat) (hd : d < 10) : decide (-(P : Int) < (-9223372036854775808 + (d : Int)).tdiv 10) = decide (top63 < P * 10 + d) := by
  have e : (-9223372036854775808 + (d : Int)).tdiv 10 = -(((9223372036854775808 - d) / 10 : Nat) : Int) := by
    have h1 : (-9223372036854775808 + (d : Int)) = -((9223372036854775808 - d : Nat) : Int) := by omega
    rw [h1, Int.neg_tdiv, Int.tdiv_eq_ediv_of_nonneg (by omega)]
    omega
  rw [e, top63_val, decide_eq_decide]
  omega

end Go.Proofs.Ytmembanbemljoaa
