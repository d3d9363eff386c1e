/- The lexer: numbers. -/
import Derived.Test.YticfioblapjkmaaGreatLexb
namespace Go.Proofs.YticfioblapjkmaaGreat
open Go.RowKit
set_option linter.unusedVariables false
set_option linter.unusedSimpArgs false

/-- How many digits stand from a place on. -/
def dcount (l : List UInt8) (q : Nat) : Nat := ((l.drop q).takeWhile isDig).length
/-- What digits say. -/
def dval (ds : List UInt8) : Nat := ds.foldl (fun n c => n * 10 + (c.toNat - 48)) 0
/-- The least number's size. -/
def top63 : Nat := 9223372036854775808
theorem top63_val : top63 = 9223372036854775808 := rfl
def mnFrom (l : List UInt8) (p : Nat) : Nat := if byteAt l p = 45 then p + 1 else p
def mnEnd (l : List UInt8) (p : Nat) : Nat := mnFrom l p + dcount l (mnFrom l p)
def mnVal (l : List UInt8) (p : Nat) : Nat := dval ((l.drop (mnFrom l p)).take (dcount l (mnFrom l p)))
def mnErr (l : List UInt8) (p : Nat) : Nat :=
  if dcount l (mnFrom l p) = 0 ∨ 1 < dcount l (mnFrom l p) ∧ byteAt l (mnFrom l p) = 48 then 20
  else if byteAt l (mnEnd l p) = 46 ∨ byteAt l (mnEnd l p) = 101 ∨ byteAt l (mnEnd l p) = 69 then 22
  else if isLet (byteAt l (mnEnd l p)) = true then 20
  else if top63 < mnVal l p ∨ byteAt l p ≠ 45 ∧ mnVal l p = top63 then 22 else 0
def mnInt (l : List UInt8) (p : Nat) : Int := if byteAt l p = 45 then -(mnVal l p : Int) else (mnVal l p : Int)

theorem dcount_dig (l : List UInt8) (q k : Nat) (hk : k < dcount l q) : isDig (byteAt l (q + k)) = true ∧ q + k < l.length := by
  unfold dcount at hk
  have h1 : ((l.drop q).takeWhile isDig)[k]? = (l.drop q)[k]? := by
    have : (l.drop q).takeWhile isDig <+: l.drop q := List.takeWhile_prefix isDig
    obtain ⟨t, ht⟩ := this
    conv => rhs; rw [← ht]
    rw [List.getElem?_append_left hk]
  have h2 := List.all_takeWhile (p := isDig) (l := l.drop q)
  rw [List.all_eq_true] at h2
  have h3 := h2 _ (List.getElem_mem hk)
  rw [List.getElem?_eq_getElem hk, List.getElem?_drop] at h1
  have hlen : q + k < l.length := by
    rcases Nat.lt_or_ge (q + k) l.length with h | h
    · exact h
    · rw [List.getElem?_eq_none h] at h1; simp at h1
  refine ⟨?_, hlen⟩
  unfold byteAt
  rw [← h1]
  exact h3
theorem dcount_end (l : List UInt8) (q : Nat) : isDig (byteAt l (q + dcount l q)) = false := by
  unfold dcount byteAt
  rw [← List.getElem?_drop]
  generalize l.drop q = m
  induction m with
  | nil => rfl
  | cons c m ih =>
    by_cases h : isDig c = true
    · rw [List.takeWhile_cons_of_pos h]
      simpa using ih
    · rw [List.takeWhile_cons_of_neg h]
      simpa using h
theorem dcount_le (l : List UInt8) (q : Nat) : q ≤ l.length → q + dcount l q ≤ l.length := by
  intro hq
  have : ((l.drop q).takeWhile isDig).length ≤ (l.drop q).length := (List.takeWhile_prefix isDig).length_le
  simp at this
  unfold dcount
  omega
theorem dval_snoc (ds : List UInt8) (c : UInt8) : dval (ds ++ [c]) = dval ds * 10 + (c.toNat - 48) := by
  unfold dval
  rw [List.foldl_append]
  rfl
theorem dval_next (l : List UInt8) (q k : Nat) (hk : q + k < l.length) : dval ((l.drop q).take (k + 1)) = dval ((l.drop q).take k) * 10 + ((byteAt l (q + k)).toNat - 48) := by
  have h : k < (l.drop q).length := by simp; omega
  rw [List.take_succ_eq_append_getElem h, dval_snoc]
  congr 2
  unfold byteAt
  rw [← List.getElem?_drop, List.getElem?_eq_getElem h]
  rfl
/-- What the program keeps while it reads digits: k of them read, the number below 0, whether it is too great. -/
def NumRel (l : List UInt8) (q k P : Nat) (ov : Bool) : Prop :=
  P ≤ top63 ∧ (ov = true → top63 < dval ((l.drop q).take k)) ∧ (ov = false → P = dval ((l.drop q).take k))
theorem NumRel.start (l : List UInt8) (q : Nat) : NumRel l q 0 0 false := ⟨by unfold top63; omega, by simp, by simp [dval]⟩
theorem NumRel.step {l : List UInt8} {q k P : Nat} {ov : Bool} (h : NumRel l q k P ov) (hk : q + k < l.length) (d : Nat) (hd : d = (byteAt l (q + k)).toNat - 48) (hs : P * 10 + d ≤ top63) : NumRel l q (k + 1) (P * 10 + d) ov := by
  obtain ⟨h1, h2, h3⟩ := h
  have e := dval_next l q k hk
  rw [← hd] at e
  refine ⟨hs, fun ho => ?_, fun ho => ?_⟩
  · have := h2 ho; omega
  · have := h3 ho; omega
theorem NumRel.over {l : List UInt8} {q k P : Nat} {ov : Bool} (h : NumRel l q k P ov) (hk : q + k < l.length) (d : Nat) (hd : d = (byteAt l (q + k)).toNat - 48) (hs : top63 < P * 10 + d) : NumRel l q (k + 1) P true := by
  obtain ⟨h1, h2, h3⟩ := h
  have e := dval_next l q k hk
  rw [← hd] at e
  refine ⟨h1, fun _ => ?_, fun ho => by simp at ho⟩
  cases ov with
  | true => have := h2 rfl; omega
  | false => have := h3 rfl; omega
/-- The program's test. -/
theorem over_test (P d : Nat) (hd : d < 10) : decide (-(P : Int) < (-9223372036854775808 + (d : Int)).tdiv 10) = decide (top63 < P * 10 + d) := by
  have e : (-9223372036854775808 + (d : Int)).tdiv 10 = -(((9223372036854775808 - d) / 10 : Nat) : Int) := by
    have h1 : (-9223372036854775808 + (d : Int)) = -((9223372036854775808 - d : Nat) : Int) := by omega
    rw [h1, Int.neg_tdiv, Int.tdiv_eq_ediv_of_nonneg (by omega)]
    omega
  rw [e, top63_val, decide_eq_decide]
  omega

end Go.Proofs.YticfioblapjkmaaGreat

namespace Go.Proofs.YticfioblapjkmaaGreat
open Go.RowKit
set_option linter.unusedVariables false
set_option linter.unusedSimpArgs false
variable {w : World} {X B : Nat} {a : Option Addr} {b off c : Nat} {l : List UInt8} {p : Nat} {e : Int} {tv : Value} {T : List UInt8}

/-- The lexer's place, out of memory: the loop's measure. -/
def posOf (w : World) (X : Nat) : Nat := match w.cell? ⟨X, 1, none⟩ with | some v => (intOf v).toNat | none => 0
theorem Lex.posOf (h : Lex w X B a b off c l p e tv T) : posOf w X = p := by
  unfold Go.Proofs.YticfioblapjkmaaGreat.posOf
  rw [h.c1]
  simp [intOf]

/-- Which way the switch behind the digits goes, in the walk's own tests. -/
inductive NumEnd (l : List UInt8) (p q K P : Nat) (ov mi : Bool) (z y : Int) (lt : Bool) : Prop
  | none (h : K = 0) (he : mnErr l p = 20)
  | zero (h : 1 < K) (hz : (z == 48) = true) (he : mnErr l p = 20)
  | point (h : 0 < K) (hz : K = 1 ∨ 1 < K ∧ (z == 48) = false) (hy : (y == 46) = true ∨ (y == 46) = false ∧ (y == 101) = true ∨ (y == 46) = false ∧ (y == 101) = false ∧ (y == 69) = true) (he : mnErr l p = 22)
  | letter (h : 0 < K) (hz : K = 1 ∨ 1 < K ∧ (z == 48) = false) (h1 : (y == 46) = false) (h2 : (y == 101) = false) (h3 : (y == 69) = false) (hl : lt = true) (he : mnErr l p = 20)
  | great (h : 0 < K) (hz : K = 1 ∨ 1 < K ∧ (z == 48) = false) (h1 : (y == 46) = false) (h2 : (y == 101) = false) (h3 : (y == 69) = false) (hl : lt = false) (ho : ov = true ∨ ov = false ∧ mi = false ∧ (-(P : Int) == -9223372036854775808) = true) (he : mnErr l p = 22)
  | fine (h : 0 < K) (hz : K = 1 ∨ 1 < K ∧ (z == 48) = false) (h1 : (y == 46) = false) (h2 : (y == 101) = false) (h3 : (y == 69) = false) (hl : lt = false) (ho : ov = false) (hm : mi = true ∨ mi = false ∧ (-(P : Int) == -9223372036854775808) = false ∧ P < top63) (he : mnErr l p = 0) (hv : mnInt l p = if mi then -(P : Int) else (P : Int)) (hend : mnEnd l p = q + K)
theorem byte_test (c d : UInt8) (n : Int) (hd : (d.toNat : Int) = n) : ((c.toNat : Int) == n) = decide (c = d) := by
  rw [Bool.eq_iff_iff]
  simp
  constructor
  · intro h; apply UInt8.toNat_inj.1; omega
  · intro h; rw [h]; exact hd
theorem numEnd {l : List UInt8} {p q P : Nat} {ov mi : Bool} (hq : q = mnFrom l p) (hmi : mi = decide (byteAt l p = 45)) (h : NumRel l q (dcount l q) P ov) :
    NumEnd l p q (dcount l q) P ov mi ((byteAt l q).toNat : Int) ((byteAt l (q + dcount l q)).toNat : Int) (isLet (byteAt l (q + dcount l q))) := by
  obtain ⟨h1, h2, h3⟩ := h
  have hE : mnEnd l p = q + dcount l q := by unfold mnEnd; rw [← hq]
  have hV : mnVal l p = dval ((l.drop q).take (dcount l q)) := by unfold mnVal; rw [← hq]
  have hErr : mnErr l p = if dcount l q = 0 ∨ 1 < dcount l q ∧ byteAt l q = 48 then 20
      else if byteAt l (q + dcount l q) = 46 ∨ byteAt l (q + dcount l q) = 101 ∨ byteAt l (q + dcount l q) = 69 then 22
      else if isLet (byteAt l (q + dcount l q)) = true then 20
      else if top63 < mnVal l p ∨ byteAt l p ≠ 45 ∧ mnVal l p = top63 then 22 else 0 := by
    unfold mnErr
    rw [hE, ← hq]
  have tz := byte_test (byteAt l q) 48 48 rfl
  have t1 := byte_test (byteAt l (q + dcount l q)) 46 46 rfl
  have t2 := byte_test (byteAt l (q + dcount l q)) 101 101 rfl
  have t3 := byte_test (byteAt l (q + dcount l q)) 69 69 rfl
  have tm : (-(P : Int) == -9223372036854775808) = decide (P = top63) := by
    rw [Bool.eq_iff_iff, top63_val]; simp; omega
  by_cases hK0 : dcount l q = 0
  · exact .none hK0 (by rw [hErr, if_pos (.inl hK0)])
  by_cases hz0 : 1 < dcount l q ∧ byteAt l q = 48
  · exact .zero hz0.1 (by rw [tz]; simpa using hz0.2) (by rw [hErr, if_pos (.inr hz0)])
  have hz : dcount l q = 1 ∨ 1 < dcount l q ∧ (((byteAt l q).toNat : Int) == 48) = false := by
    by_cases h1 : dcount l q = 1
    · exact .inl h1
    · refine .inr ⟨by omega, ?_⟩
      rw [tz]; simp; intro h; exact hz0 ⟨by omega, h⟩
  rw [if_neg (by intro h; rcases h with h | h; exact hK0 h; exact hz0 h)] at hErr
  by_cases hp : byteAt l (q + dcount l q) = 46 ∨ byteAt l (q + dcount l q) = 101 ∨ byteAt l (q + dcount l q) = 69
  · refine .point (by omega) hz ?_ (by rw [hErr, if_pos hp])
    rw [t1, t2, t3]
    by_cases a1 : byteAt l (q + dcount l q) = 46
    · exact .inl (by simpa using a1)
    · by_cases a2 : byteAt l (q + dcount l q) = 101
      · exact .inr (.inl ⟨by simpa using a1, by simpa using a2⟩)
      · exact .inr (.inr ⟨by simpa using a1, by simpa using a2, by rcases hp with h | h | h <;> simp_all⟩)
  rw [if_neg hp] at hErr
  have u1 : (((byteAt l (q + dcount l q)).toNat : Int) == 46) = false := by rw [t1]; simp; intro h; exact hp (.inl h)
  have u2 : (((byteAt l (q + dcount l q)).toNat : Int) == 101) = false := by rw [t2]; simp; intro h; exact hp (.inr (.inl h))
  have u3 : (((byteAt l (q + dcount l q)).toNat : Int) == 69) = false := by rw [t3]; simp; intro h; exact hp (.inr (.inr h))
  by_cases hl : isLet (byteAt l (q + dcount l q)) = true
  · exact .letter (by omega) hz u1 u2 u3 hl (by rw [hErr, if_pos hl])
  rw [if_neg hl] at hErr
  have hl' : isLet (byteAt l (q + dcount l q)) = false := by simpa using hl
  cases ov with
  | true =>
    have := h2 rfl
    rw [← hV] at this
    exact .great (by omega) hz u1 u2 u3 hl' (.inl rfl) (by rw [hErr, if_pos (.inl this)])
  | false =>
    have hPV := h3 rfl
    rw [← hV] at hPV
    cases mi with
    | true =>
      have h45 : byteAt l p = 45 := by simpa using hmi.symm
      refine .fine (by omega) hz u1 u2 u3 hl' rfl (.inl rfl) ?_ ?_ hE
      · rw [hErr, if_neg]
        rw [← hPV, h45]
        simp
        omega
      · unfold mnInt
        rw [if_pos h45, hPV]
        rfl
    | false =>
      have h45 : ¬ byteAt l p = 45 := by simpa using hmi.symm
      by_cases ht : P = top63
      · exact .great (by omega) hz u1 u2 u3 hl' (.inr ⟨rfl, rfl, by rw [tm]; simpa using ht⟩) (by rw [hErr, if_pos (.inr ⟨h45, by omega⟩)])
      · refine .fine (by omega) hz u1 u2 u3 hl' rfl (.inr ⟨rfl, by rw [tm]; simpa using ht, by omega⟩) ?_ ?_ hE
        · rw [hErr, if_neg]
          rw [← hPV]
          intro h
          rcases h with h | h
          · omega
          · exact ht h.2
        · unfold mnInt
          rw [if_neg h45, hPV]
          rfl

set_option maxRecDepth 100000 in
set_option maxHeartbeats 2000000 in
theorem number_any (h : Lex w X B a b off c l p 0 tv T) :
    Calls Tryz.prog 63 #[.pointer (some ⟨X, 0, none⟩)] w fun r w' => ∃ (v : Int) (p' : Nat), r = .returned (.int .i64 v) ∧ Near X B w w' ∧ Lex w' X B a b off c l p' (mnErr l p : Int) tv T ∧ (mnErr l p = 0 → v = mnInt l p ∧ p' = mnEnd l p) := by
  obtain ⟨mi, hmi⟩ : ∃ mi, mi = decide (byteAt l p = 45) := ⟨_, rfl⟩
  obtain ⟨q, hq⟩ : ∃ q, q = mnFrom l p := ⟨_, rfl⟩
  have hql : q ≤ l.length := by
    rw [hq]; unfold mnFrom
    have := h.pos
    split
    · rename_i h45
      rcases Nat.lt_or_ge p l.length with h' | h'
      · omega
      · unfold byteAt at h45; rw [List.getElem?_eq_none h'] at h45; simp at h45
    · omega
  have hq1 : q = if mi then p + 1 else p := by rw [hq, hmi]; unfold mnFrom; simp
  have hpk := peek_any h
  have htest : (((byteAt l p).toNat : Int) == 45) = mi := by
    rw [hmi, Bool.eq_iff_iff]
    simp
    constructor
    · intro h1; apply UInt8.toNat_inj.1; have : (45 : UInt8).toNat = 45 := rfl; omega
    · intro h1; have := congrArg UInt8.toNat h1; simp at this; omega
  obtain ⟨x, hx⟩ : ∃ x : Int, x = ((byteAt l p).toNat : Int) := ⟨_, rfl⟩
  rw [← hx] at hpk htest
  have c1 := h.c1
  have f1 := h.f 1
  have hbig := h.big
  have hpos := h.pos
  have hsetp := Lib.hid fun n => (h.drewN n).setAt q hql
  have hkeep := Lib.hid fun n => h.drewN n
  replace hpk := Lib.hid hpk
  replace hq := Lib.hid hq
  replace hmi := Lib.hid hmi
  clear hx h
  have hq2 : mi = true → (p : Int) + 1 = (q : Int) := by intro h; rw [hq1, h]; simp
  have hq3 : mi = false → p = q := by intro h; rw [hq1, h]; simp
  clear hq1
  have hst0 : mi = true → ∀ n, Lex (w.drewN n |>.setCell ⟨X, 1, none⟩ (.int .i64 (q : Int))) X B a b off c l q 0 tv T := fun _ => hsetp.out
  have hst1 : mi = false → ∀ n, Lex (w.drewN n) X B a b off c l q 0 tv T := fun h => by rw [← hq3 h]; exact hkeep.out
  clear hsetp hkeep
  have hL0 : ∃ W, (mi = false ∨ mi = true) ∧ True := ⟨w, by cases mi <;> simp, trivial⟩
  clear hL0
  cases mi
  · replace hst1 := hst1 rfl
    replace hq3 := Lib.hid (hq3 rfl)
    clear hst0 hq2 hql
    go_enter Tryz.func63, Tryz.ntmps63
    go_wp2_with (first | (go_at_call 67; refine hpk.out.mono ?_; rintro r w' ⟨rfl, nq, rfl⟩))
    have hL := hst1 nq
    have hB := near_drewN (Near.refl X B w) nq
    have h4 : Value.int .i64 (p : Int) = Value.int .i64 (q : Int) := by rw [hq3.out]
    clear hst1 c1 f1 htest hpk hpos
    rw [h4]
    go_loopw [5, 6] (fun v o wr => ∃ (k P : Nat) (ov : Bool), k ≤ dcount l q ∧ v = .int .i64 (-(P : Int)) ∧ o = .bool ov ∧ Hid (NumRel l q k P ov) ∧ Lex wr X B a b off c l (q + k) 0 tv T ∧ Near X B w wr) (fun _ _ wr => l.length - posOf wr X)
    case atStart => exact ⟨0, 0, false, by omega, rfl, rfl, NumRel.start _ _, hL, hB⟩
    case round =>
      obtain ⟨k, P, ov, hk, rfl, rfl, hrel, hL, hB⟩ := hrel
      clear h4
      have hpk := peek_any hL
      have hpos := hL.pos
      by_cases hlt : k < dcount l q
      · obtain ⟨hdig, hlen⟩ := dcount_dig l q k hlt
        have hdg := digit_any (byteAt l (q + k))
        rw [hdig] at hdg
        obtain ⟨x, hx⟩ : ∃ x, x = (byteAt l (q + k)).toNat := ⟨_, rfl⟩
        have hx1 : 48 ≤ x ∧ x ≤ 57 := by rw [hx]; unfold isDig at hdig; simpa using hdig
        rw [← hx] at hpk hdg
        obtain ⟨hx1, hx2⟩ := hx1
        obtain ⟨d, hd⟩ : ∃ d, d = x - 48 := ⟨_, rfl⟩
        have hd1 : (x : Int) - 48 = (d : Int) := by omega
        have hd2 : d < 10 := by omega
        rw [hx] at hd
        have ht := over_test P d hd2
        have hP := hrel.out.1
        rw [top63_val] at hP
        have c1 := hL.c1
        have f1 := hL.f 1
        have hset := fun n => (hL.drewN n).setAt (q + k + 1) (by omega)
        have hB' := fun n => (near_drewN hB n).setX 1 (.int .i64 ((q + k + 1 : Nat) : Int))
        have hm : posOf wr X = q + k := hL.posOf
        have hm' := fun n => (hset n).posOf
        rw [show ((q + k : Nat) : Int) = (q : Int) + (k : Int) from by omega] at c1
        rw [show ((q + k + 1 : Nat) : Int) = (q : Int) + (k : Int) + 1 from by omega] at hset hB' hm'
        replace hset := Lib.hid hset
        replace hB' := Lib.hid hB'
        replace hm := Lib.hid hm
        replace hm' := Lib.hid hm'
        have hpk' := Lib.hid hpk
        replace hpk := Lib.hid fun n => peek_any (hL.drewN n)
        rw [← hx] at hpk
        replace hdg := Lib.hid hdg
        by_cases ho : P * 10 + d ≤ top63
        · have hstep := Lib.hid (hrel.out.step hlen d hd ho)
          rw [show decide (top63 < P * 10 + d) = false from by simp; omega] at ht
          rw [top63_val] at ho
          clear hx hd hL hB hrel hdig
          go_wp2_with (first | (go_at_call 67; (with_reducible refine hpk'.out.mono ?_); rintro r w' ⟨rfl, nq, rfl⟩) | (go_at_call 67; (with_reducible refine (hpk.out _).mono ?_); rintro r w' ⟨rfl, nq, rfl⟩) | (go_at_call 62; refine (hdg.out _).mono ?_; rintro r w' ⟨rfl, rfl⟩))
          go_roundw
          case rel => exact ⟨k + 1, P * 10 + d, ov, by omega, by go_num, rfl, hstep, hset.out _, hB'.out _⟩
          case measure => rw [hm'.out, hm.out]; omega
        · have hstep := Lib.hid (hrel.out.over hlen d hd (by omega))
          rw [show decide (top63 < P * 10 + d) = true from by simp; omega] at ht
          rw [top63_val] at ho
          clear hx hd hL hB hrel hdig
          go_wp2_with (first | (go_at_call 67; (with_reducible refine hpk'.out.mono ?_); rintro r w' ⟨rfl, nq, rfl⟩) | (go_at_call 67; (with_reducible refine (hpk.out _).mono ?_); rintro r w' ⟨rfl, nq, rfl⟩) | (go_at_call 62; refine (hdg.out _).mono ?_; rintro r w' ⟨rfl, rfl⟩))
          go_roundw
          case rel => exact ⟨k + 1, P, true, by omega, rfl, rfl, hstep, hset.out _, hB'.out _⟩
          case measure => rw [hm'.out, hm.out]; omega
      · obtain rfl : k = dcount l q := by omega
        have hdig := dcount_end l q
        have hdg := digit_any (byteAt l (q + dcount l q))
        rw [hdig] at hdg
        have hlt := letter_any (byteAt l (q + dcount l q))
        have hend := numEnd hq.out hmi.out hrel.out
        clear hdig
        have hcz : 0 < dcount l q → wr.cell? ⟨b, off + q, none⟩ = some (.int .u8 ((byteAt l q).toNat : Int)) ∧ ∀ W, (Instr.indexAt 28 (.slice a l.length c) (.int .i64 (q : Int))).run Tryz.prog W = .ok (.pointer (some ⟨b, off + q, none⟩)) W := by
          intro h0
          have := (dcount_dig l q 0 h0).2
          exact ⟨hL.bytes.2 q (by omega), fun W => hL.idx q W (by omega)⟩
        obtain ⟨K, hK⟩ : ∃ K, K = dcount l q := ⟨_, rfl⟩
        rw [← hK] at hL hpk hpos hdg hlt hend hcz
        have hP : P ≤ 9223372036854775808 := by rw [← top63_val]; exact hrel.out.1
        have hpk' := Lib.hid hpk
        have hpkn := Lib.hid fun n => peek_any (hL.drewN n)
        have c0 := hL.c0
        have c1 := hL.c1
        have c2 := hL.c2
        have f2 := hL.f 2
        rw [show ((q + K : Nat) : Int) = (q : Int) + (K : Int) from by omega] at c1
        have hfail := Lib.hid fun (n : Nat) (x : Int) => fail_first (hL.drewN n) x
        have hset := Lib.hid fun (n : Nat) (x : Int) => (hL.drewN n).setE x
        have hLn := Lib.hid fun (n : Nat) => hL.drewN n
        have hBn := Lib.hid fun (n : Nat) => near_drewN hB n
        have hBs := Lib.hid fun (n : Nat) (x : Int) => (near_drewN hB n).setX 2 (.int .i64 x)
        obtain ⟨z, hz⟩ : ∃ z : Int, z = ((byteAt l q).toNat : Int) := ⟨_, rfl⟩
        obtain ⟨y, hy⟩ : ∃ y : Int, y = ((byteAt l (q + K)).toNat : Int) := ⟨_, rfl⟩
        obtain ⟨lt, hl⟩ : ∃ lt, lt = isLet (byteAt l (q + K)) := ⟨_, rfl⟩
        rw [← hz] at hcz hend
        rw [← hy] at hpk' hpkn hdg hlt hend
        rw [← hl] at hlt hend
        clear hz hy hl hL hB hpk hK hq hmi hrel
        replace hdg := Lib.hid hdg
        replace hlt := Lib.hid hlt
        cases hend with
        | none h he =>
          subst h
          replace he := Lib.hid he
          clear hcz
          go_wp2_with (first | (go_at_call 67; (with_reducible refine hpk'.out.mono ?_); rintro r w' ⟨rfl, nq, rfl⟩) | (go_at_call 67; (with_reducible refine (hpkn.out _).mono ?_); rintro r w' ⟨rfl, nq, rfl⟩) | (go_at_call 62; refine (hdg.out _).mono ?_; rintro r w' ⟨rfl, rfl⟩) | (go_at_call 66; refine (hlt.out _).mono ?_; rintro r w' ⟨rfl, rfl⟩) | (go_at_call 68; (with_reducible refine (hfail.out _ _).mono ?_); rintro r w' ⟨rfl, rfl⟩))
          all_goals (go_ret; exact ⟨_, _, rfl, hBs.out _ _, by rw [he.out]; exact hset.out _ _, fun h => by rw [he.out] at h; omega⟩)
        | zero h hz he =>
          replace he := Lib.hid he
          obtain ⟨hc1, hc2⟩ := hcz (by omega)
          go_wp2_with (first | (go_at_call 67; (with_reducible refine hpk'.out.mono ?_); rintro r w' ⟨rfl, nq, rfl⟩) | (go_at_call 67; (with_reducible refine (hpkn.out _).mono ?_); rintro r w' ⟨rfl, nq, rfl⟩) | (go_at_call 62; refine (hdg.out _).mono ?_; rintro r w' ⟨rfl, rfl⟩) | (go_at_call 66; refine (hlt.out _).mono ?_; rintro r w' ⟨rfl, rfl⟩) | (go_at_call 68; (with_reducible refine (hfail.out _ _).mono ?_); rintro r w' ⟨rfl, rfl⟩))
          all_goals (go_ret; exact ⟨_, _, rfl, hBs.out _ _, by rw [he.out]; exact hset.out _ _, fun h => by rw [he.out] at h; omega⟩)
        | point h hz hy he =>
          replace he := Lib.hid he
          obtain ⟨hc1, hc2⟩ := hcz h
          rcases hz with rfl | ⟨hz1, hz2⟩ <;> rcases hy with hy | ⟨hy1, hy2⟩ | ⟨hy1, hy2, hy3⟩
          all_goals
            go_wp2_with (first | (go_at_call 67; (with_reducible refine hpk'.out.mono ?_); rintro r w' ⟨rfl, nq, rfl⟩) | (go_at_call 67; (with_reducible refine (hpkn.out _).mono ?_); rintro r w' ⟨rfl, nq, rfl⟩) | (go_at_call 62; refine (hdg.out _).mono ?_; rintro r w' ⟨rfl, rfl⟩) | (go_at_call 66; refine (hlt.out _).mono ?_; rintro r w' ⟨rfl, rfl⟩) | (go_at_call 68; (with_reducible refine (hfail.out _ _).mono ?_); rintro r w' ⟨rfl, rfl⟩))
            all_goals (go_ret; exact ⟨_, _, rfl, hBs.out _ _, by rw [he.out]; exact hset.out _ _, fun h => by rw [he.out] at h; omega⟩)
        | letter h hz h1 h2 h3 hl he =>
          replace he := Lib.hid he
          obtain ⟨hc1, hc2⟩ := hcz h
          subst hl
          rcases hz with rfl | ⟨hz1, hz2⟩
          all_goals
            go_wp2_with (first | (go_at_call 67; (with_reducible refine hpk'.out.mono ?_); rintro r w' ⟨rfl, nq, rfl⟩) | (go_at_call 67; (with_reducible refine (hpkn.out _).mono ?_); rintro r w' ⟨rfl, nq, rfl⟩) | (go_at_call 62; refine (hdg.out _).mono ?_; rintro r w' ⟨rfl, rfl⟩) | (go_at_call 66; refine (hlt.out _).mono ?_; rintro r w' ⟨rfl, rfl⟩) | (go_at_call 68; (with_reducible refine (hfail.out _ _).mono ?_); rintro r w' ⟨rfl, rfl⟩))
            all_goals (go_ret; exact ⟨_, _, rfl, hBs.out _ _, by rw [he.out]; exact hset.out _ _, fun h => by rw [he.out] at h; omega⟩)
        | great h hz h1 h2 h3 hl ho he =>
          replace he := Lib.hid he
          obtain ⟨hc1, hc2⟩ := hcz h
          subst hl
          rcases hz with rfl | ⟨hz1, hz2⟩ <;> rcases ho with rfl | ⟨rfl, hm, ho2⟩
          all_goals first | (cases hm; done) | skip
          all_goals
            go_wp2_with (first | (go_at_call 67; (with_reducible refine hpk'.out.mono ?_); rintro r w' ⟨rfl, nq, rfl⟩) | (go_at_call 67; (with_reducible refine (hpkn.out _).mono ?_); rintro r w' ⟨rfl, nq, rfl⟩) | (go_at_call 62; refine (hdg.out _).mono ?_; rintro r w' ⟨rfl, rfl⟩) | (go_at_call 66; refine (hlt.out _).mono ?_; rintro r w' ⟨rfl, rfl⟩) | (go_at_call 68; (with_reducible refine (hfail.out _ _).mono ?_); rintro r w' ⟨rfl, rfl⟩))
            all_goals (go_ret; exact ⟨_, _, rfl, hBs.out _ _, by rw [he.out]; exact hset.out _ _, fun h => by rw [he.out] at h; omega⟩)
        | fine h hz h1 h2 h3 hl ho hm he hv hend =>
          replace he := Lib.hid he
          replace hv := Lib.hid hv
          replace hend := Lib.hid hend
          obtain ⟨hc1, hc2⟩ := hcz h
          subst hl ho
          rcases hz with rfl | ⟨hz1, hz2⟩ <;> rcases hm with hm | ⟨hm, hm2, hm3⟩
          all_goals first | (cases hm; done) | skip
          all_goals
            try rw [top63_val] at hm3
            go_wp2_with (first | (go_at_call 67; (with_reducible refine hpk'.out.mono ?_); rintro r w' ⟨rfl, nq, rfl⟩) | (go_at_call 67; (with_reducible refine (hpkn.out _).mono ?_); rintro r w' ⟨rfl, nq, rfl⟩) | (go_at_call 62; refine (hdg.out _).mono ?_; rintro r w' ⟨rfl, rfl⟩) | (go_at_call 66; refine (hlt.out _).mono ?_; rintro r w' ⟨rfl, rfl⟩) | (go_at_call 68; (with_reducible refine (hfail.out _ _).mono ?_); rintro r w' ⟨rfl, rfl⟩))
            all_goals (go_ret; exact ⟨_, _, rfl, hBn.out _, by rw [he.out]; exact hLn.out _, fun _ => by rw [hv.out, hend.out]; exact ⟨by first | rfl | (simp only [Bool.false_eq_true, if_false, if_true]; omega) | (simp; omega), rfl⟩⟩)
  · replace hst0 := Lib.hid (hst0 rfl)
    replace hq2 := hq2 rfl
    have hql' := hql
    clear hst1 hq3
    have hpq : (p : Int) + 1 ≤ 140737488351232 := by omega
    go_enter Tryz.func63, Tryz.ntmps63
    go_wp2_with (first | (go_at_call 67; refine hpk.out.mono ?_; rintro r w' ⟨rfl, nq, rfl⟩))
    have hL := hst0.out nq
    have hB := (near_drewN (Near.refl X B w) nq).setX 1 (.int .i64 (q : Int))
    have h4 := trivial
    clear hst0 c1 f1 htest hpk hpos hq2
    go_loopw [5, 6] (fun v o wr => ∃ (k P : Nat) (ov : Bool), k ≤ dcount l q ∧ v = .int .i64 (-(P : Int)) ∧ o = .bool ov ∧ Hid (NumRel l q k P ov) ∧ Lex wr X B a b off c l (q + k) 0 tv T ∧ Near X B w wr) (fun _ _ wr => l.length - posOf wr X)
    case atStart => exact ⟨0, 0, false, by omega, rfl, rfl, NumRel.start _ _, hL, hB⟩
    case round =>
      obtain ⟨k, P, ov, hk, rfl, rfl, hrel, hL, hB⟩ := hrel
      clear h4
      have hpk := peek_any hL
      have hpos := hL.pos
      by_cases hlt : k < dcount l q
      · obtain ⟨hdig, hlen⟩ := dcount_dig l q k hlt
        have hdg := digit_any (byteAt l (q + k))
        rw [hdig] at hdg
        obtain ⟨x, hx⟩ : ∃ x, x = (byteAt l (q + k)).toNat := ⟨_, rfl⟩
        have hx1 : 48 ≤ x ∧ x ≤ 57 := by rw [hx]; unfold isDig at hdig; simpa using hdig
        rw [← hx] at hpk hdg
        obtain ⟨hx1, hx2⟩ := hx1
        obtain ⟨d, hd⟩ : ∃ d, d = x - 48 := ⟨_, rfl⟩
        have hd1 : (x : Int) - 48 = (d : Int) := by omega
        have hd2 : d < 10 := by omega
        rw [hx] at hd
        have ht := over_test P d hd2
        have hP := hrel.out.1
        rw [top63_val] at hP
        have c1 := hL.c1
        have f1 := hL.f 1
        have hset := fun n => (hL.drewN n).setAt (q + k + 1) (by omega)
        have hB' := fun n => (near_drewN hB n).setX 1 (.int .i64 ((q + k + 1 : Nat) : Int))
        have hm : posOf wr X = q + k := hL.posOf
        have hm' := fun n => (hset n).posOf
        rw [show ((q + k : Nat) : Int) = (q : Int) + (k : Int) from by omega] at c1
        rw [show ((q + k + 1 : Nat) : Int) = (q : Int) + (k : Int) + 1 from by omega] at hset hB' hm'
        replace hset := Lib.hid hset
        replace hB' := Lib.hid hB'
        replace hm := Lib.hid hm
        replace hm' := Lib.hid hm'
        have hpk' := Lib.hid hpk
        replace hpk := Lib.hid fun n => peek_any (hL.drewN n)
        rw [← hx] at hpk
        replace hdg := Lib.hid hdg
        by_cases ho : P * 10 + d ≤ top63
        · have hstep := Lib.hid (hrel.out.step hlen d hd ho)
          rw [show decide (top63 < P * 10 + d) = false from by simp; omega] at ht
          rw [top63_val] at ho
          clear hx hd hL hB hrel hdig
          go_wp2_with (first | (go_at_call 67; (with_reducible refine hpk'.out.mono ?_); rintro r w' ⟨rfl, nq, rfl⟩) | (go_at_call 67; (with_reducible refine (hpk.out _).mono ?_); rintro r w' ⟨rfl, nq, rfl⟩) | (go_at_call 62; refine (hdg.out _).mono ?_; rintro r w' ⟨rfl, rfl⟩))
          go_roundw
          case rel => exact ⟨k + 1, P * 10 + d, ov, by omega, by go_num, rfl, hstep, hset.out _, hB'.out _⟩
          case measure => rw [hm'.out, hm.out]; omega
        · have hstep := Lib.hid (hrel.out.over hlen d hd (by omega))
          rw [show decide (top63 < P * 10 + d) = true from by simp; omega] at ht
          rw [top63_val] at ho
          clear hx hd hL hB hrel hdig
          go_wp2_with (first | (go_at_call 67; (with_reducible refine hpk'.out.mono ?_); rintro r w' ⟨rfl, nq, rfl⟩) | (go_at_call 67; (with_reducible refine (hpk.out _).mono ?_); rintro r w' ⟨rfl, nq, rfl⟩) | (go_at_call 62; refine (hdg.out _).mono ?_; rintro r w' ⟨rfl, rfl⟩))
          go_roundw
          case rel => exact ⟨k + 1, P, true, by omega, rfl, rfl, hstep, hset.out _, hB'.out _⟩
          case measure => rw [hm'.out, hm.out]; omega
      · obtain rfl : k = dcount l q := by omega
        have hdig := dcount_end l q
        have hdg := digit_any (byteAt l (q + dcount l q))
        rw [hdig] at hdg
        have hlt := letter_any (byteAt l (q + dcount l q))
        have hend := numEnd hq.out hmi.out hrel.out
        clear hdig
        have hcz : 0 < dcount l q → wr.cell? ⟨b, off + q, none⟩ = some (.int .u8 ((byteAt l q).toNat : Int)) ∧ ∀ W, (Instr.indexAt 28 (.slice a l.length c) (.int .i64 (q : Int))).run Tryz.prog W = .ok (.pointer (some ⟨b, off + q, none⟩)) W := by
          intro h0
          have := (dcount_dig l q 0 h0).2
          exact ⟨hL.bytes.2 q (by omega), fun W => hL.idx q W (by omega)⟩
        obtain ⟨K, hK⟩ : ∃ K, K = dcount l q := ⟨_, rfl⟩
        rw [← hK] at hL hpk hpos hdg hlt hend hcz
        have hP : P ≤ 9223372036854775808 := by rw [← top63_val]; exact hrel.out.1
        have hpk' := Lib.hid hpk
        have hpkn := Lib.hid fun n => peek_any (hL.drewN n)
        have c0 := hL.c0
        have c1 := hL.c1
        have c2 := hL.c2
        have f2 := hL.f 2
        rw [show ((q + K : Nat) : Int) = (q : Int) + (K : Int) from by omega] at c1
        have hfail := Lib.hid fun (n : Nat) (x : Int) => fail_first (hL.drewN n) x
        have hset := Lib.hid fun (n : Nat) (x : Int) => (hL.drewN n).setE x
        have hLn := Lib.hid fun (n : Nat) => hL.drewN n
        have hBn := Lib.hid fun (n : Nat) => near_drewN hB n
        have hBs := Lib.hid fun (n : Nat) (x : Int) => (near_drewN hB n).setX 2 (.int .i64 x)
        obtain ⟨z, hz⟩ : ∃ z : Int, z = ((byteAt l q).toNat : Int) := ⟨_, rfl⟩
        obtain ⟨y, hy⟩ : ∃ y : Int, y = ((byteAt l (q + K)).toNat : Int) := ⟨_, rfl⟩
        obtain ⟨lt, hl⟩ : ∃ lt, lt = isLet (byteAt l (q + K)) := ⟨_, rfl⟩
        rw [← hz] at hcz hend
        rw [← hy] at hpk' hpkn hdg hlt hend
        rw [← hl] at hlt hend
        clear hz hy hl hL hB hpk hK hq hmi hrel hql hql' hpq
        replace hdg := Lib.hid hdg
        replace hlt := Lib.hid hlt
        cases hend with
        | none h he =>
          subst h
          replace he := Lib.hid he
          clear hcz
          go_wp2_with (first | (go_at_call 67; (with_reducible refine hpk'.out.mono ?_); rintro r w' ⟨rfl, nq, rfl⟩) | (go_at_call 67; (with_reducible refine (hpkn.out _).mono ?_); rintro r w' ⟨rfl, nq, rfl⟩) | (go_at_call 62; refine (hdg.out _).mono ?_; rintro r w' ⟨rfl, rfl⟩) | (go_at_call 66; refine (hlt.out _).mono ?_; rintro r w' ⟨rfl, rfl⟩) | (go_at_call 68; (with_reducible refine (hfail.out _ _).mono ?_); rintro r w' ⟨rfl, rfl⟩))
          all_goals (go_ret; exact ⟨_, _, rfl, hBs.out _ _, by rw [he.out]; exact hset.out _ _, fun h => by rw [he.out] at h; omega⟩)
        | zero h hz he =>
          replace he := Lib.hid he
          obtain ⟨hc1, hc2⟩ := hcz (by omega)
          go_wp2_with (first | (go_at_call 67; (with_reducible refine hpk'.out.mono ?_); rintro r w' ⟨rfl, nq, rfl⟩) | (go_at_call 67; (with_reducible refine (hpkn.out _).mono ?_); rintro r w' ⟨rfl, nq, rfl⟩) | (go_at_call 62; refine (hdg.out _).mono ?_; rintro r w' ⟨rfl, rfl⟩) | (go_at_call 66; refine (hlt.out _).mono ?_; rintro r w' ⟨rfl, rfl⟩) | (go_at_call 68; (with_reducible refine (hfail.out _ _).mono ?_); rintro r w' ⟨rfl, rfl⟩))
          all_goals (go_ret; exact ⟨_, _, rfl, hBs.out _ _, by rw [he.out]; exact hset.out _ _, fun h => by rw [he.out] at h; omega⟩)
        | point h hz hy he =>
          replace he := Lib.hid he
          obtain ⟨hc1, hc2⟩ := hcz h
          rcases hz with rfl | ⟨hz1, hz2⟩ <;> rcases hy with hy | ⟨hy1, hy2⟩ | ⟨hy1, hy2, hy3⟩
          all_goals
            go_wp2_with (first | (go_at_call 67; (with_reducible refine hpk'.out.mono ?_); rintro r w' ⟨rfl, nq, rfl⟩) | (go_at_call 67; (with_reducible refine (hpkn.out _).mono ?_); rintro r w' ⟨rfl, nq, rfl⟩) | (go_at_call 62; refine (hdg.out _).mono ?_; rintro r w' ⟨rfl, rfl⟩) | (go_at_call 66; refine (hlt.out _).mono ?_; rintro r w' ⟨rfl, rfl⟩) | (go_at_call 68; (with_reducible refine (hfail.out _ _).mono ?_); rintro r w' ⟨rfl, rfl⟩))
            all_goals (go_ret; exact ⟨_, _, rfl, hBs.out _ _, by rw [he.out]; exact hset.out _ _, fun h => by rw [he.out] at h; omega⟩)
        | letter h hz h1 h2 h3 hl he =>
          replace he := Lib.hid he
          obtain ⟨hc1, hc2⟩ := hcz h
          subst hl
          rcases hz with rfl | ⟨hz1, hz2⟩
          all_goals
            go_wp2_with (first | (go_at_call 67; (with_reducible refine hpk'.out.mono ?_); rintro r w' ⟨rfl, nq, rfl⟩) | (go_at_call 67; (with_reducible refine (hpkn.out _).mono ?_); rintro r w' ⟨rfl, nq, rfl⟩) | (go_at_call 62; refine (hdg.out _).mono ?_; rintro r w' ⟨rfl, rfl⟩) | (go_at_call 66; refine (hlt.out _).mono ?_; rintro r w' ⟨rfl, rfl⟩) | (go_at_call 68; (with_reducible refine (hfail.out _ _).mono ?_); rintro r w' ⟨rfl, rfl⟩))
            all_goals (go_ret; exact ⟨_, _, rfl, hBs.out _ _, by rw [he.out]; exact hset.out _ _, fun h => by rw [he.out] at h; omega⟩)
        | great h hz h1 h2 h3 hl ho he =>
          replace he := Lib.hid he
          obtain ⟨hc1, hc2⟩ := hcz h
          subst hl
          rcases hz with rfl | ⟨hz1, hz2⟩ <;> rcases ho with rfl | ⟨rfl, hm, ho2⟩
          all_goals first | (cases hm; done) | skip
          all_goals
            go_wp2_with (first | (go_at_call 67; (with_reducible refine hpk'.out.mono ?_); rintro r w' ⟨rfl, nq, rfl⟩) | (go_at_call 67; (with_reducible refine (hpkn.out _).mono ?_); rintro r w' ⟨rfl, nq, rfl⟩) | (go_at_call 62; refine (hdg.out _).mono ?_; rintro r w' ⟨rfl, rfl⟩) | (go_at_call 66; refine (hlt.out _).mono ?_; rintro r w' ⟨rfl, rfl⟩) | (go_at_call 68; (with_reducible refine (hfail.out _ _).mono ?_); rintro r w' ⟨rfl, rfl⟩))
            all_goals (go_ret; exact ⟨_, _, rfl, hBs.out _ _, by rw [he.out]; exact hset.out _ _, fun h => by rw [he.out] at h; omega⟩)
        | fine h hz h1 h2 h3 hl ho hm he hv hend =>
          replace he := Lib.hid he
          replace hv := Lib.hid hv
          replace hend := Lib.hid hend
          obtain ⟨hc1, hc2⟩ := hcz h
          subst hl ho
          rcases hz with rfl | ⟨hz1, hz2⟩ <;> rcases hm with hm | ⟨hm, hm2, hm3⟩
          all_goals first | (cases hm; done) | skip
          all_goals
            try rw [top63_val] at hm3
            go_wp2_with (first | (go_at_call 67; (with_reducible refine hpk'.out.mono ?_); rintro r w' ⟨rfl, nq, rfl⟩) | (go_at_call 67; (with_reducible refine (hpkn.out _).mono ?_); rintro r w' ⟨rfl, nq, rfl⟩) | (go_at_call 62; refine (hdg.out _).mono ?_; rintro r w' ⟨rfl, rfl⟩) | (go_at_call 66; refine (hlt.out _).mono ?_; rintro r w' ⟨rfl, rfl⟩) | (go_at_call 68; (with_reducible refine (hfail.out _ _).mono ?_); rintro r w' ⟨rfl, rfl⟩))
            all_goals (go_ret; exact ⟨_, _, rfl, hBn.out _, by rw [he.out]; exact hLn.out _, fun _ => by rw [hv.out, hend.out]; exact ⟨by first | rfl | (simp only [Bool.false_eq_true, if_false, if_true]; omega) | (simp; omega), rfl⟩⟩)

end Go.Proofs.YticfioblapjkmaaGreat
