/- A tree's text, parsed: plain. -/
import Derived.Test.YtjdeohgedlhbcaaBak
import Derived.Test.YtjdeohgedlhbcaaJpa
import Derived.Test.YtjdeohgedlhbcaaPp
namespace Go.Proofs.Ytjdeohgedlhbcaa
open Go.RowKit
set_option linter.unusedVariables false
set_option linter.unusedSimpArgs false

def tkey (ko : Option (List (List UInt8))) (i : Nat) : List UInt8 := match ko with | none => [] | some ks => mQuote ((ks[i]?).getD []) ++ [58]
mutual
/-- A tree's text. -/
def tText : JT → List UInt8
  | .mk k n s ks xs => if k = 1 then [110, 117, 108, 108] else if k = 2 then (if n = 1 then [116, 114, 117, 101] else [102, 97, 108, 115, 101]) else if k = 3 then mNumb n else if k = 4 then mQuote s
    else if k = 5 then [91] ++ tKids none 0 xs ++ [93] else [123] ++ tKids (some ks) 0 xs ++ [125]
def tKids (ko : Option (List (List UInt8))) (i : Nat) : List JT → List UInt8
  | [] => []
  | x :: xs => (if 0 < i then [44] else []) ++ (tkey ko i ++ (tText x ++ tKids ko (i + 1) xs))
end
/-- What putting T makes of the printer. -/
def Puts (p : PS) (T : List UInt8) (q : PS) : Prop := (p.ov = true → q.ov = true) ∧ (p.ov = false → p.out.length ≤ 20000 → if p.out.length + T.length ≤ 20000 then q.ov = false ∧ q.out = p.out ++ T else q.ov = true)
theorem Puts.put (p : PS) (s : List UInt8) : Puts p s (p.put s) := by
  refine ⟨fun h => ?_, fun h hl => ?_⟩
  · unfold PS.put; rw [if_pos (.inl h)]
  · by_cases h2 : p.out.length + s.length ≤ 20000
    · rw [if_pos h2]
      unfold PS.put
      rw [if_neg (by rw [h]; simp; omega)]
      exact ⟨rfl, rfl⟩
    · rw [if_neg h2]
      unfold PS.put
      rw [if_pos (.inr (by omega))]
theorem Puts.trans {p q r : PS} {T U : List UInt8} (h1 : Puts p T q) (h2 : Puts q U r) : Puts p (T ++ U) r := by
  refine ⟨fun h => h2.1 (h1.1 h), fun h hl => ?_⟩
  have h3 := h1.2 h hl
  by_cases hT : p.out.length + T.length ≤ 20000
  · rw [if_pos hT] at h3
    have h4 := h2.2 h3.1 (by rw [h3.2, List.length_append]; exact hT)
    rw [h3.2, List.length_append] at h4
    by_cases hU : p.out.length + (T ++ U).length ≤ 20000
    · rw [if_pos hU]
      rw [List.length_append] at hU
      rw [if_pos (by omega)] at h4
      exact ⟨h4.1, by rw [h4.2, List.append_assoc]⟩
    · rw [if_neg hU]
      rw [List.length_append] at hU
      rw [if_neg (by omega)] at h4
      exact h4
  · rw [if_neg hT] at h3
    rw [if_neg (by rw [List.length_append]; omega)]
    exact h2.1 h3
theorem Puts.nil (p : PS) : Puts p [] p := ⟨fun h => h, fun h hl => by rw [if_pos (by simpa using hl)]; exact ⟨h, by simp⟩⟩
theorem puts_comma (p : PS) (i : Nat) : Puts p (if 0 < i then [44] else []) (pcomma p i) := by
  unfold pcomma
  split
  · exact Puts.put _ _
  · exact Puts.nil _
theorem puts_key (ko : Option (List (List UInt8))) (p : PS) (i : Nat) : Puts p (tkey ko i) (pkey ko p i) := by
  cases ko with
  | none => exact Puts.nil _
  | some ks => exact Puts.put _ _
mutual
theorem puts_tree (p : PS) : ∀ t : JT, Puts p (tText t) (pTree p t)
  | .mk k n s ks xs => by
    rw [tText, pTree]
    repeat' split
    all_goals first
      | exact Puts.put _ _
      | exact ((Puts.put _ _).trans (puts_kids none _ 0 xs)).trans (Puts.put _ _)
      | exact ((Puts.put _ _).trans (puts_kids (some ks) _ 0 xs)).trans (Puts.put _ _)
theorem puts_kids (ko : Option (List (List UInt8))) (p : PS) (i : Nat) : ∀ xs : List JT, Puts p (tKids ko i xs) (pKids ko p i xs)
  | [] => by rw [tKids, pKids]; exact Puts.nil _
  | x :: xs => by
    rw [tKids, pKids]
    exact (puts_comma p i).trans ((puts_key ko _ i).trans ((puts_tree _ x).trans (puts_kids ko _ (i + 1) xs)))
end
/-- Print, by the text. -/
theorem print_text (t : JT) : mPrint t = if jR t = true then (if (tText t).length ≤ 20000 then (tText t, 0) else ([], 3)) else ([], 2) := by
  unfold mPrint
  by_cases hr : jR t = true
  · rw [if_pos hr, if_pos hr]
    have h := (puts_tree PS0 t).2 rfl (by simp [PS0])
    simp only [PS0, List.length_nil, Nat.zero_add, List.nil_append] at h
    by_cases hl : (tText t).length ≤ 20000
    · rw [if_pos hl] at h ⊢
      have h1 : ¬ (pTree PS0 t).ov = true := by
        rw [show (pTree PS0 t).ov = false from h.1]; simp
      rw [if_neg h1]
      rw [show (pTree PS0 t).out = tText t from h.2]
    · rw [if_neg hl] at h ⊢
      rw [if_pos (show (pTree PS0 t).ov = true from h)]
  · rw [if_neg hr, if_neg hr]

/-! Words at a place. -/
section
variable {l R : List UInt8} {p : Nat}
theorem at_byte {c : UInt8} (h : l.drop p = c :: R) : byteAt l p = c ∧ p < l.length ∧ l.drop (p + 1) = R := by
  have hp : p < l.length := by
    rcases Nat.lt_or_ge p l.length with h' | h'
    · exact h'
    · rw [List.drop_eq_nil_of_le h'] at h; simp at h
  rw [List.drop_eq_getElem_cons hp] at h
  have h2 := List.cons.inj h
  refine ⟨?_, hp, h2.2⟩
  unfold byteAt
  rw [List.getElem?_eq_getElem hp]
  exact h2.1
theorem at_app {T : List UInt8} (h : l.drop p = T ++ R) : l.drop (p + T.length) = R := by
  rw [← List.drop_drop, h, List.drop_left]
theorem at_end (h : l.drop p = []) : l.length ≤ p := List.drop_eq_nil_iff.1 h
theorem wEnd_at {c : UInt8} (h : l.drop p = c :: R) (hw : isWh c = false) : wEnd l p = p := by
  unfold wEnd
  rw [tw_unique (n := 0) (fun k hk => absurd hk (by omega)) (fun _ => by rw [Nat.add_zero, (at_byte h).1]; exact hw), Nat.add_zero]
theorem take_at {c : UInt8} (h : l.drop p = c :: R) (hw : isWh c = false) (m : MW) (hm : mWord l p = m) (he : m.e = 0) : mTakeN l p = ⟨0, m.k, m.n, m.s, p, m.nx⟩ := by
  have hp := (at_byte h).2.1
  unfold mTakeN
  rw [wEnd_at h hw, if_neg (by omega), hm, if_pos he]
theorem take_sign {c : UInt8} (h : l.drop p = c :: R) (hw : isWh c = false) (hs : signOf c ≠ 0) : mTakeN l p = ⟨0, signOf c, 0, [], p, p + 1⟩ := by
  refine take_at h hw ⟨0, signOf c, 0, [], p + 1⟩ ?_ rfl
  unfold mWord
  rw [(at_byte h).1, if_pos hs]
theorem take_text {s : List UInt8} (h : l.drop p = mQuote s ++ R) (hr : isRight s = true) : mTakeN l p = ⟨0, 10, 0, s, p, p + (mQuote s).length⟩ := by
  have hm : mQuote s ++ R = 34 :: (s.flatMap qByte ++ 34 :: R) := by unfold mQuote; simp
  have h' := h
  rw [hm] at h'
  have ht := text_quote s.length (Nat.le_refl _) (m := l) (p := p + 1) (T := []) (R := R) (at_byte h').2.2
  refine take_at h' (by decide) ⟨0, 10, 0, s, p + (mQuote s).length⟩ ?_ rfl
  unfold mWord
  rw [(at_byte h').1, if_neg (by decide), if_pos (by decide), ht]
  unfold qRead
  rw [if_pos hr]
  simp only [List.nil_append]
  congr 1
  unfold mQuote
  simp
  omega
/-- What stands behind a value. -/
def Sep (R : List UInt8) : Prop := R = [] ∨ ∃ c R', R = c :: R' ∧ (c = 44 ∨ c = 93 ∨ c = 125)
theorem sep_byte (h : l.drop p = R) (hs : Sep R) : byteAt l p = 0 ∨ byteAt l p = 44 ∨ byteAt l p = 93 ∨ byteAt l p = 125 := by
  rcases hs with rfl | ⟨c, R', rfl, hc⟩
  · left
    unfold byteAt
    rw [List.getElem?_eq_none (at_end h)]
    rfl
  · right
    rw [(at_byte h).1]
    exact hc
theorem sep_let (h : l.drop p = R) (hs : Sep R) : isLet (byteAt l p) = false := by
  rcases sep_byte h hs with h | h | h | h <;> rw [h] <;> decide
theorem sep_dig (h : l.drop p = R) (hs : Sep R) : isDig (byteAt l p) = false := by
  rcases sep_byte h hs with h | h | h | h <;> rw [h] <;> decide
theorem take_name {T : List UInt8} {k : Nat} {n : Int} (h : l.drop p = T ++ R) (hs : Sep R) (hT : (T = [110, 117, 108, 108] ∧ k = 8 ∧ n = 0) ∨ (T = [116, 114, 117, 101] ∧ k = 7 ∧ n = 1) ∨ (T = [102, 97, 108, 115, 101] ∧ k = 7 ∧ n = 0)) :
    mTakeN l p = ⟨0, k, n, [], p, p + T.length⟩ := by
  have hq := at_app h
  have hl := sep_let hq hs
  rcases hT with ⟨rfl, rfl, rfl⟩ | ⟨rfl, rfl, rfl⟩ | ⟨rfl, rfl, rfl⟩
  all_goals
    refine take_at h (by decide) ⟨0, _, _, [], _⟩ ?_ rfl
    unfold mWord mLet mNamed
    rw [(at_byte h).1, if_neg (by decide), if_neg (by decide), if_neg (by decide), h]
    simp only [sTrue, sFalse, sNull, List.cons_append, List.nil_append, List.isPrefixOf]
    simp only [List.length_cons, List.length_nil, Nat.reduceAdd] at hl ⊢
    simp [hl]

/-! Numbers. -/
theorem ofnat_dig (k : Nat) (h : k < 10) : (UInt8.ofNat (48 + k)).toNat = 48 + k := by rw [UInt8.toNat_ofNat']; omega
theorem digs_dig : ∀ (m u : Nat), u ≤ m → ∀ c ∈ digs u, isDig c = true := by
  intro m
  induction m with
  | zero =>
    intro u hu c hc
    rw [digs_lt (by omega), List.mem_singleton] at hc
    subst hc
    unfold isDig
    rw [ofnat_dig _ (by omega)]
    simp
    omega
  | succ m ih =>
    intro u hu c hc
    by_cases h : u < 10
    · rw [digs_lt h, List.mem_singleton] at hc
      subst hc
      unfold isDig
      rw [ofnat_dig _ h]
      simp
      omega
    · rw [digs_ge h, List.mem_append, List.mem_singleton] at hc
      rcases hc with hc | rfl
      · exact ih (u / 10) (by omega) c hc
      · unfold isDig
        rw [ofnat_dig _ (by omega)]
        simp
        omega
theorem dval_snocc (l : List UInt8) (c : UInt8) : dval (l ++ [c]) = dval l * 10 + (c.toNat - 48) := by unfold dval; simp
theorem digs_val : ∀ (m u : Nat), u ≤ m → dval (digs u) = u := by
  intro m
  induction m with
  | zero =>
    intro u hu
    rw [digs_lt (by omega)]
    obtain rfl : u = 0 := by omega
    rfl
  | succ m ih =>
    intro u hu
    by_cases h : u < 10
    · rw [digs_lt h]
      have := ofnat_dig u h
      simp [dval, this]
      omega
    · rw [digs_ge h, dval_snocc, ih (u / 10) (by omega), ofnat_dig _ (by omega)]
      omega
theorem digs_head : ∀ (m u : Nat), u ≤ m → ∃ c r, digs u = c :: r ∧ (1 ≤ u → c ≠ 48) ∧ (u = 0 → r = []) := by
  intro m
  induction m with
  | zero =>
    intro u hu
    obtain rfl : u = 0 := by omega
    exact ⟨_, _, digs_lt (by omega), fun h => by omega, fun _ => rfl⟩
  | succ m ih =>
    intro u hu
    by_cases h : u < 10
    · refine ⟨_, _, digs_lt h, fun h1 hc => ?_, fun _ => rfl⟩
      have := congrArg UInt8.toNat hc
      rw [ofnat_dig _ h] at this
      simp at this
      omega
    · obtain ⟨c, r, h1, h2, _⟩ := ih (u / 10) (by omega)
      rw [digs_ge h, h1]
      exact ⟨c, _, rfl, fun _ => h2 (by omega), fun h => by omega⟩
theorem count_at {D : List UInt8} (h : l.drop p = D ++ R) (hd : ∀ c ∈ D, isDig c = true) (hs : Sep R) : dcount l p = D.length ∧ (l.drop p).take (dcount l p) = D := by
  have h1 : dcount l p = D.length := by
    unfold dcount
    rw [h, List.takeWhile_append_of_pos hd]
    rcases hs with rfl | ⟨c, R', rfl, hc⟩
    · simp
    · rw [List.takeWhile_cons_of_neg (by rcases hc with rfl | rfl | rfl <;> decide)]
      simp
  exact ⟨h1, by rw [h1, h, List.take_left]⟩
theorem take_numb {n : Int} (h : l.drop p = mNumb n ++ R) (hs : Sep R) (h1 : -9223372036854775808 ≤ n) (h2 : n ≤ 9223372036854775807) : mTakeN l p = ⟨0, 9, n, [], p, p + (mNumb n).length⟩ := by
  obtain ⟨u, hu⟩ : ∃ u, u = n.natAbs := ⟨_, rfl⟩
  obtain ⟨c, r, hcr, hc1, hc0⟩ := digs_head u u (Nat.le_refl _)
  have hdig := digs_dig u u (Nat.le_refl _)
  have hval := digs_val u u (Nat.le_refl _)
  have hcd : isDig c = true := hdig c (by rw [hcr]; simp)
  have hcn : 48 ≤ c.toNat ∧ c.toNat ≤ 57 := by unfold isDig at hcd; simpa using hcd
  have hm : mNumb n = (if n < 0 then [45] else []) ++ digs u := by rw [hu]; rfl
  have key : ∀ q : Nat, l.drop q = digs u ++ R → mnFrom l p = q → (byteAt l p = 45 ↔ n < 0) → mnErr l p = 0 ∧ mnInt l p = n ∧ mnEnd l p = q + (digs u).length := by
    intro q hq hf hb
    obtain ⟨d1, d2⟩ := count_at hq hdig hs
    have hend : mnEnd l p = q + (digs u).length := by unfold mnEnd; rw [hf, d1]
    have hmv : mnVal l p = u := by unfold mnVal; rw [hf, d2, hval]
    have hqb : byteAt l q = c := (at_byte (show l.drop q = c :: (r ++ R) by rw [hq, hcr]; rfl)).1
    have hR := at_app hq
    refine ⟨?_, ?_, hend⟩
    · unfold mnErr
      rw [hf, d1, hqb, hend, hmv, if_neg (by
        rw [hcr]
        intro h
        rcases h with h | ⟨h3, h4⟩
        · simp at h
        · by_cases hu0 : u = 0
          · rw [hc0 hu0] at h3; simp at h3
          · exact hc1 (by omega) h4)]
      rw [if_neg (by rcases sep_byte hR hs with h | h | h | h <;> rw [h] <;> decide), if_neg (by rw [sep_let hR hs]; simp), if_neg (by
        rw [top63_val]
        intro h
        rcases h with h | ⟨h3, h4⟩
        · omega
        · exact h3 (hb.2 (by omega)))]
    · unfold mnInt
      rw [hmv]
      by_cases hn : n < 0
      · rw [if_pos (hb.2 hn)]; omega
      · rw [if_neg (fun h => hn (hb.1 h))]; omega
  have hfin : ∀ c' R', l.drop p = c' :: R' → isWh c' = false → signOf c' = 0 → c'.toNat ≠ 34 → (c'.toNat = 45 ∨ isDig c' = true) → mnErr l p = 0 → mTakeN l p = ⟨0, 9, mnInt l p, [], p, mnEnd l p⟩ := by
    intro c' R' hc hw h3 h4 h5 h6
    refine take_at hc hw ⟨0, 9, mnInt l p, [], mnEnd l p⟩ ?_ rfl
    unfold mWord
    rw [(at_byte hc).1, if_neg (by simp [h3]), if_neg h4, if_pos h5, if_pos h6]
  by_cases hn : n < 0
  · rw [if_pos hn] at hm
    have hp : l.drop p = 45 :: (digs u ++ R) := by rw [h, hm]; rfl
    obtain ⟨b1, _, b3⟩ := at_byte hp
    obtain ⟨e1, e2, e3⟩ := key (p + 1) b3 (by unfold mnFrom; rw [if_pos b1]) ⟨fun _ => hn, fun _ => b1⟩
    rw [hfin 45 _ hp (by decide) (by decide) (by decide) (.inl (by decide)) e1, e2, e3, hm]
    simp
    omega
  · rw [if_neg hn] at hm
    have hp : l.drop p = c :: (r ++ R) := by rw [h, hm, hcr]; rfl
    have hp2 : l.drop p = digs u ++ R := by rw [h, hm]; rfl
    obtain ⟨b1, _, b3⟩ := at_byte hp
    have hc45 : c ≠ 45 := by intro e; rw [e] at hcn; simp at hcn
    have hcN : c = c.toNat.toUInt8 := by simp
    have hw : isWh c = false := by unfold isWh; simp; omega
    have hsg : signOf c = 0 := by unfold signOf; repeat' split
                                  all_goals omega
    obtain ⟨e1, e2, e3⟩ := key p hp2 (by unfold mnFrom; rw [b1, if_neg hc45]) ⟨fun h => absurd (b1 ▸ h) hc45, fun h => absurd h hn⟩
    rw [hfin c _ hp hw hsg (by omega) (.inr hcd) e1, e2, e3, hm]
    simp
end

/-! Trees. -/
section
variable {l : List UInt8}
def koOf (obj : Bool) (ks : List (List UInt8)) : Option (List (List UInt8)) := if obj = true then some ks else none
def endC (obj : Bool) : UInt8 := if obj = true then 125 else 93
theorem sep_end (obj : Bool) (R : List UInt8) : Sep (endC obj :: R) := .inr ⟨_, _, rfl, by cases obj <;> simp [endC]⟩
theorem sep_kids (ko : Option (List (List UInt8))) (i : Nat) (xs : List JT) (obj : Bool) (R : List UInt8) : Sep (tKids ko (i + 1) xs ++ endC obj :: R) := by
  cases xs with
  | nil => rw [tKids]; exact sep_end obj R
  | cons x xs =>
    rw [tKids, if_pos (by omega)]
    exact .inr ⟨_, _, rfl, .inl rfl⟩
def Item (l : List UInt8) (f : MT → JR) (x : JT) : Prop := ∀ (p : Nat) (R : List UInt8), l.drop p = tText x ++ R → Sep R → (mTakeN l p).k ≠ 4 ∧ f (mTakeN l p) = .ok x (p + (tText x).length)
theorem drop_le {p : Nat} {c : UInt8} {R : List UInt8} (h : l.drop p = c :: R) : p ≤ l.length := Nat.le_of_lt (at_byte h).2.1
theorem text_ne (t : JT) : ∃ c r, tText t = c :: r := by
  cases t with
  | mk k n s ks xs =>
  have hnn : ∃ c r, mNumb n = c :: r := by
    obtain ⟨c, r, h, _⟩ := digs_head n.natAbs n.natAbs (Nat.le_refl _)
    unfold mNumb
    rw [h]
    split
    · exact ⟨_, _, rfl⟩
    · exact ⟨_, _, rfl⟩
  rw [tText]
  repeat' split
  all_goals first | exact ⟨_, _, rfl⟩ | exact hnn
theorem head_text {f : MT → JR} (obj : Bool) (ks : List (List UInt8)) (hr : ∀ k ∈ ks, isRight k = true) (hnd : ks.Nodup) {x : JT} {i p : Nat} {R : List UInt8} (hx : Item l f x) (hi : obj = true → i < ks.length)
    (h : l.drop p = tkey (koOf obj ks) i ++ (tText x ++ R)) (hs : Sep R) : mHead l f obj p (ks.take i) = .ok x (p + (tkey (koOf obj ks) i).length + (tText x).length) ∧ (obj = true → mKeys l obj p (ks.take i) = ks.take (i + 1)) := by
  cases obj with
  | false =>
    refine ⟨?_, fun h => by simp at h⟩
    unfold mHead
    rw [if_neg (by simp)]
    simp only [koOf, tkey, Bool.false_eq_true, if_false, List.nil_append, List.length_nil, Nat.add_zero] at h ⊢
    exact (hx p R h hs).2
  | true =>
    have hil := hi rfl
    obtain ⟨key, hk⟩ : ∃ key, ks[i]? = some key := ⟨_, List.getElem?_eq_getElem hil⟩
    have hkr := hr key (List.mem_of_getElem? hk)
    have hke : tkey (koOf true ks) i = mQuote key ++ [58] := by simp [koOf, tkey, hk]
    rw [hke] at h ⊢
    rw [List.append_assoc] at h
    have h1 := take_text h hkr
    have h2 : l.drop (p + (mQuote key).length) = 58 :: (tText x ++ R) := at_app h
    have h3 := take_sign h2 (by decide) (by decide)
    have h4 := (at_byte h2).2.2
    have h5 := (hx _ R h4 hs).2
    have hnk : key ∉ ks.take i := by
      intro hm
      obtain ⟨j, hj, hje⟩ := List.getElem_of_mem hm
      rw [List.length_take] at hj
      rw [List.getElem_take] at hje
      have h6 := (List.getElem?_eq_some_iff.1 hk).2
      have := (List.nodup_iff_pairwise_ne.1 hnd)
      have h7 := List.pairwise_iff_getElem.1 this j i (by omega) hil (by omega)
      exact h7 (hje.trans h6.symm)
    refine ⟨?_, fun _ => ?_⟩
    · unfold mHead
      rw [if_pos rfl, h1]
      simp only []
      rw [if_neg (by decide), if_neg hnk, h3]
      simp only []
      rw [if_neg (by decide), h5, List.length_append]
      rfl
    · unfold mKeys
      rw [if_pos rfl, h1, List.take_add_one, hk]
      rfl
theorem loop_text {f : MT → JR} (hf : Reads l f) (obj : Bool) (ks : List (List UInt8)) (hr : ∀ k ∈ ks, isRight k = true) (hnd : ks.Nodup) (hob : obj = false → ks = []) :
    ∀ (xs : List JT) (x : JT) (i : Nat) (ys : List JT) (p : Nat) (R : List UInt8), (∀ y ∈ x :: xs, Item l f y) → (obj = true → ks.length = i + (xs.length + 1)) → l.drop p = tkey (koOf obj ks) i ++ (tText x ++ (tKids (koOf obj ks) (i + 1) xs ++ endC obj :: R)) →
      mLoop l f obj p (ks.take i) ys = .ok (.mk (objK obj) 0 [] ks (ys ++ x :: xs)) (p + (tkey (koOf obj ks) i).length + (tText x).length + (tKids (koOf obj ks) (i + 1) xs).length + 1) := by
  intro xs
  induction xs with
  | nil =>
    intro x i ys p R hx hl h
    obtain ⟨h1, h2⟩ := head_text obj ks hr hnd (hx x (by simp)) (fun ho => by have := hl ho; simp at this; omega) h (sep_kids _ _ _ _ _)
    have hp : p ≤ l.length := by
      rcases Nat.lt_or_ge l.length p with hlt | h'
      · rw [List.drop_eq_nil_of_le (by omega)] at h
        obtain ⟨c, r, hc⟩ := text_ne x
        rw [hc] at h
        simp at h
      · exact h'
    have hq : l.drop (p + (tkey (koOf obj ks) i).length + (tText x).length) = endC obj :: R := by
      have := at_app (at_app h)
      rw [tKids] at this
      exact this
    have hmk : mKeys l obj p (ks.take i) = ks := by
      cases obj with
      | false => rw [hob rfl]; simp [mKeys]
      | true =>
        rw [h2 rfl, List.take_of_length_le]
        have := hl rfl
        simp at this
        omega
    rw [loop_eq hf hp, h1, hmk]
    unfold mAfter
    simp only []
    have h3 := take_sign hq (by cases obj <;> decide) (by cases obj <;> decide)
    rw [h3]
    simp only []
    rw [if_pos (by cases obj <;> rfl), tKids]
    rfl
  | cons x' xs ih =>
    intro x i ys p R hx hl h
    obtain ⟨h1, h2⟩ := head_text obj ks hr hnd (hx x (by simp)) (fun ho => by have := hl ho; simp at this; omega) h (sep_kids _ _ _ _ _)
    have hp : p ≤ l.length := by
      rcases Nat.lt_or_ge l.length p with hlt | h'
      · rw [List.drop_eq_nil_of_le (by omega)] at h
        obtain ⟨c, r, hc⟩ := text_ne x
        rw [hc] at h
        simp at h
      · exact h'
    have hq : l.drop (p + (tkey (koOf obj ks) i).length + (tText x).length) = 44 :: (tkey (koOf obj ks) (i + 1) ++ (tText x' ++ (tKids (koOf obj ks) (i + 1 + 1) xs ++ endC obj :: R))) := by
      have := at_app (at_app h)
      rw [tKids, if_pos (by omega)] at this
      rw [this]
      simp
    have hmk : mKeys l obj p (ks.take i) = ks.take (i + 1) := by
      cases obj with
      | false => rw [hob rfl]; simp [mKeys]
      | true => exact h2 rfl
    rw [loop_eq hf hp, h1, hmk]
    unfold mAfter
    simp only []
    have h3 := take_sign hq (by decide) (by decide)
    rw [h3]
    simp only []
    rw [if_neg (by cases obj <;> decide), if_neg (by decide), ih x' (i + 1) (ys ++ [x]) _ R (fun y hy => hx y (by simp at hy ⊢; exact .inr hy)) (fun ho => by have := hl ho; simp at this ⊢; omega) (at_byte hq).2.2]
    rw [List.append_assoc, List.singleton_append]
    congr 1
    conv => rhs; rw [tKids, if_pos (by omega)]
    simp only [List.length_append, List.length_cons, List.length_nil]
    omega
theorem items_text {f : MT → JR} (hf : Reads l f) (obj : Bool) (ks : List (List UInt8)) (hr : ∀ k ∈ ks, isRight k = true) (hnd : ks.Nodup) (hob : obj = false → ks = []) (xs : List JT) (p : Nat) (R : List UInt8) (hx : ∀ y ∈ xs, Item l f y)
    (hl : obj = true → ks.length = xs.length) (h : l.drop p = tKids (koOf obj ks) 0 xs ++ endC obj :: R) : mItems l f obj p = .ok (.mk (objK obj) 0 [] ks xs) (p + (tKids (koOf obj ks) 0 xs).length + 1) := by
  unfold mItems
  cases xs with
  | nil =>
    rw [tKids] at h ⊢
    have h3 := take_sign (show l.drop p = endC obj :: R from h) (by cases obj <;> decide) (by cases obj <;> decide)
    rw [h3]
    simp only []
    rw [if_pos (by cases obj <;> rfl)]
    have : ks = [] := by
      cases obj with
      | false => exact hob rfl
      | true => exact List.eq_nil_of_length_eq_zero (hl rfl)
    rw [this]
    rfl
  | cons x xs =>
    have hT := loop_text hf obj ks hr hnd hob xs x 0 [] p R hx (fun ho => by have := hl ho; simp at this; omega)
    have e0 : tKids (koOf obj ks) 0 (x :: xs) = tkey (koOf obj ks) 0 ++ (tText x ++ tKids (koOf obj ks) (0 + 1) xs) := by
      rw [tKids, if_neg (by omega), List.nil_append]
    rw [e0] at h ⊢
    rw [List.append_assoc, List.append_assoc] at h
    have hk : (mTakeN l p).k ≠ endK obj := by
      cases obj with
      | false =>
        exact (hx x (by simp) p _ h (sep_kids _ _ _ _ _)).1
      | true =>
        obtain ⟨key, hk⟩ : ∃ key, ks[0]? = some key := ⟨_, List.getElem?_eq_getElem (by have := hl rfl; simp at this; omega)⟩
        have hke : tkey (koOf true ks) 0 = mQuote key ++ [58] := by simp [koOf, tkey, hk]
        rw [hke, List.append_assoc] at h
        rw [take_text h (hr key (List.mem_of_getElem? hk))]
        simp [endK]
    rw [if_neg hk]
    have hT := hT h
    rw [show ks.take 0 = ([] : List (List UInt8)) from rfl] at hT
    rw [hT, List.nil_append]
    congr 1
    simp only [List.length_append]
    omega
theorem jkeyed_ks {k n : Int} {s : List UInt8} {ks : List (List UInt8)} {xs : List JT} (h : jkeyed (.mk k n s ks xs) = true) : (k ≠ 6 → ks = []) ∧ (k = 6 → ks.length = xs.length ∧ (∀ y ∈ ks, isRight y = true) ∧ (Lib.compact (srt ks)).length = ks.length) := by
  rw [jkeyed] at h
  refine ⟨fun h6 => ?_, fun h6 => ?_⟩
  · rw [if_pos h6] at h
    simpa using h
  · rw [if_neg (by omega)] at h
    simp at h
    exact ⟨h.1, h.2.2, h.2.1⟩
theorem nodup_of {ks : List (List UInt8)} (h : (Lib.compact (srt ks)).length = ks.length) : ks.Nodup := by
  have hperm : (srt ks).Perm ks := List.mergeSort_perm ks _
  have hlen := srt_len ks
  have hsort : (srt ks).Pairwise fun a b => a ≤ b := by
    have := List.pairwise_mergeSort (le := fun x y : List UInt8 => decide (x ≤ y)) (fun a b c h1 h2 => by simp only [decide_eq_true_eq] at h1 h2 ⊢; exact List.le_trans h1 h2) (fun a b => by simp only [Bool.or_eq_true, decide_eq_true_eq]; exact List.le_total a b) ks
    exact this.imp fun h => by simpa using h
  generalize srt ks = L at h hperm hlen hsort
  refine hperm.nodup_iff.1 ?_
  have hk : ∀ j, j < L.length → Lib.keeps L.toArray j = true := by
    rw [← hlen] at h
    unfold Lib.compact Lib.compactUpTo at h
    rw [List.length_map] at h
    have h2 : ((List.range L.length).filter (Lib.keeps L.toArray)).length = (List.range L.length).length := by rw [h, List.length_range]
    intro j hj
    exact List.length_filter_eq_length_iff.1 h2 j (List.mem_range.2 hj)
  rw [List.nodup_iff_pairwise_ne, List.pairwise_iff_getElem]
  intro i j hi hj hij heq
  have h1 := List.pairwise_iff_getElem.1 hsort
  have hk1 := hk (i + 1) (by omega)
  have hle1 := h1 i (i + 1) hi (by omega) (by omega)
  have hle2 : L[i + 1]'(by omega) ≤ L[j] := by
    rcases Nat.lt_or_ge (i + 1) j with h2 | h2
    · exact h1 (i + 1) j (by omega) hj h2
    · have : i + 1 = j := by omega
      subst this
      exact List.le_refl _
  rw [← heq] at hle2
  have he := List.le_antisymm hle1 hle2
  unfold Lib.keeps at hk1
  have g1 : L.toArray[i + 1]! = L[i + 1]'(by omega) := by simp [show i + 1 < L.length by omega]
  have g2 : L.toArray[i + 1 - 1]! = L[i] := by simp [hi]
  rw [g1, g2, he] at hk1
  simp at hk1
theorem val_text : ∀ (m : Nat) (t : JT), SizeOf.sizeOf t ≤ m → ∀ d e, e + d = 32 → jright e t = true → t.inr → Item l (mVal l d) t := by
  intro m
  induction m with
  | zero =>
    intro t ht
    cases t
    simp at ht
  | succ m ih =>
  intro t ht d e hde hr hi p R h hs
  cases t with
  | mk k n s ks xs =>
  rw [jright] at hr
  simp only [Bool.and_eq_true] at hr
  obtain ⟨⟨⟨hb, hky⟩, hdep⟩, hxs⟩ := hr
  obtain ⟨hk6, hk6'⟩ := jkeyed_ks hky
  rw [jbare] at hb
  rw [tText] at h ⊢
  obtain ⟨⟨hn1, hn2⟩, hix⟩ := hi
  by_cases k1 : k = 1
  · subst k1
    rw [if_pos rfl] at h hb ⊢
    simp at hb
    obtain ⟨⟨rfl, rfl⟩, rfl⟩ := hb
    rw [hk6 (by omega), take_name h hs (.inl ⟨rfl, rfl, rfl⟩)]
    refine ⟨by simp [signOf], ?_⟩
    cases d <;> rfl
  rw [if_neg k1] at h hb ⊢
  by_cases k2 : k = 2
  · subst k2
    rw [if_pos rfl] at h hb ⊢
    simp at hb
    obtain ⟨⟨hn, rfl⟩, rfl⟩ := hb
    rw [hk6 (by omega)]
    by_cases n1 : n = 1
    · subst n1
      rw [if_pos rfl] at h ⊢
      rw [take_name h hs (.inr (.inl ⟨rfl, rfl, rfl⟩))]
      refine ⟨by simp [signOf], ?_⟩
      cases d <;> rfl
    · obtain rfl : n = 0 := by omega
      rw [if_neg n1] at h ⊢
      rw [take_name h hs (.inr (.inr ⟨rfl, rfl, rfl⟩))]
      refine ⟨by simp [signOf], ?_⟩
      cases d <;> rfl
  rw [if_neg k2] at h hb ⊢
  by_cases k3 : k = 3
  · subst k3
    rw [if_pos rfl] at h hb ⊢
    simp at hb
    obtain ⟨rfl, rfl⟩ := hb
    rw [hk6 (by omega), take_numb h hs hn1 hn2]
    refine ⟨by simp [signOf], ?_⟩
    cases d <;> rfl
  rw [if_neg k3] at h hb ⊢
  by_cases k4 : k = 4
  · subst k4
    rw [if_pos rfl] at h hb ⊢
    simp at hb
    obtain ⟨⟨rfl, rfl⟩, hsr⟩ := hb
    rw [hk6 (by omega), take_text h hsr]
    refine ⟨by simp [signOf], ?_⟩
    cases d <;> rfl
  rw [if_neg k4] at h hb ⊢
  have hxi : ∀ d', e + 1 + d' = 32 → ∀ y ∈ xs, Item l (mVal l d') y := fun d' hd' y hy => ih y (by have := List.sizeOf_lt_of_mem hy; simp at ht; omega) d' (e + 1) hd' (jrights_mem hxs y hy) (inrL_mem hix y hy)
  by_cases k5 : k = 5
  · subst k5
    rw [if_pos (.inl rfl)] at hb
    rw [if_pos rfl] at h ⊢
    simp at hb
    obtain ⟨rfl, rfl⟩ := hb
    have he : e < 32 := by simp at hdep; omega
    obtain ⟨d', rfl⟩ : ∃ d', d = d' + 1 := ⟨d - 1, by omega⟩
    rw [hk6 (by omega)]
    have h' : l.drop p = 91 :: (tKids none 0 xs ++ 93 :: R) := by rw [h]; simp
    have h3 := take_sign h' (by decide) (by decide)
    have hI := items_text (l := l) (reads_val d') false [] (by simp) (by simp) (fun _ => rfl) xs (p + 1) R (hxi d' (by omega)) (by simp) (at_byte h').2.2
    rw [h3]
    refine ⟨by simp [signOf], ?_⟩
    show mItems l (mVal l d') false (p + 1) = _
    rw [hI]
    congr 1
    simp [koOf]
    omega
  · rw [if_neg k5] at h ⊢
    have k6 : k = 6 := by
      by_cases k6 : k = 6
      · exact k6
      · rw [if_neg (by omega)] at hb; simp at hb
    subst k6
    rw [if_pos (.inr rfl)] at hb
    simp at hb
    obtain ⟨rfl, rfl⟩ := hb
    have he : e < 32 := by simp at hdep; omega
    obtain ⟨d', rfl⟩ : ∃ d', d = d' + 1 := ⟨d - 1, by omega⟩
    obtain ⟨q1, q2, q3⟩ := hk6' rfl
    have h' : l.drop p = 123 :: (tKids (some ks) 0 xs ++ 125 :: R) := by rw [h]; simp
    have h3 := take_sign h' (by decide) (by decide)
    have hI := items_text (l := l) (reads_val d') true ks q2 (nodup_of q3) (fun h => by simp at h) xs (p + 1) R (hxi d' (by omega)) (fun _ => q1) (at_byte h').2.2
    rw [h3]
    refine ⟨by simp [signOf], ?_⟩
    show mItems l (mVal l d') true (p + 1) = _
    rw [hI]
    congr 1
    simp [koOf]
    omega
end
/-- What is printed is parsed as it was. -/
theorem parse_text (t : JT) (hr : jR t = true) (hi : t.inr) : mParse (tText t) = .ok t (tText t).length := by
  have h := (val_text (l := tText t) _ t (Nat.le_refl _) 32 0 rfl hr hi 0 [] (by simp) (.inl rfl)).2
  rw [Nat.zero_add] at h
  unfold mParse
  rw [h]
  simp only []
  have : (mTakeN (tText t) (tText t).length).k = 11 := by
    have hw := wEnd_le (l := tText t) (i := (tText t).length) (Nat.le_refl _)
    unfold mTakeN
    rw [if_pos (by omega)]
  rw [if_pos this]

end Go.Proofs.Ytjdeohgedlhbcaa
