/- A quoted text is one word that has it, just if it is of characters. -/
import Derived.Test.YtjdeohgedlhbcaaLoc
import Derived.Test.YtjdeohgedlhbcaaQ0
namespace Go.Proofs.Ytjdeohgedlhbcaa
open Go.RowKit
set_option linter.unusedVariables false
set_option linter.unusedSimpArgs false

variable {l m s : List UInt8} {p r k : Nat}
theorem same_drop (l : List UInt8) (p k : Nat) : Same l p (l.drop p) 0 k := by
  intro j _
  rw [List.getElem?_drop, Nat.zero_add]
theorem uerr_drop (l : List UInt8) (p : Nat) : uerr l p = uerr (l.drop p) 0 := (same_drop l p (ulen l p + 1)).uerr (by omega) (by omega)
theorem ulen_drop (l : List UInt8) (p : Nat) : ulen l p = ulen (l.drop p) 0 := (same_drop l p 1).ulen (by omega)
theorem uCnt_drop : ∀ (n : Nat) (l : List UInt8) (p k : Nat), l.length - p ≤ n → (uCnt l p k).2 = (uCnt (l.drop p) 0 0).2 := by
  intro n
  induction n with
  | zero =>
    intro l p k hn
    rw [uCnt_end (by omega), uCnt_end (by simp; omega)]
  | succ n ih =>
    intro l p k hn
    by_cases hp : p < l.length
    · have hd : 0 < (l.drop p).length := by simp; omega
      by_cases he : uerr l p = 0
      · have hb := ulen_bound he
        have he2 := uerr_drop l p ▸ he
        rw [uCnt_next hp he, uCnt_next hd he2, ← ulen_drop, ih l _ _ (by omega), ih (l.drop p) _ _ (by simp; omega), List.drop_drop, Nat.zero_add]
      · rw [uCnt_bad hp he, uCnt_bad hd (by rw [← uerr_drop]; exact he)]
    · rw [uCnt_end hp, uCnt_end (by simp; omega)]
theorem right_nil : isRight [] = true := by
  unfold isRight
  rw [uCnt_end (by simp)]
  rfl
theorem right_bad (hs : s ≠ []) (h : uerr s 0 ≠ 0) : isRight s = false := by
  unfold isRight
  rw [uCnt_bad (List.length_pos_iff.2 hs) h]
  rfl
theorem right_next (hs : s ≠ []) (h : uerr s 0 = 0) : isRight s = isRight (s.drop (ulen s 0)) := by
  unfold isRight
  rw [uCnt_next (List.length_pos_iff.2 hs) h, uCnt_drop _ _ _ _ (Nat.le_refl _), Nat.zero_add]

/-- How a byte is quoted: as itself, or by an escape that says it. -/
def qCheck (y : Nat) : Bool :=
  let x := y.toUInt8
  (decide (qByte x = [x]) && decide (32 ≤ y ∧ y ≠ 34 ∧ y ≠ 92)) || (decide ((qByte x)[0]? = some 92) && (decide (2 ≤ (qByte x).length) && (decide (mEsc (qByte x) 1 = some ([x], (qByte x).length)) && decide (y < 128))))
theorem qCheck_all : ∀ y : Nat, y < 256 → qCheck y = true := by decide +kernel
theorem qByte_or (x : UInt8) : (qByte x = [x] ∧ 32 ≤ x.toNat ∧ x.toNat ≠ 34 ∧ x.toNat ≠ 92) ∨ ((qByte x)[0]? = some 92 ∧ 2 ≤ (qByte x).length ∧ mEsc (qByte x) 1 = some ([x], (qByte x).length) ∧ x.toNat < 128) := by
  have h := qCheck_all x.toNat x.toNat_lt
  unfold qCheck at h
  rw [show x.toNat.toUInt8 = x from by simp] at h
  simp only [Bool.or_eq_true, Bool.and_eq_true, decide_eq_true_eq] at h
  rcases h with h | h
  · exact .inl ⟨h.1, h.2⟩
  · exact .inr ⟨h.1, h.2.1, h.2.2.1, h.2.2.2⟩
theorem qByte_high {x : UInt8} (h : 128 ≤ x.toNat) : qByte x = [x] := by
  rcases qByte_or x with h1 | h1
  · exact h1.1
  · omega
/-- The first bytes are quoted as themselves. -/
def Selfs (s : List UInt8) (u : Nat) : Prop := ∀ j, j < u → ∃ y, s[j]? = some y ∧ qByte y = [y]
theorem Selfs.split : ∀ (u : Nat) {s : List UInt8}, Selfs s u → s.flatMap qByte = s.take u ++ (s.drop u).flatMap qByte ∧ u ≤ s.length := by
  intro u
  induction u with
  | zero => intro s _; simp
  | succ u ih =>
    intro s h
    cases s with
    | nil =>
      obtain ⟨y, hy, _⟩ := h 0 (by omega)
      simp at hy
    | cons x s =>
      obtain ⟨y, hy, hq⟩ := h 0 (by omega)
      simp at hy
      subst hy
      have hs : Selfs s u := fun j hj => by
        obtain ⟨y, hy, hq⟩ := h (j + 1) (by omega)
        exact ⟨y, by simpa using hy, hq⟩
      have := ih hs
      rw [List.flatMap_cons, hq, this.1]
      simp
      exact this.2
theorem Selfs.same {u : Nat} {R : List UInt8} (h : Selfs s u) (hm : m.drop p = s.flatMap qByte ++ R) : Same s 0 m p u ∧ m.drop (p + u) = (s.drop u).flatMap qByte ++ R := by
  obtain ⟨h1, h2⟩ := h.split
  rw [h1, List.append_assoc] at hm
  refine ⟨fun j hj => ?_, ?_⟩
  · have := congrArg (fun z => z[j]?) hm
    simp only [List.getElem?_drop] at this
    rw [this, List.getElem?_append_left (by simp; omega), List.getElem?_take_of_lt hj, Nat.zero_add]
  · have := congrArg (fun z => z.drop u) hm
    simp only [List.drop_drop] at this
    rw [this, List.drop_append_of_le_length (by simp; omega), List.drop_of_length_le (by simp; omega)]
    simp
theorem ustat_zero : ∀ {k : Nat}, ustat l p k = 0 → ∀ i, 1 ≤ i → i ≤ k → ustep l p i = 0 := by
  intro k
  induction k with
  | zero => intro _ i h1 h2; omega
  | succ k ih =>
    intro h i h1 h2
    simp only [ustat] at h
    split at h
    · rename_i h0
      rcases Nat.lt_or_ge i (k + 1) with hi | hi
      · exact ih h0 i h1 (by omega)
      · rwa [show i = k + 1 from by omega]
    · rename_i h0; exact absurd h h0
theorem uerr_cont (h : uerr l p = 0) (i : Nat) (h1 : 1 ≤ i) (h2 : i < ulen l p) : p + i < l.length ∧ ucont (byteAt l (p + i)) = true := by
  unfold uerr at h
  split at h
  · split at h
    · omega
    · have := ustat_zero h i h1 (by unfold ulen at h2; omega)
      unfold ustep at this
      split at this
      · rename_i h3
        split at this
        · rename_i h4
          exact ⟨h3, h4.1⟩
        · omega
      · omega
  · omega
theorem byte_some {i : Nat} (h : i < l.length) : l[i]? = some (byteAt l i) := by
  unfold byteAt
  rw [List.getElem?_eq_getElem h]
  rfl
theorem cont_high {x : UInt8} (h : ucont x = true) : 128 ≤ x.toNat := by
  unfold ucont at h
  have := of_decide_eq_true h
  exact this.1
/-- A character stands there, quoted or not. -/
theorem quote_uerr {x : UInt8} {R : List UInt8} (hx : qByte x = [x]) (hm : m.drop p = (x :: s).flatMap qByte ++ 34 :: R) :
    (uerr m p = 0 ↔ uerr (x :: s) 0 = 0) ∧ (uerr (x :: s) 0 = 0 → Selfs (x :: s) (ulen (x :: s) 0)) ∧ ulen m p = ulen (x :: s) 0 := by
  have hx0 : Selfs (x :: s) 1 := fun j hj => ⟨x, by rw [show j = 0 from by omega]; rfl, hx⟩
  have hs1 := (hx0.same hm).1
  have hl := hs1.ulen (by omega)
  have fwd : uerr (x :: s) 0 = 0 → Selfs (x :: s) (ulen (x :: s) 0) := by
    intro h j hj
    by_cases hj0 : j = 0
    · exact ⟨x, by rw [hj0]; rfl, hx⟩
    · have := uerr_cont h j (by omega) hj
      rw [Nat.zero_add] at this
      exact ⟨_, byte_some this.1, qByte_high (cont_high this.2)⟩
  refine ⟨⟨fun h => ?_, fun h => ?_⟩, fwd, hl.symm⟩
  · have hall : ∀ j, j ≤ ulen m p → Selfs (x :: s) j := by
      intro j
      induction j with
      | zero => intro _ i hi; omega
      | succ j ih =>
        intro hj i hi
        have hsj := ih (by omega)
        rcases Nat.lt_or_ge i j with h' | h'
        · exact hsj i h'
        · obtain rfl : i = j := by omega
          by_cases hi0 : i = 0
          · exact ⟨x, by rw [hi0]; rfl, hx⟩
          · have hc := uerr_cont h i (by omega) (by omega)
            have hh := cont_high hc.2
            have hd := (hsj.same hm).2
            have h0 : (m.drop (p + i))[0]? = some (byteAt m (p + i)) := by
              rw [List.getElem?_drop]
              exact byte_some hc.1
            rw [hd] at h0
            cases hds : (x :: s).drop i with
            | nil =>
              rw [hds] at h0
              simp at h0
              rw [← h0] at hh
              simp at hh
            | cons y t =>
              rw [hds, List.flatMap_cons, List.append_assoc] at h0
              have hy : (x :: s)[i]? = some y := by
                have := congrArg (fun z => z[0]?) hds
                simp only [List.getElem?_drop] at this
                simpa using this
              refine ⟨y, hy, ?_⟩
              rcases qByte_or y with h1 | h1
              · exact h1.1
              · rw [List.getElem?_append_left (by omega), h1.1] at h0
                simp at h0
                rw [← h0] at hh
                simp at hh
    have hsu := ((hall _ (Nat.le_refl _)).same hm).1
    have hpos := (ulen_bound h).1
    rw [hsu.uerr hpos (by omega)]
    exact h
  · have hsu := ((fwd h).same hm).1
    have hpos := (ulen_bound h).1
    rw [← hsu.uerr hpos (Nat.le_refl _)]
    exact h
/-- What is read of a quoted text. -/
def qRead (s T : List UInt8) (p : Nat) : Option (List UInt8 × Nat) := if isRight s = true then some (T ++ s, p + (s.flatMap qByte).length + 1) else none
theorem text_quote : ∀ (n : Nat) {s : List UInt8}, s.length ≤ n → ∀ {m : List UInt8} {p : Nat} {T R : List UInt8}, m.drop p = s.flatMap qByte ++ 34 :: R → mText m p T = qRead s T p := by
  intro n
  induction n with
  | zero =>
    intro s hn m p T R hm
    obtain rfl : s = [] := List.eq_nil_of_length_eq_zero (by omega)
    have hp : p < m.length := by
      rcases Nat.lt_or_ge p m.length with h | h
      · exact h
      · rw [List.drop_of_length_le h] at hm; simp at hm
    have hb : byteAt m p = 34 := by
      have := congrArg (fun z => z[0]?) hm
      simp at this
      unfold byteAt
      rw [this]
      rfl
    rw [mText, dif_pos hp, hb]
    unfold qRead
    rw [right_nil]
    simp
  | succ n ih =>
    intro s hn m p T R hm
    have hp : p < m.length := by
      rcases Nat.lt_or_ge p m.length with h | h
      · exact h
      · rw [List.drop_of_length_le h] at hm
        have := congrArg List.length hm
        simp at this
    cases s with
    | nil => exact ih (by simp) hm
    | cons x s =>
      have h0 : m[p]? = ((qByte x) ++ (s.flatMap qByte ++ 34 :: R))[0]? := by
        have := congrArg (fun z => z[0]?) hm
        simp only [List.getElem?_drop, List.flatMap_cons, List.append_assoc] at this
        exact this
      rcases qByte_or x with ⟨hq, h32, h34, h92⟩ | ⟨hq0, hq2, hqe, hx⟩
      · have hb : byteAt m p = x := by
          rw [hq] at h0
          unfold byteAt
          rw [h0]
          rfl
        obtain ⟨k1, k2, k3⟩ := quote_uerr hq hm
        rw [mText, dif_pos hp, hb, if_neg (by omega), if_neg h34, if_neg h92]
        by_cases he : uerr (x :: s) 0 = 0
        · rw [if_pos (k1.2 he)]
          have hub := ulen_bound he
          obtain ⟨hsm, hdr⟩ := (k2 he).same hm
          obtain ⟨hsp, hle⟩ := (k2 he).split
          rw [dif_pos (by rw [k3]; exact hub.1), k3, ← hsm.take, ih (s := (x :: s).drop (ulen (x :: s) 0)) (by simp at hn ⊢; omega) hdr]
          unfold qRead
          rw [← right_next (by simp) he]
          have e1 : T ++ ((x :: s).drop 0).take (ulen (x :: s) 0) ++ (x :: s).drop (ulen (x :: s) 0) = T ++ x :: s := by
            rw [List.append_assoc, List.drop_zero, List.take_append_drop]
          have e2 : p + ulen (x :: s) 0 + (((x :: s).drop (ulen (x :: s) 0)).flatMap qByte).length + 1 = p + ((x :: s).flatMap qByte).length + 1 := by
            rw [hsp, List.length_append, List.length_take]
            omega
          rw [e1, e2]
        · rw [if_neg (fun h => he (k1.1 h))]
          unfold qRead
          rw [right_bad (by simp) he]
          simp
      · have hb : byteAt m p = 92 := by
          rw [List.getElem?_append_left (by omega), hq0] at h0
          unfold byteAt
          rw [h0]
          rfl
        have hsame : Same (qByte x) 0 m p (qByte x).length := by
          intro j hj
          have := congrArg (fun z => z[j]?) hm
          simp only [List.getElem?_drop, List.flatMap_cons, List.append_assoc] at this
          rw [this, List.getElem?_append_left hj, Nat.zero_add]
        have hesc := (hsame.sub 1 ((qByte x).length - 1) (by omega)).esc hqe (by omega)
        rw [show p + 1 + ((qByte x).length - (0 + 1)) = p + (qByte x).length from by omega] at hesc
        have hu1 : ulen (x :: s) 0 = 1 := by
          unfold ulen byteAt ufirst
          simp
          omega
        have hue : uerr (x :: s) 0 = 0 := by
          unfold uerr
          rw [if_pos (by simp), show ufirst (byteAt (x :: s) 0) = 1 from hu1]
          rfl
        rw [mText, dif_pos hp, hb, if_neg (by decide), if_neg (by decide), if_pos (by decide), hesc]
        simp only []
        rw [dif_pos (by omega), ih (s := s) (by simp at hn; omega) (m := m) (p := p + (qByte x).length) (R := R) (by
          have := congrArg (fun z => z.drop (qByte x).length) hm
          simp only [List.drop_drop, List.flatMap_cons, List.append_assoc] at this
          rw [this, List.drop_append_of_le_length (Nat.le_refl _), List.drop_of_length_le (Nat.le_refl _)]
          simp)]
        unfold qRead
        rw [right_next (by simp) hue, hu1, List.drop_one, List.tail_cons, List.flatMap_cons, List.length_append]
        rw [List.append_assoc, List.singleton_append, show p + (qByte x).length + (s.flatMap qByte).length = p + ((qByte x).length + (s.flatMap qByte).length) from by omega]
/-- Take at a quoted text, whatever stands behind it. -/
theorem take_quote (s R : List UInt8) : mTakeN (mQuote s ++ R) 0 = if isRight s = true then ⟨0, 10, 0, s, 0, (mQuote s).length⟩ else ⟨20, 0, 0, [], 0, 0⟩ := by
  have hm : mQuote s ++ R = 34 :: (s.flatMap qByte ++ 34 :: R) := by unfold mQuote; simp
  have hb : byteAt (mQuote s ++ R) 0 = 34 := by rw [hm]; rfl
  have hw : wEnd (mQuote s ++ R) 0 = 0 := by
    unfold wEnd
    rw [tw_unique (n := 0) (fun k hk => absurd hk (by omega)) (fun _ => by rw [Nat.add_zero, hb]; rfl)]
  have hl : (mQuote s ++ R).length ≠ 0 := by rw [hm]; simp
  have ht := text_quote s.length (Nat.le_refl _) (m := mQuote s ++ R) (p := 1) (T := []) (R := R) (by rw [hm]; rfl)
  have hwd : mWord (mQuote s ++ R) 0 = if isRight s = true then ⟨0, 10, 0, s, (mQuote s).length⟩ else ⟨20, 0, 0, [], 0⟩ := by
    unfold mWord
    rw [hb, if_neg (by decide), if_pos (by decide), ht]
    unfold qRead
    by_cases h : isRight s = true
    · rw [if_pos h, if_pos h]
      simp only [List.nil_append]
      congr 1
      unfold mQuote
      simp
      omega
    · rw [if_neg h, if_neg h]
  unfold mTakeN
  rw [hw, if_neg (fun h => hl h.symm), hwd]
  by_cases h : isRight s = true
  · simp [h]
  · simp [h]

end Go.Proofs.Ytjdeohgedlhbcaa
