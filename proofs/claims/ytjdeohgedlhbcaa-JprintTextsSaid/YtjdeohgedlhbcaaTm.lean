/- What is parsed may be, and its text is no longer than the bytes were: trees. -/
import Derived.Test.YtjdeohgedlhbcaaTl
namespace Go.Proofs.Ytjdeohgedlhbcaa
open Go.RowKit
set_option linter.unusedVariables false
set_option linter.unusedSimpArgs false

theorem compact_nodup {ks : List (List UInt8)} (h : ks.Nodup) : (Lib.compact (srt ks)).length = ks.length := by
  have hperm : (srt ks).Perm ks := List.mergeSort_perm ks _
  have hlen := srt_len ks
  have hnd := hperm.nodup_iff.2 h
  generalize srt ks = L at hperm hlen hnd ⊢
  have hk : ∀ j, j < L.length → Lib.keeps L.toArray j = true := by
    intro j hj
    unfold Lib.keeps
    by_cases h0 : j = 0
    · simp [h0]
    · have g1 : L.toArray[j]! = L[j] := by simp [hj]
      have g2 : L.toArray[j - 1]! = L[j - 1]'(by omega) := by simp [show j - 1 < L.length by omega]
      rw [g1, g2]
      have := List.pairwise_iff_getElem.1 (List.nodup_iff_pairwise_ne.1 hnd) (j - 1) j (by omega) hj (by omega)
      exact decide_eq_true (.inr fun e => this e.symm)
  unfold Lib.compact Lib.compactUpTo
  rw [List.length_map, List.length_filter_eq_length_iff.2 fun j hj => hk j (List.mem_range.1 hj), List.length_range, hlen]

section
variable {l : List UInt8}
def klen (ks : List (List UInt8)) (xs : List JT) : Nat := (ks.map fun k => (mQuote k).length + 1).sum + (xs.map fun x => (tText x).length + 1).sum
theorem klen_snoc (ks : List (List UInt8)) (xs : List JT) (k : List UInt8) (x : JT) : klen (ks ++ [k]) (xs ++ [x]) = klen ks xs + ((mQuote k).length + 1) + ((tText x).length + 1) := by
  unfold klen
  simp
  omega
theorem klen_snoc0 (xs : List JT) (x : JT) : klen [] (xs ++ [x]) = klen [] xs + ((tText x).length + 1) := by
  unfold klen
  simp
theorem kids_len (obj : Bool) (ks : List (List UInt8)) : ∀ (xs : List JT) (i : Nat), (obj = true → ks.length = i + xs.length) →
    (tKids (koOf obj ks) i xs).length + (if i = 0 ∧ xs ≠ [] then 1 else 0) = ((if obj = true then ks.drop i else []).map fun k => (mQuote k).length + 1).sum + (xs.map fun x => (tText x).length + 1).sum
  | [], i, h => by
    rw [tKids]
    cases obj with
    | false => simp
    | true => have := h rfl; simp at this; simp [List.drop_of_length_le (show ks.length ≤ i by omega)]
  | x :: xs, i, h => by
    rw [tKids]
    have ih := kids_len obj ks xs (i + 1) (fun ho => by have := h ho; simp at this; omega)
    rw [if_neg (by omega)] at ih
    cases obj with
    | false =>
      simp only [Bool.false_eq_true, if_false, List.map_nil, List.sum_nil, Nat.zero_add, Nat.add_zero] at ih
      have hk : tkey (koOf false ks) i = [] := rfl
      simp only [hk, List.length_append, List.length_nil, Bool.false_eq_true, if_false, List.map_nil, List.sum_nil, Nat.zero_add, List.map_cons, List.sum_cons, ih]
      by_cases h0 : i = 0
      · simp [h0]; omega
      · simp [h0, show 0 < i by omega]; omega
    | true =>
      have hl := h rfl
      simp at hl
      have hd : ks.drop i = ks[i]'(by omega) :: ks.drop (i + 1) := List.drop_eq_getElem_cons (by omega)
      have hk : tkey (koOf true ks) i = mQuote (ks[i]'(by omega)) ++ [58] := by
        simp only [koOf, if_true, tkey]
        rw [List.getElem?_eq_getElem (by omega)]
        rfl
      simp only [if_true, Nat.add_zero] at ih
      rw [hd]
      simp only [hk, List.length_append, List.length_cons, List.length_nil, if_true, List.map_cons, List.sum_cons, ih]
      by_cases h0 : i = 0
      · simp [h0]; omega
      · simp [h0, show 0 < i by omega]; omega
theorem text_len (obj : Bool) {ks : List (List UInt8)} {xs : List JT} (h1 : obj = true → ks.length = xs.length) (h2 : obj = false → ks = []) (hx : xs ≠ []) : (tText (.mk (objK obj) 0 [] ks xs)).length = 1 + klen ks xs := by
  have := kids_len obj ks xs 0 (fun ho => by rw [h1 ho]; omega)
  rw [if_pos ⟨rfl, hx⟩] at this
  rw [tText]
  unfold klen
  cases obj with
  | false =>
    rw [h2 rfl] at this ⊢
    simp only [objK, koOf, Bool.false_eq_true, if_false, List.map_nil, List.sum_nil, Nat.zero_add] at this ⊢
    rw [if_neg (by decide), if_neg (by decide), if_neg (by decide), if_neg (by decide), if_pos (by decide)]
    simp
    omega
  | true =>
    simp only [objK, koOf, if_true, List.drop_zero] at this ⊢
    rw [if_neg (by decide), if_neg (by decide), if_neg (by decide), if_neg (by decide), if_neg (by decide)]
    simp
    omega
def FOk (l : List UInt8) (e : Nat) (f : MT → JR) : Prop := ∀ p x q, p ≤ l.length → f (mTakeN l p) = .ok x q → p + (tText x).length ≤ q ∧ x.inr ∧ jright e x = true
theorem nx_le {p : Nat} (hp : p ≤ l.length) (hk : (mTakeN l p).k ≠ 0) : (mTakeN l p).nx ≤ l.length ∧ p ≤ (mTakeN l p).nx := by
  rcases take_kinds hp with h | h
  · exact ⟨h.2.2.2.2.1, h.2.2.2.1⟩
  · exact absurd h.2 hk
theorem head_ok {e : Nat} {f : MT → JR} (hf : Reads l f) (hF : FOk l e f) {obj : Bool} {p : Nat} {ks : List (List UInt8)} {x : JT} {q : Nat} (hp : p ≤ l.length) (h : mHead l f obj p ks = .ok x q) :
    q ≤ l.length ∧ x.inr ∧ jright e x = true ∧ (obj = false → p + (tText x).length ≤ q) ∧
    (obj = true → ∃ key, mKeys l obj p ks = ks ++ [key] ∧ key ∉ ks ∧ isRight key = true ∧ p + (mQuote key).length + 1 + (tText x).length ≤ q) := by
  have hw := head_within hf (obj := obj) hp ks
  rw [h] at hw
  have hq : q ≤ l.length := hw.2
  unfold mHead at h
  cases obj with
  | false =>
    rw [if_neg (by simp)] at h
    obtain ⟨h1, h2, h3⟩ := hF p x q hp h
    exact ⟨hq, h2, h3, fun _ => h1, fun ho => by simp at ho⟩
  | true =>
    rw [if_pos rfl] at h
    split at h
    · simp at h
    · rename_i k10
      have k10 : (mTakeN l p).k = 10 := by omega
      split at h
      · simp at h
      · rename_i hn
        split at h
        · simp at h
        · rename_i k5
          have k5 : (mTakeN l (mTakeN l p).nx).k = 5 := by omega
          have b1 := nx_le hp (by omega)
          have b2 := nx_le b1.1 (by omega)
          have w1 := (word_ok hp).text k10
          have w2 := (word_ok b1.1).sign (by omega) (by omega)
          obtain ⟨h1, h2, h3⟩ := hF _ x q b2.1 h
          refine ⟨hq, h2, h3, fun ho => by simp at ho, fun _ => ⟨(mTakeN l p).s, ?_, hn, w1.2, by omega⟩⟩
          unfold mKeys
          rw [if_pos rfl]
structure KidsOk (e : Nat) (obj : Bool) (ks : List (List UInt8)) (xs : List JT) : Prop where
  none : obj = false → ks = []
  len : obj = true → ks.length = xs.length
  right : ∀ k ∈ ks, isRight k = true
  nodup : ks.Nodup
  kids : ∀ x ∈ xs, x.inr ∧ jright (e + 1) x = true
theorem kids_right {e : Nat} {obj : Bool} {ks : List (List UInt8)} {xs : List JT} (h : KidsOk e obj ks xs) (he : e < 32) : (JT.mk (objK obj) 0 [] ks xs).inr ∧ jright e (.mk (objK obj) 0 [] ks xs) = true := by
  refine ⟨⟨by decide, inrL_of fun x hx => (h.kids x hx).1⟩, ?_⟩
  have hr : jrights (e + 1) xs = true := by
    have := h.kids
    clear h
    induction xs with
    | nil => rfl
    | cons x xs ih => rw [jrights, (this x (by simp)).2, ih fun y hy => this y (by simp [hy])]; rfl
  have hb : jbare (.mk (objK obj) 0 [] ks xs) = true := by rw [jbare]; cases obj <;> simp [objK]
  have hk : jkeyed (.mk (objK obj) 0 [] ks xs) = true := by
    rw [jkeyed]
    cases obj with
    | false => rw [h.none rfl]; simp [objK]
    | true =>
      simp only [objK, if_true]
      rw [if_neg (by decide), h.len rfl, ← h.len rfl, compact_nodup h.nodup]
      simp
      exact h.right
  rw [jright, hb, hk, hr]
  simp
  omega
theorem loopT_ok {e : Nat} {f : MT → JR} (hf : Reads l f) (hF : FOk l (e + 1) f) (obj : Bool) (P : Nat) : ∀ (n p : Nat) (ks : List (List UInt8)) (xs : List JT) (t : JT) (q : Nat), l.length - p ≤ n → p ≤ l.length →
    KidsOk e obj ks xs → P + klen ks xs ≤ p → mLoop l f obj p ks xs = .ok t q → ∃ ks' xs', t = .mk (objK obj) 0 [] ks' xs' ∧ KidsOk e obj ks' xs' ∧ xs' ≠ [] ∧ P + klen ks' xs' ≤ q := by
  intro n
  induction n with
  | zero =>
    intro p ks xs t q hn hp hK hP h
    rw [mLoop] at h
    cases hh : mHead l f obj p ks with
    | bad e => rw [hh] at h; simp at h
    | ok x q' =>
      rw [hh] at h
      simp only [] at h
      have hw := head_within hf (obj := obj) hp ks
      rw [hh] at hw
      obtain ⟨a1, a2, a3, a4, a5⟩ := head_ok hf hF hp hh
      obtain ⟨c, r, hcr⟩ := text_ne x
      have : 1 ≤ (tText x).length := by rw [hcr]; simp
      cases obj with
      | false => have := a4 rfl; omega
      | true => obtain ⟨_, _, _, _, h5⟩ := a5 rfl; omega
  | succ n ih =>
    intro p ks xs t q hn hp hK hP h
    rw [mLoop] at h
    cases hh : mHead l f obj p ks with
    | bad e => rw [hh] at h; simp at h
    | ok x q' =>
      rw [hh] at h
      simp only [] at h
      obtain ⟨a1, a2, a3, a4, a5⟩ := head_ok hf hF hp hh
      have key : KidsOk e obj (mKeys l obj p ks) (xs ++ [x]) ∧ P + klen (mKeys l obj p ks) (xs ++ [x]) ≤ q' + 1 := by
        have hkx : ∀ y ∈ xs ++ [x], y.inr ∧ jright (e + 1) y = true := fun y hy => by
          rcases List.mem_append.1 hy with hy | hy
          · exact hK.kids y hy
          · obtain rfl := List.mem_singleton.1 hy; exact ⟨a2, a3⟩
        cases obj with
        | false =>
          have hm : mKeys l false p ks = [] := by unfold mKeys; rw [if_neg (by simp)]; exact hK.none rfl
          rw [hm]
          refine ⟨⟨fun _ => rfl, fun ho => by simp at ho, by simp, by simp, hkx⟩, ?_⟩
          rw [hK.none rfl] at hP
          rw [klen_snoc0]
          have := a4 rfl
          omega
        | true =>
          obtain ⟨key, h1, h2, h3, h4⟩ := a5 rfl
          rw [h1]
          refine ⟨⟨fun ho => by simp at ho, fun _ => by simp [hK.len rfl], fun y hy => ?_, ?_, hkx⟩, ?_⟩
          · rcases List.mem_append.1 hy with hy | hy
            · exact hK.right y hy
            · obtain rfl := List.mem_singleton.1 hy; exact h3
          · rw [List.nodup_append]
            exact ⟨hK.nodup, by simp, fun a ha b hb e => by simp at hb; subst hb; subst e; exact h2 ha⟩
          · rw [klen_snoc]; omega
      split at h
      · rename_i hk
        simp at h
        obtain ⟨rfl, rfl⟩ := h
        have hkk : (mTakeN l q').k = 2 ∨ (mTakeN l q').k = 4 := by rw [hk]; cases obj <;> simp [endK]
        have := (word_ok a1).sign (by omega) (by omega)
        exact ⟨_, _, rfl, key.1, by simp, by omega⟩
      · split at h
        · simp at h
        · rename_i hk
          have := (word_ok a1).sign (by omega) (by omega)
          split at h
          · rename_i hq
            exact ih _ _ _ _ _ (by omega) hq.2 key.1 (by omega) h
          · simp at h
theorem items_ok {e : Nat} (he : e < 32) {f : MT → JR} (hf : Reads l f) (hF : FOk l (e + 1) f) {obj : Bool} {p : Nat} {t : JT} {q : Nat} (hp : p ≤ l.length) (h : mItems l f obj p = .ok t q) : p + (tText t).length ≤ q + 1 ∧ t.inr ∧ jright e t = true := by
  unfold mItems at h
  split at h
  · rename_i hk
    simp at h
    obtain ⟨rfl, rfl⟩ := h
    have hkk : (mTakeN l p).k = 2 ∨ (mTakeN l p).k = 4 := by rw [hk]; cases obj <;> simp [endK]
    have := (word_ok hp).sign (by omega) (by omega)
    have hK : KidsOk e obj [] [] := ⟨fun _ => rfl, fun _ => rfl, by simp, by simp, by simp⟩
    refine ⟨?_, kids_right hK he⟩
    rw [tText]
    cases obj <;> simp [objK, tKids] <;> omega
  · obtain ⟨ks', xs', rfl, hK, hne, hl⟩ := loopT_ok hf hF obj p _ _ _ _ _ _ (Nat.le_refl _) hp ⟨fun _ => rfl, fun _ => rfl, by simp, by simp, by simp⟩ (by simp [klen]) h
    refine ⟨?_, kids_right hK he⟩
    rw [text_len obj hK.len hK.none hne]
    omega
theorem leaf_right {e : Nat} {k n : Int} {s : List UInt8} (h : jbare (.mk k n s [] []) = true) (h5 : k ≠ 5) (h6 : k ≠ 6) : jright e (.mk k n s [] []) = true := by
  rw [jright, h, jkeyed, if_pos h6]
  simp [h5, h6, jrights]
theorem val_ok : ∀ d e, e + d = 32 → FOk l e (mVal l d) := by
  intro d
  induction d with
  | zero =>
    intro e hde p t q hp h
    have hW := word_ok hp
    rw [mVal] at h
    split at h
    · rename_i hk
      simp at h; obtain ⟨rfl, rfl⟩ := h
      exact ⟨by rw [tText]; simpa using hW.name hk, ⟨by decide, trivial⟩, leaf_right (by decide) (by decide) (by decide)⟩
    · split at h
      · rename_i hk
        simp at h; obtain ⟨rfl, rfl⟩ := h
        rcases hW.truth hk with ⟨h1, h2⟩ | ⟨h1, h2⟩
        · rw [h1]; exact ⟨by rw [tText]; simpa using h2, ⟨by decide, trivial⟩, leaf_right (by decide) (by decide) (by decide)⟩
        · rw [h1]; exact ⟨by rw [tText]; simpa using h2, ⟨by decide, trivial⟩, leaf_right (by decide) (by decide) (by decide)⟩
      · split at h
        · rename_i hk
          simp at h; obtain ⟨rfl, rfl⟩ := h
          obtain ⟨h1, h2⟩ := hW.numb hk
          exact ⟨by rw [tText]; simpa using h1, ⟨h2, trivial⟩, leaf_right (by simp [jbare]) (by decide) (by decide)⟩
        · split at h
          · rename_i hk
            simp at h; obtain ⟨rfl, rfl⟩ := h
            obtain ⟨h1, h2⟩ := hW.text hk
            exact ⟨by rw [tText]; simpa using h1, ⟨by decide, trivial⟩, leaf_right (by simp [jbare, h2]) (by decide) (by decide)⟩
          · split at h <;> simp at h
  | succ d ih =>
    intro e hde p t q hp h
    have hW := word_ok hp
    rw [mVal] at h
    split at h
    · rename_i hk
      simp at h; obtain ⟨rfl, rfl⟩ := h
      exact ⟨by rw [tText]; simpa using hW.name hk, ⟨by decide, trivial⟩, leaf_right (by decide) (by decide) (by decide)⟩
    · split at h
      · rename_i hk
        simp at h; obtain ⟨rfl, rfl⟩ := h
        rcases hW.truth hk with ⟨h1, h2⟩ | ⟨h1, h2⟩
        · rw [h1]; exact ⟨by rw [tText]; simpa using h2, ⟨by decide, trivial⟩, leaf_right (by decide) (by decide) (by decide)⟩
        · rw [h1]; exact ⟨by rw [tText]; simpa using h2, ⟨by decide, trivial⟩, leaf_right (by decide) (by decide) (by decide)⟩
      · split at h
        · rename_i hk
          simp at h; obtain ⟨rfl, rfl⟩ := h
          obtain ⟨h1, h2⟩ := hW.numb hk
          exact ⟨by rw [tText]; simpa using h1, ⟨h2, trivial⟩, leaf_right (by simp [jbare]) (by decide) (by decide)⟩
        · split at h
          · rename_i hk
            simp at h; obtain ⟨rfl, rfl⟩ := h
            obtain ⟨h1, h2⟩ := hW.text hk
            exact ⟨by rw [tText]; simpa using h1, ⟨by decide, trivial⟩, leaf_right (by simp [jbare, h2]) (by decide) (by decide)⟩
          · split at h
            · rename_i hk
              have hs := hW.sign (by omega) (by omega)
              obtain ⟨h1, h2⟩ := items_ok (e := e) (by omega) (reads_val d) (ih (e + 1) (by omega)) (nx_le hp (by omega)).1 h
              exact ⟨by omega, h2⟩
            · split at h
              · rename_i hk
                have hs := hW.sign (by omega) (by omega)
                obtain ⟨h1, h2⟩ := items_ok (e := e) (by omega) (reads_val d) (ih (e + 1) (by omega)) (nx_le hp (by omega)).1 h
                exact ⟨by omega, h2⟩
              · simp at h
/-- What is parsed may be; its text is no longer than the bytes were. -/
theorem parse_ok {t : JT} {q : Nat} (h : mParse l = .ok t q) : jR t = true ∧ t.inr ∧ (tText t).length ≤ l.length := by
  unfold mParse at h
  cases hv : mVal l 32 (mTakeN l 0) with
  | bad e => rw [hv] at h; simp at h
  | ok t' q' =>
    rw [hv] at h
    simp only [] at h
    split at h
    · simp at h
      obtain ⟨rfl, rfl⟩ := h
      obtain ⟨h1, h2, h3⟩ := val_ok 32 0 rfl 0 _ _ (Nat.zero_le _) hv
      have hw := item_within (l := l) (reads_val 32) (Nat.zero_le l.length)
      rw [hv] at hw
      have hq : q' ≤ l.length := hw.2
      exact ⟨h3, h2, by omega⟩
    · simp at h
end

end Go.Proofs.Ytjdeohgedlhbcaa
