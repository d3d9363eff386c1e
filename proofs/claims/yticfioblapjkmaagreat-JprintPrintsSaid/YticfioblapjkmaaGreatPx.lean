/- A printed tree's text, and how long it is: plain. -/
import Derived.Test.YticfioblapjkmaaGreatPp
import Derived.Test.YticfioblapjkmaaGreatGr
namespace Go.Proofs.YticfioblapjkmaaGreat
open Go.RowKit
set_option linter.unusedVariables false
set_option linter.unusedSimpArgs false

def tkey (ko : Option (List (List UInt8))) (i : Nat) : List UInt8 := match ko with | none => [] | some ks => mQuote ((ks[i]?).getD []) ++ [58]
mutual
/-- A tree's text. -/
def tText : JT → List UInt8
  | .mk k n s ks xs => if k = 1 then [110, 117, 108, 108] else if k = 2 then (if n = 1 then [116, 114, 117, 101] else [102, 97, 108, 115, 101]) else if k = 3 then mNumb n else if k = 4 then mQuote s
    else if k = 5 then [91] ++ tKids none 0 xs ++ [93] else [123] ++ tKids (some ks) 0 xs ++ [125]
def tKids (ko : Option (List (List UInt8))) (i : Nat) : List JT → List UInt8
  | [] => []
  | x :: xs => (if 0 < i then [44] else []) ++ (tkey ko i ++ (tText x ++ tKids ko (i + 1) xs))
end
/-- What putting T makes of the printer. -/
def Puts (p : PS) (T : List UInt8) (q : PS) : Prop := (p.ov = true → q.ov = true) ∧ (p.ov = false → p.out.length ≤ 20000 → if p.out.length + T.length ≤ 20000 then q.ov = false ∧ q.out = p.out ++ T else q.ov = true)
theorem Puts.put (p : PS) (s : List UInt8) : Puts p s (p.put s) := by
  refine ⟨fun h => ?_, fun h hl => ?_⟩
  · unfold PS.put; rw [if_pos (.inl h)]
  · by_cases h2 : p.out.length + s.length ≤ 20000
    · rw [if_pos h2]
      unfold PS.put
      rw [if_neg (by rw [h]; simp; omega)]
      exact ⟨rfl, rfl⟩
    · rw [if_neg h2]
      unfold PS.put
      rw [if_pos (.inr (by omega))]
theorem Puts.trans {p q r : PS} {T U : List UInt8} (h1 : Puts p T q) (h2 : Puts q U r) : Puts p (T ++ U) r := by
  refine ⟨fun h => h2.1 (h1.1 h), fun h hl => ?_⟩
  have h3 := h1.2 h hl
  by_cases hT : p.out.length + T.length ≤ 20000
  · rw [if_pos hT] at h3
    have h4 := h2.2 h3.1 (by rw [h3.2, List.length_append]; exact hT)
    rw [h3.2, List.length_append] at h4
    by_cases hU : p.out.length + (T ++ U).length ≤ 20000
    · rw [if_pos hU]
      rw [List.length_append] at hU
      rw [if_pos (by omega)] at h4
      exact ⟨h4.1, by rw [h4.2, List.append_assoc]⟩
    · rw [if_neg hU]
      rw [List.length_append] at hU
      rw [if_neg (by omega)] at h4
      exact h4
  · rw [if_neg hT] at h3
    rw [if_neg (by rw [List.length_append]; omega)]
    exact h2.1 h3
theorem Puts.nil (p : PS) : Puts p [] p := ⟨fun h => h, fun h hl => by rw [if_pos (by simpa using hl)]; exact ⟨h, by simp⟩⟩
theorem puts_comma (p : PS) (i : Nat) : Puts p (if 0 < i then [44] else []) (pcomma p i) := by
  unfold pcomma
  split
  · exact Puts.put _ _
  · exact Puts.nil _
theorem puts_key (ko : Option (List (List UInt8))) (p : PS) (i : Nat) : Puts p (tkey ko i) (pkey ko p i) := by
  cases ko with
  | none => exact Puts.nil _
  | some ks => exact Puts.put _ _
mutual
theorem puts_tree (p : PS) : ∀ t : JT, Puts p (tText t) (pTree p t)
  | .mk k n s ks xs => by
    rw [tText, pTree]
    repeat' split
    all_goals first
      | exact Puts.put _ _
      | exact ((Puts.put _ _).trans (puts_kids none _ 0 xs)).trans (Puts.put _ _)
      | exact ((Puts.put _ _).trans (puts_kids (some ks) _ 0 xs)).trans (Puts.put _ _)
theorem puts_kids (ko : Option (List (List UInt8))) (p : PS) (i : Nat) : ∀ xs : List JT, Puts p (tKids ko i xs) (pKids ko p i xs)
  | [] => by rw [tKids, pKids]; exact Puts.nil _
  | x :: xs => by
    rw [tKids, pKids]
    exact (puts_comma p i).trans ((puts_key ko _ i).trans ((puts_tree _ x).trans (puts_kids ko _ (i + 1) xs)))
end
/-- Print, by the text. -/
theorem print_text (t : JT) : mPrint t = if jR t = true then (if (tText t).length ≤ 20000 then (tText t, 0) else ([], 3)) else ([], 2) := by
  unfold mPrint
  by_cases hr : jR t = true
  · rw [if_pos hr, if_pos hr]
    have h := (puts_tree PS0 t).2 rfl (by simp [PS0])
    simp only [PS0, List.length_nil, Nat.zero_add, List.nil_append] at h
    by_cases hl : (tText t).length ≤ 20000
    · rw [if_pos hl] at h ⊢
      have h1 : ¬ (pTree PS0 t).ov = true := by
        rw [show (pTree PS0 t).ov = false from h.1]; simp
      rw [if_neg h1]
      rw [show (pTree PS0 t).out = tText t from h.2]
    · rw [if_neg hl] at h ⊢
      rw [if_pos (show (pTree PS0 t).ov = true from h)]
  · rw [if_neg hr, if_neg hr]

end Go.Proofs.YticfioblapjkmaaGreat

namespace Go.Proofs.YticfioblapjkmaaGreat
open Go.RowKit
set_option linter.unusedVariables false
set_option linter.unusedSimpArgs false

/-- A tree's parts and bytes. -/
def kbulk (ks : List (List UInt8)) : Nat := (ks.map fun y => 1 + y.length).sum
theorem bkeys_sum : ∀ (ys : List (List UInt8)) (n m : Nat), bkeys n ys = some m → m ≤ 2000 → m = n + kbulk ys ∧ ∀ y ∈ ys, y.length ≤ 2000
  | [], n, m, h, hm => by rw [bkeys] at h; obtain rfl := Option.some.inj h; exact ⟨by simp [kbulk], by simp⟩
  | y :: ys, n, m, h, hm => by
    rw [bkeys] at h
    split at h
    · split at h
      · simp at h
      · obtain ⟨h1, h2⟩ := bkeys_sum ys _ m h hm
        refine ⟨by unfold kbulk at h1 ⊢; simp; omega, fun z hz => ?_⟩
        rcases List.mem_cons.1 hz with rfl | hz
        · omega
        · exact h2 z hz
    · obtain rfl := Option.some.inj h
      omega
theorem kbulk_at {ks : List (List UInt8)} {i : Nat} (h : i < ks.length) : kbulk (ks.drop i) = 1 + (ks[i]).length + kbulk (ks.drop (i + 1)) := by
  rw [List.drop_eq_getElem_cons h]
  unfold kbulk
  rw [List.map_cons, List.sum_cons]
mutual
theorem text_short (d : Nat) : ∀ t : JT, t.inr → tbulk d t ≤ 2000 → (tText t).length + 4 ≤ 32 * tbulk d t
  | .mk k n s ks xs => fun hi h => by
    rw [tbulk] at h ⊢
    split at h
    · omega
    · rename_i h1
      rw [if_neg h1]
      split at h
      · omega
      · rename_i m hm
        have h2 := bitems_ge d xs m
        obtain ⟨h3, h4⟩ := bkeys_sum ks _ m hm (by omega)
        have hn := numb_len n hi.1.1 hi.1.2
        have hq := quote_len s
        have hN := kids_short d none [] 0 m xs hi.2 h (by simp)
        have hS := kids_short d (some ks) ks 0 m xs hi.2 h (by simp)
        rw [List.drop_zero] at hS
        simp only [List.drop_nil] at hN
        rw [tText]
        have e0 : kbulk [] = 0 := rfl
        rw [e0] at hN
        repeat' split
        all_goals (try simp only [List.length_append, List.length_cons, List.length_nil])
        all_goals omega
theorem kids_short (d : Nat) (ko : Option (List (List UInt8))) (ks : List (List UInt8)) (i n : Nat) : ∀ xs : List JT, JT.inrL xs → bitems d n xs ≤ 2000 → (ko = some ks ∨ (ko = none ∧ ks = [])) → (tKids ko i xs).length + 32 * n ≤ 32 * bitems d n xs + 8 * kbulk (ks.drop i)
  | [], _, h, _ => by rw [tKids, bitems]; simp
  | x :: xs, hi, h, hk => by
    rw [bitems] at h ⊢
    split at h
    · rename_i hn
      rw [if_pos hn]
      have h1 := bitems_ge d xs (n + tbulk (d + 1) x)
      have h2 := text_short (d + 1) x hi.1 (by omega)
      have h3 := kids_short d ko ks (i + 1) (n + tbulk (d + 1) x) xs hi.2 h hk
      rw [tKids]
      have h4 : (tkey ko i).length + 8 * kbulk (ks.drop (i + 1)) ≤ 8 * kbulk (ks.drop i) + 3 := by
        rcases hk with rfl | ⟨rfl, rfl⟩
        · by_cases hl : i < ks.length
          · rw [kbulk_at hl]
            have := quote_len ks[i]
            simp only [tkey, List.getElem?_eq_getElem hl, Option.getD_some, List.length_append, List.length_cons, List.length_nil]
            omega
          · rw [List.drop_of_length_le (by omega), List.drop_of_length_le (by omega)]
            simp only [tkey, List.getElem?_eq_none (show ks.length ≤ i by omega), Option.getD_none]
            decide
        · simp [tkey]
      have h5 : (if 0 < i then ([44] : List UInt8) else []).length ≤ 1 := by split <;> simp
      simp only [List.length_append, List.length_cons]
      omega
    · omega
end

end Go.Proofs.YticfioblapjkmaaGreat
