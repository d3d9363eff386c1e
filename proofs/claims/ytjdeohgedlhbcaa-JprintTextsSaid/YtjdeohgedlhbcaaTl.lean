/- What is parsed may be, and its text is no longer than the bytes were: plain. -/
import Derived.Test.YtjdeohgedlhbcaaSnr
import Derived.Test.YtjdeohgedlhbcaaPb
namespace Go.Proofs.Ytjdeohgedlhbcaa
open Go.RowKit
set_option linter.unusedVariables false
set_option linter.unusedSimpArgs false

section
variable {l : List UInt8}
def qlen (s : List UInt8) : Nat := (s.flatMap qByte).length
theorem qlen_app (s t : List UInt8) : qlen (s ++ t) = qlen s + qlen t := by unfold qlen; rw [List.flatMap_append, List.length_append]
theorem quote_qlen (s : List UInt8) : (mQuote s).length = qlen s + 2 := by unfold mQuote qlen; simp
theorem qlen_self : ∀ (s : List UInt8), (∀ x ∈ s, qByte x = [x]) → qlen s = s.length
  | [], _ => rfl
  | x :: s, h => by
    have := qlen_self s fun y hy => h y (by simp [hy])
    unfold qlen at this ⊢
    rw [List.flatMap_cons, h x (by simp), List.length_append, this]
    simp
    omega
theorem qlen_one (x : UInt8) : qlen [x] ≤ 6 := by unfold qlen; simpa using qByte_len x
theorem uenc_qlen {c : Nat} (h : c < 1114112) : qlen (uenc c) ≤ 6 := by
  unfold uenc
  by_cases h1 : c < 128
  · rw [if_pos h1]; exact qlen_one _
  · rw [if_neg h1]
    have hh : ∀ n, 128 ≤ n → n < 256 → qByte n.toUInt8 = [n.toUInt8] := fun n h1 h2 => qByte_high (by rw [u8n n h2]; exact h1)
    split
    · rw [qlen_self _ fun x hx => by simp only [List.mem_cons, List.not_mem_nil, or_false] at hx; rcases hx with rfl | rfl <;> exact hh _ (by omega) (by omega)]
      simp
    · split
      · rw [qlen_self _ fun x hx => by simp only [List.mem_cons, List.not_mem_nil, or_false] at hx; rcases hx with rfl | rfl | rfl <;> exact hh _ (by omega) (by omega)]
        simp
      · rw [qlen_self _ fun x hx => by simp only [List.mem_cons, List.not_mem_nil, or_false] at hx; rcases hx with rfl | rfl | rfl | rfl <;> exact hh _ (by omega) (by omega)]
        simp
theorem esc_two {c m : UInt8} (h : escOf c = some m) : qlen [m] ≤ 2 := by
  unfold escOf at h
  repeat' split at h
  all_goals first | (obtain rfl := Option.some.inj h; decide) | simp at h
theorem chr_lt {n : Int} (h : isChr n = true) : 0 ≤ n ∧ n.toNat < 1114112 := by unfold isChr at h; simp at h; omega
theorem esc_qlen {p q : Nat} {bs : List UInt8} (h : mEsc l p = some (bs, q)) : qlen bs + p ≤ q + 1 := by
  unfold mEsc at h
  cases hm : escOf (byteAt l p) with
  | some m =>
    rw [hm] at h
    simp at h
    obtain ⟨rfl, rfl⟩ := h
    have := esc_two hm
    omega
  | none =>
    rw [hm] at h
    simp only [] at h
    split at h
    · split at h
      · split at h
        · simp at h
        · rename_i hv
          simp at h
          obtain ⟨rfl, rfl⟩ := h
          have := uenc_qlen (chr_lt (pairv_chr hv)).2
          omega
      · split at h
        · rename_i hc
          simp at h
          obtain ⟨rfl, rfl⟩ := h
          have := uenc_qlen (chr_lt hc).2
          omega
        · simp at h
    · simp at h
theorem qByte_plain {x : UInt8} (h1 : 32 ≤ x.toNat) (h2 : x.toNat ≠ 34) (h3 : x.toNat ≠ 92) : qByte x = [x] := by
  unfold qByte
  rw [if_neg h2, if_neg h3, if_neg (by omega), if_neg (by omega), if_neg (by omega), if_neg (by omega), if_neg (by omega), if_neg (by omega)]
theorem char_qlen {p : Nat} (h1 : 32 ≤ (byteAt l p).toNat) (h2 : (byteAt l p).toNat ≠ 34) (h3 : (byteAt l p).toNat ≠ 92) (he : uerr l p = 0) : qlen ((l.drop p).take (ulen l p)) ≤ ulen l p := by
  have hb := ulen_bound he
  rw [qlen_self]
  · rw [List.length_take]; omega
  intro x hx
  obtain ⟨i, hi, hxi⟩ := List.getElem_of_mem hx
  rw [List.length_take] at hi
  have hx2 : x = byteAt l (p + i) := by
    rw [← hxi, List.getElem_take, List.getElem_drop]
    unfold byteAt
    rw [List.getElem?_eq_getElem (by simp at hi; omega)]
    rfl
  subst hx2
  by_cases h0 : i = 0
  · subst h0
    exact qByte_plain h1 h2 h3
  · exact qByte_high (cont_high (uerr_cont he i (by omega) (by omega)).2)
theorem text_qlen : ∀ (n p : Nat) (T S : List UInt8) (q : Nat), l.length - p ≤ n → mText l p T = some (S, q) → qlen S + p + 1 ≤ qlen T + q := by
  intro n
  induction n with
  | zero =>
    intro p T S q hn h
    rw [mText, dif_neg (by omega)] at h
    simp at h
  | succ n ih =>
    intro p T S q hn h
    by_cases hp : p < l.length
    · rw [mText, dif_pos hp] at h
      split at h
      · simp at h
      · rename_i h32
        split at h
        · simp at h
          obtain ⟨rfl, rfl⟩ := h
          omega
        · rename_i h34
          split at h
          · cases he : mEsc l (p + 1) with
            | none => rw [he] at h; simp at h
            | some x =>
              obtain ⟨bs, q'⟩ := x
              rw [he] at h
              simp only [] at h
              have hb := esc_qlen he
              split at h
              · have := ih q' _ S q (by omega) h
                rw [qlen_app] at this
                omega
              · simp at h
          · rename_i h92
            split at h
            · rename_i hu
              have hb := ulen_bound hu
              have hc := char_qlen (by omega) h34 h92 hu
              rw [dif_pos hb.1] at h
              have := ih _ _ S q (by omega) h
              rw [qlen_app] at this
              omega
            · simp at h
    · rw [mText, dif_neg hp] at h
      simp at h
/-! Numbers. -/
theorem dval_lt : ∀ (n : Nat) (D : List UInt8), D.length = n → (∀ c ∈ D, isDig c = true) → dval D < 10 ^ n
  | 0, D, h, _ => by rw [List.eq_nil_of_length_eq_zero h]; decide
  | n + 1, D, h, hd => by
    have hne : D ≠ [] := by intro e; rw [e] at h; simp at h
    rw [← List.dropLast_concat_getLast hne, dval_snocc]
    have := dval_lt n D.dropLast (by simp [h]) fun c hc => hd c (List.dropLast_subset D hc)
    have h2 := hd _ (List.getLast_mem hne)
    unfold isDig at h2
    simp at h2
    rw [Nat.pow_succ]
    omega
theorem numb_le {p : Nat} (h : mnErr l p = 0) (hp : p ≤ l.length) : p + (mNumb (mnInt l p)).length ≤ mnEnd l p := by
  have hc : dcount l (mnFrom l p) ≠ 0 := by
    intro e
    unfold mnErr at h
    rw [if_pos (.inl e)] at h
    omega
  have hval : mnVal l p < 10 ^ (dcount l (mnFrom l p)) := by
    unfold mnVal
    have hpre : (l.drop (mnFrom l p)).take (dcount l (mnFrom l p)) = (l.drop (mnFrom l p)).takeWhile isDig := (List.prefix_iff_eq_take.1 (List.takeWhile_prefix isDig)).symm
    rw [hpre]
    exact dval_lt _ _ rfl fun c hc => by
      have := List.all_takeWhile (p := isDig) (l := l.drop (mnFrom l p))
      exact List.all_eq_true.1 this c hc
  obtain ⟨k, hk⟩ : ∃ k, dcount l (mnFrom l p) = k + 1 := ⟨dcount l (mnFrom l p) - 1, by omega⟩
  have hdl := digs_len k (mnVal l p) (by rw [← hk]; exact hval)
  have hna : (mnInt l p).natAbs = mnVal l p := by unfold mnInt; split <;> omega
  unfold mnEnd
  unfold mNumb
  rw [hna, List.length_append, hk]
  by_cases hb : byteAt l p = 45
  · have : mnFrom l p = p + 1 := by unfold mnFrom; rw [if_pos hb]
    rw [this]
    split <;> simp <;> omega
  · have : mnFrom l p = p := by unfold mnFrom; rw [if_neg hb]
    have hn : ¬ mnInt l p < 0 := by unfold mnInt; rw [if_neg hb]; omega
    rw [this, if_neg hn]
    simp
    omega
theorem numb_range {p : Nat} (h : mnErr l p = 0) : -9223372036854775808 ≤ mnInt l p ∧ mnInt l p ≤ 9223372036854775807 := by
  have hv : ¬ (top63 < mnVal l p ∨ byteAt l p ≠ 45 ∧ mnVal l p = top63) := by
    intro hc
    unfold mnErr at h
    repeat' split at h
    all_goals first | omega | contradiction
  rw [top63_val] at hv
  unfold mnInt
  by_cases hb : byteAt l p = 45
  · rw [if_pos hb]; omega
  · rw [if_neg hb]
    have : ¬ mnVal l p = 9223372036854775808 := fun e => hv (.inr ⟨hb, e⟩)
    omega
/-! Words. -/
structure WordOk (p : Nat) (m : MT) : Prop where
  name : m.k = 8 → p + 4 ≤ m.nx
  truth : m.k = 7 → (m.n = 1 ∧ p + 4 ≤ m.nx) ∨ (m.n = 0 ∧ p + 5 ≤ m.nx)
  numb : m.k = 9 → p + (mNumb m.n).length ≤ m.nx ∧ -9223372036854775808 ≤ m.n ∧ m.n ≤ 9223372036854775807
  text : m.k = 10 → p + (mQuote m.s).length ≤ m.nx ∧ isRight m.s = true
  sign : 1 ≤ m.k → m.k ≤ 6 → p + 1 ≤ m.nx
theorem sign_le (c : UInt8) : signOf c ≤ 6 := by unfold signOf; repeat' split <;> first | omega | skip
                                                 all_goals omega
theorem word_ok {p : Nat} (hp : p ≤ l.length) : WordOk p (mTakeN l p) := by
  have hw := wEnd_le hp
  have hz : ∀ (e k : Nat) (n : Int) (s : List UInt8) (a x : Nat), (k = 0 ∨ k = 11) → WordOk p ⟨e, k, n, s, a, x⟩ := fun e k n s a x hk =>
    ⟨fun h => by simp only [] at h; omega, fun h => by simp only [] at h; omega, fun h => by simp only [] at h; omega, fun h => by simp only [] at h; omega, fun h1 h2 => by simp only [] at h1 h2; omega⟩
  have hr := take_right l p
  unfold mTakeN at hr ⊢
  split
  · exact hz _ _ _ _ _ _ (.inr rfl)
  · rename_i hwl
    rw [if_neg hwl] at hr
    split
    · rename_i he
      rw [if_pos he] at hr
      generalize wEnd l p = P at hw hwl he hr ⊢
      simp only [] at hr
      have hsl := sign_le (byteAt l P)
      unfold mWord at he hr ⊢
      split
      · refine ⟨fun h => ?_, fun h => ?_, fun h => ?_, fun h => ?_, fun h1 h2 => ?_⟩ <;> simp only [] at * <;> omega
      · rename_i g1
        rw [if_neg g1] at he hr
        split
        · rename_i g2
          rw [if_pos g2] at he hr
          cases ht : mText l (P + 1) [] with
          | none => rw [ht] at he; simp at he
          | some x =>
            obtain ⟨S, q⟩ := x
            rw [ht] at hr
            have := text_qlen _ _ _ _ _ (Nat.le_refl _) ht
            rw [show qlen [] = 0 from rfl] at this
            refine ⟨fun h => by simp at h, fun h => by simp at h, fun h => by simp at h, fun _ => ⟨?_, hr.1⟩, fun h1 h2 => by simp at h2⟩
            simp only []
            rw [quote_qlen]
            omega
        · rename_i g2
          rw [if_neg g2] at he hr
          split
          · rename_i g3
            rw [if_pos g3] at he
            split
            · rename_i g4
              have h1 := numb_le g4 (by omega)
              have h2 := numb_range g4
              refine ⟨fun h => by simp at h, fun h => by simp at h, fun _ => ⟨?_, h2⟩, fun h => by simp at h, fun h1 h2 => by simp at h2⟩
              simp only []
              omega
            · exact hz _ _ _ _ _ _ (.inl rfl)
          · rename_i g3
            rw [if_neg g3] at he
            unfold mLet at he ⊢
            cases hm : mNamed l P with
            | none => rw [hm] at he; simp at he
            | some x =>
              obtain ⟨k, n, m⟩ := x
              rw [hm] at he
              simp only [] at he ⊢
              split
              · exact hz _ _ _ _ _ _ (.inl rfl)
              · have hn : (k = 7 ∧ n = 1 ∧ m = 4) ∨ (k = 7 ∧ n = 0 ∧ m = 5) ∨ (k = 8 ∧ n = 0 ∧ m = 4) := by
                  unfold mNamed at hm
                  repeat' split at hm
                  all_goals first
                    | (simp at hm; done)
                    | (simp only [Option.some.injEq, Prod.mk.injEq] at hm; omega)
                rcases hn with ⟨rfl, rfl, rfl⟩ | ⟨rfl, rfl, rfl⟩ | ⟨rfl, rfl, rfl⟩
                · exact ⟨fun h => by simp at h, fun _ => .inl ⟨rfl, by simp only []; omega⟩, fun h => by simp at h, fun h => by simp at h, fun h1 h2 => by simp at h2⟩
                · exact ⟨fun h => by simp at h, fun _ => .inr ⟨rfl, by simp only []; omega⟩, fun h => by simp at h, fun h => by simp at h, fun h1 h2 => by simp at h2⟩
                · exact ⟨fun _ => by simp only []; omega, fun h => by simp at h, fun h => by simp at h, fun h => by simp at h, fun h1 h2 => by simp at h2⟩
    · exact hz _ _ _ _ _ _ (.inl rfl)
end

end Go.Proofs.Ytjdeohgedlhbcaa
