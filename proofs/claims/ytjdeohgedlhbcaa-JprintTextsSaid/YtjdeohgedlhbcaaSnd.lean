/- What is parsed is sound: the plain law. -/
import Derived.Test.YtjdeohgedlhbcaaSnr
import Derived.Test.YtjdeohgedlhbcaaAt
namespace Go.Proofs.Ytjdeohgedlhbcaa
open Go.RowKit
set_option linter.unusedVariables false
set_option linter.unusedSimpArgs false

inductive Snd (L : Nat) : JT → Prop
  | mk {k n : Int} {s : List UInt8} {ks : List (List UInt8)} {xs : List JT} (hs : isRight s = true) (hl : s.length ≤ L) (hk : k ≠ 6 → ks = []) (hkl : k = 6 → ks.length = xs.length)
      (hr : ∀ y ∈ ks, isRight y = true ∧ y.length ≤ L) (hd : ks.Nodup) (hx : ∀ x ∈ xs, Snd L x) (hn : xs.length ≤ L + 1) : Snd L (.mk k n s ks xs)
theorem tdeeps_max : ∀ (xs : List JT) (n m : Nat), n ≤ m → (∀ x ∈ xs, 1 + tdeep x ≤ m) → tdeeps n xs ≤ m
  | [], n, m, h, _ => by simpa [tdeeps] using h
  | x :: xs, n, m, h, hx => by
    rw [tdeeps]
    exact tdeeps_max xs _ m (by have := hx x (by simp); omega) fun y hy => hx y (by simp [hy])
variable {l : List UInt8}
def GoodF (l : List UInt8) (d : Nat) (f : MT → JR) : Prop := ∀ m t q, isRight m.s = true → m.s.length ≤ l.length → f m = .ok t q → Snd l.length t ∧ tdeep t ≤ d
theorem head_snd {d : Nat} {f : MT → JR} (hf : GoodF l d f) {obj : Bool} {p : Nat} {ks : List (List UInt8)} {x : JT} {q : Nat} (h : mHead l f obj p ks = .ok x q) :
    Snd l.length x ∧ tdeep x ≤ d ∧ (obj = true → (mTakeN l p).s ∉ ks) := by
  unfold mHead at h
  split at h
  · split at h
    · simp at h
    · split at h
      · simp at h
      · rename_i hn
        split at h
        · simp at h
        · have := hf _ _ _ (take_right l _).1 (take_right l _).2 h
          exact ⟨this.1, this.2, fun _ => hn⟩
  · rename_i ho
    have := hf _ _ _ (take_right l _).1 (take_right l _).2 h
    exact ⟨this.1, this.2, fun h => absurd h ho⟩
theorem nodup_snoc {α : Type} {ks : List α} {y : α} (h : ks.Nodup) (hy : y ∉ ks) : (ks ++ [y]).Nodup := by
  rw [List.nodup_append]
  exact ⟨h, by simp, fun a ha b hb e => by simp at hb; subst hb; subst e; exact hy ha⟩
theorem loop_snd {d : Nat} {f : MT → JR} (hf : GoodF l d f) (obj : Bool) : ∀ (n p : Nat) (ks : List (List UInt8)) (xs : List JT) (t : JT) (q : Nat), l.length - p ≤ n →
    (obj = false → ks = []) → (obj = true → ks.length = xs.length) → (∀ y ∈ ks, isRight y = true ∧ y.length ≤ l.length) → ks.Nodup → (∀ x ∈ xs, Snd l.length x ∧ tdeep x ≤ d) → xs.length + (l.length - p) ≤ l.length →
    mLoop l f obj p ks xs = .ok t q → Snd l.length t ∧ tdeep t ≤ d + 1 := by
  intro n
  induction n with
  | zero =>
    intro p ks xs t q hn h1 h2 h3 h4 h5 h6 h
    rw [mLoop] at h
    cases hh : mHead l f obj p ks with
    | bad e => rw [hh] at h; simp at h
    | ok x q' =>
      rw [hh] at h
      simp only [] at h
      obtain ⟨a1, a2, a3⟩ := head_snd hf hh
      split at h
      · simp at h
        obtain ⟨rfl, rfl⟩ := h
        refine ⟨?_, ?_⟩
        · refine .mk right_nil (by simp) (fun hk => ?_) (fun hk => ?_) (fun y hy => ?_) ?_ (fun y hy => ?_) (by simp; omega)
          · have ho : obj = false := by cases obj <;> simp [objK] at hk ⊢
            unfold mKeys
            rw [if_neg (by simp [ho])]
            exact h1 ho
          · have ho : obj = true := by cases obj <;> simp [objK] at hk ⊢
            unfold mKeys
            rw [if_pos ho]
            simp [h2 ho]
          · unfold mKeys at hy
            split at hy
            · rcases List.mem_append.1 hy with hy | hy
              · exact h3 y hy
              · simp at hy; subst hy; exact take_right l p
            · exact h3 y hy
          · unfold mKeys
            split
            · rename_i ho; exact nodup_snoc h4 (a3 ho)
            · exact h4
          · rcases List.mem_append.1 hy with hy | hy
            · exact (h5 y hy).1
            · simp at hy; subst hy; exact a1
        · rw [tdeep, if_pos (by cases obj <;> simp [objK])]
          refine tdeeps_max _ _ _ (by omega) fun y hy => ?_
          rcases List.mem_append.1 hy with hy | hy
          · have := (h5 y hy).2; omega
          · simp at hy; subst hy; omega
      · split at h
        · simp at h
        · rw [dif_neg (by omega)] at h
          simp at h
  | succ n ih =>
    intro p ks xs t q hn h1 h2 h3 h4 h5 h6 h
    rw [mLoop] at h
    cases hh : mHead l f obj p ks with
    | bad e => rw [hh] at h; simp at h
    | ok x q' =>
      rw [hh] at h
      simp only [] at h
      obtain ⟨a1, a2, a3⟩ := head_snd hf hh
      have b1 : obj = false → mKeys l obj p ks = [] := fun ho => by unfold mKeys; rw [if_neg (by simp [ho])]; exact h1 ho
      have b2 : obj = true → (mKeys l obj p ks).length = (xs ++ [x]).length := fun ho => by unfold mKeys; rw [if_pos ho]; simp [h2 ho]
      have b3 : ∀ y ∈ mKeys l obj p ks, isRight y = true ∧ y.length ≤ l.length := fun y hy => by
        unfold mKeys at hy
        split at hy
        · rcases List.mem_append.1 hy with hy | hy
          · exact h3 y hy
          · simp at hy; subst hy; exact take_right l p
        · exact h3 y hy
      have b4 : (mKeys l obj p ks).Nodup := by
        unfold mKeys
        split
        · rename_i ho; exact nodup_snoc h4 (a3 ho)
        · exact h4
      have b5 : ∀ y ∈ xs ++ [x], Snd l.length y ∧ tdeep y ≤ d := fun y hy => by
        rcases List.mem_append.1 hy with hy | hy
        · exact h5 y hy
        · simp at hy; subst hy; exact ⟨a1, a2⟩
      split at h
      · simp at h
        obtain ⟨rfl, rfl⟩ := h
        refine ⟨?_, ?_⟩
        · exact .mk right_nil (by simp) (fun hk => b1 (by cases obj <;> simp [objK] at hk ⊢)) (fun hk => b2 (by cases obj <;> simp [objK] at hk ⊢)) b3 b4 (fun y hy => (b5 y hy).1) (by simp; omega)
        · rw [tdeep, if_pos (by cases obj <;> simp [objK])]
          exact tdeeps_max _ _ _ (by omega) fun y hy => by have := (b5 y hy).2; omega
      · split at h
        · simp at h
        · split at h
          · rename_i hq
            exact ih _ _ _ _ _ (by omega) b1 b2 b3 b4 b5 (by simp; omega) h
          · simp at h
theorem items_snd {d : Nat} {f : MT → JR} (hf : GoodF l d f) {obj : Bool} {p : Nat} {t : JT} {q : Nat} (h : mItems l f obj p = .ok t q) : Snd l.length t ∧ tdeep t ≤ d + 1 := by
  unfold mItems at h
  split at h
  · simp at h
    obtain ⟨rfl, rfl⟩ := h
    refine ⟨.mk right_nil (by simp) (fun _ => rfl) (fun _ => rfl) (by simp) (by simp) (by simp) (by simp), ?_⟩
    rw [tdeep, if_pos (by cases obj <;> simp [objK])]
    exact tdeeps_max _ _ _ (by omega) (by simp)
  · exact loop_snd hf obj _ _ _ _ _ _ (Nat.le_refl _) (fun _ => rfl) (fun _ => rfl) (by simp) (by simp) (by simp) (by simp) h
theorem leaf_snd {k n : Int} {s : List UInt8} {L d : Nat} (hs : isRight s = true) (hl : s.length ≤ L) (hk : k < 5) : Snd L (.mk k n s [] []) ∧ tdeep (.mk k n s [] []) ≤ d :=
  ⟨.mk hs hl (fun _ => rfl) (fun h => by omega) (by simp) (by simp) (by simp) (by simp), by rw [tdeep, if_neg (by omega)]; omega⟩
theorem val_snd : ∀ d, GoodF l d (mVal l d) := by
  intro d
  induction d with
  | zero =>
    intro m t q hs hl h
    rw [mVal] at h
    repeat' split at h
    all_goals first
      | (simp at h; done)
      | (simp at h; obtain ⟨rfl, rfl⟩ := h; first | exact leaf_snd hs hl (by omega) | exact leaf_snd right_nil (by simp) (by omega))
  | succ d ih =>
    intro m t q hs hl h
    rw [mVal] at h
    repeat' split at h
    all_goals first
      | (simp at h; done)
      | (simp at h; obtain ⟨rfl, rfl⟩ := h; first | exact leaf_snd hs hl (by omega) | exact leaf_snd right_nil (by simp) (by omega))
      | exact items_snd ih h
theorem parse_snd {t : JT} {q : Nat} (h : mParse l = .ok t q) : Snd l.length t ∧ tdeep t ≤ 32 := by
  unfold mParse at h
  cases hv : mVal l 32 (mTakeN l 0) with
  | bad e => rw [hv] at h; simp at h
  | ok t' q' =>
    rw [hv] at h
    simp only [] at h
    split at h
    · simp at h
      obtain ⟨rfl, rfl⟩ := h
      exact val_snd 32 _ _ _ (take_right l 0).1 (take_right l 0).2 hv
    · simp at h
end Go.Proofs.Ytjdeohgedlhbcaa
