/- Which tree the words are: the plain model of jparse. -/
import Derived.Test.YtmembanbemljoaaJt
namespace Go.Proofs.Ytmembanbemljoaa
open Go.RowKit
set_option linter.unusedVariables false
set_option linter.unusedSimpArgs false

/-- A tree and where it ends, or why there is none. -/
inductive JR where
  | bad (e : Nat)
  | ok (t : JT) (q : Nat)
/-- The refusal of a word that may not stand where it does. -/
def wrongE (m : MT) : Nat := if m.e ≠ 0 then m.e else 20
theorem wrongE_ne (m : MT) : wrongE m ≠ 0 := by unfold wrongE; split <;> omega
/-- The kind of the word that ends them; of the tree. -/
def endK (obj : Bool) : Nat := if obj = true then 2 else 4
def objK (obj : Bool) : Int := if obj = true then 6 else 5
theorem endK_pos (obj : Bool) : endK obj ≠ 0 := by unfold endK; split <;> omega
/-- One item: the keys behind it, and what it is. -/
def mHead (l : List UInt8) (f : MT → JR) (obj : Bool) (p : Nat) (ks : List (List UInt8)) : JR :=
  if obj = true then
    if (mTakeN l p).k ≠ 10 then .bad (wrongE (mTakeN l p))
    else if (mTakeN l p).s ∈ ks then .bad 23
    else if (mTakeN l (mTakeN l p).nx).k ≠ 5 then .bad (wrongE (mTakeN l (mTakeN l p).nx))
    else f (mTakeN l (mTakeN l (mTakeN l p).nx).nx)
  else f (mTakeN l p)
def mKeys (l : List UInt8) (obj : Bool) (p : Nat) (ks : List (List UInt8)) : List (List UInt8) := if obj = true then ks ++ [(mTakeN l p).s] else ks
/-- The items from the word at p on. -/
def mLoop (l : List UInt8) (f : MT → JR) (obj : Bool) (p : Nat) (ks : List (List UInt8)) (xs : List JT) : JR :=
  match mHead l f obj p ks with
  | .bad e => .bad e
  | .ok x q =>
    if (mTakeN l q).k = endK obj then .ok (.mk (objK obj) 0 [] (mKeys l obj p ks) (xs ++ [x])) (mTakeN l q).nx
    else if (mTakeN l q).k ≠ 6 then .bad (wrongE (mTakeN l q))
    else if h : p < (mTakeN l q).nx ∧ (mTakeN l q).nx ≤ l.length then mLoop l f obj (mTakeN l q).nx (mKeys l obj p ks) (xs ++ [x]) else .bad 20
termination_by l.length - p
def mItems (l : List UInt8) (f : MT → JR) (obj : Bool) (p : Nat) : JR :=
  if (mTakeN l p).k = endK obj then .ok (.mk (objK obj) 0 [] [] []) (mTakeN l p).nx else mLoop l f obj p [] []
/-- The tree that begins with the word m, d deep at most. -/
def mVal (l : List UInt8) : Nat → MT → JR
  | 0, m => if m.k = 8 then .ok (.mk 1 0 [] [] []) m.nx else if m.k = 7 then .ok (.mk 2 m.n [] [] []) m.nx else if m.k = 9 then .ok (.mk 3 m.n [] [] []) m.nx else if m.k = 10 then .ok (.mk 4 0 m.s [] []) m.nx
    else if m.k = 1 ∨ m.k = 3 then .bad 21 else .bad (wrongE m)
  | d + 1, m => if m.k = 8 then .ok (.mk 1 0 [] [] []) m.nx else if m.k = 7 then .ok (.mk 2 m.n [] [] []) m.nx else if m.k = 9 then .ok (.mk 3 m.n [] [] []) m.nx else if m.k = 10 then .ok (.mk 4 0 m.s [] []) m.nx
    else if m.k = 1 then mItems l (mVal l d) true m.nx else if m.k = 3 then mItems l (mVal l d) false m.nx else .bad (wrongE m)
/-- What Parse tells. -/
def mParse (l : List UInt8) : JR :=
  match mVal l 32 (mTakeN l 0) with
  | .bad e => .bad e
  | .ok t q => if (mTakeN l q).k = 11 then .ok t q else .bad (wrongE (mTakeN l q))

variable {l : List UInt8}
/-- Of a word: it is one, or there is a reason why not. -/
theorem take_kinds {p : Nat} (hp : p ≤ l.length) : ((mTakeN l p).e = 0 ∧ 1 ≤ (mTakeN l p).k ∧ (mTakeN l p).k ≤ 11 ∧ p ≤ (mTakeN l p).nx ∧ (mTakeN l p).nx ≤ l.length ∧ ((mTakeN l p).k ≠ 11 → p < (mTakeN l p).nx)) ∨ ((mTakeN l p).e ≠ 0 ∧ (mTakeN l p).k = 0) := by
  by_cases he : (mTakeN l p).e = 0
  · left
    by_cases hk : (mTakeN l p).k = 11
    · refine ⟨he, by omega, by omega, ?_, ?_, fun h => absurd hk h⟩
      all_goals
        have hw := wEnd_le hp
        unfold mTakeN at he hk ⊢
        by_cases h1 : wEnd l p = l.length
        · rw [if_pos h1]
          simp only []
          omega
        · rw [if_neg h1] at he hk ⊢
          by_cases h2 : (mWord l (wEnd l p)).e = 0
          · rw [if_pos h2] at hk
            have := mWord_bound h2 (by omega)
            simp only [] at hk
            omega
          · rw [if_neg h2] at he
            exact absurd he h2
    · have hb := mTake_bound hp he hk
      refine ⟨he, ?_, ?_, by omega, hb.2.1, fun _ => hb.1⟩
      all_goals
        have hw := wEnd_le hp
        unfold mTakeN at he hk ⊢
        by_cases h1 : wEnd l p = l.length
        · rw [if_pos h1] at hk; simp at hk
        · rw [if_neg h1] at he ⊢
          by_cases h2 : (mWord l (wEnd l p)).e = 0
          · rw [if_pos h2]
            have := mWord_bound h2 (by omega)
            simp only []
            omega
          · rw [if_neg h2] at he
            exact absurd he h2
  · right
    refine ⟨he, ?_⟩
    unfold mTakeN at he ⊢
    by_cases h1 : wEnd l p = l.length
    · rw [if_pos h1] at he; simp at he
    · rw [if_neg h1] at he ⊢
      by_cases h2 : (mWord l (wEnd l p)).e = 0
      · rw [if_pos h2] at he; simp at he
      · rw [if_neg h2]
/-- A result that keeps within the text. -/
def JR.within (l : List UInt8) (p : Nat) : JR → Prop
  | .bad e => e ≠ 0
  | .ok _ q => p ≤ q ∧ q ≤ l.length
theorem JR.within.mono {p p' : Nat} {r : JR} (h : r.within l p) (hp : p' ≤ p) : r.within l p' := by
  cases r with
  | bad e => exact h
  | ok t q => exact ⟨by have := h.1; omega, h.2⟩
/-- What a tree's reading promises. -/
def Reads (l : List UInt8) (f : MT → JR) : Prop := ∀ m : MT, (m.k = 0 → f m = .bad (wrongE m)) ∧ (m.k ≠ 0 → m.nx ≤ l.length → (f m).within l m.nx)
/-- One item's end: the loop's step. -/
def mAfter (l : List UInt8) (f : MT → JR) (obj : Bool) (ks : List (List UInt8)) (xs : List JT) (r : JR) : JR :=
  match r with
  | .bad e => .bad e
  | .ok x q => if (mTakeN l q).k = endK obj then .ok (.mk (objK obj) 0 [] ks (xs ++ [x])) (mTakeN l q).nx
    else if (mTakeN l q).k ≠ 6 then .bad (wrongE (mTakeN l q)) else mLoop l f obj (mTakeN l q).nx ks (xs ++ [x])
theorem item_within {f : MT → JR} (hf : Reads l f) {p : Nat} (hp : p ≤ l.length) : (f (mTakeN l p)).within l p := by
  have hk := take_kinds hp
  rcases hk with hk | hk
  · exact ((hf _).2 (by omega) hk.2.2.2.2.1).mono hk.2.2.2.1
  · rw [(hf _).1 hk.2]
    exact wrongE_ne _
theorem head_within {f : MT → JR} (hf : Reads l f) {obj : Bool} {p : Nat} (hp : p ≤ l.length) (ks : List (List UInt8)) : (mHead l f obj p ks).within l p := by
  unfold mHead
  cases obj with
  | false => exact item_within hf hp
  | true =>
    simp only [if_true]
    have hk := take_kinds hp
    split
    · exact wrongE_ne _
    · split
      · exact (by decide : (23 : Nat) ≠ 0)
      · have hk1 := take_kinds (l := l) (p := (mTakeN l p).nx) (by omega)
        split
        · exact wrongE_ne _
        · exact (item_within (l := l) (f := f) hf (p := (mTakeN l (mTakeN l p).nx).nx) (by omega)).mono (by omega)
theorem loop_eq {f : MT → JR} (hf : Reads l f) {obj : Bool} {p : Nat} (hp : p ≤ l.length) (ks : List (List UInt8)) (xs : List JT) :
    mLoop l f obj p ks xs = mAfter l f obj (mKeys l obj p ks) xs (mHead l f obj p ks) := by
  have hw := head_within hf (obj := obj) hp ks
  rw [mLoop]
  unfold mAfter
  cases hr : mHead l f obj p ks with
  | bad e => rfl
  | ok x q =>
    rw [hr] at hw
    have h1 : p ≤ q := hw.1
    have h2 : q ≤ l.length := hw.2
    have hk := take_kinds h2
    simp only []
    split
    · rfl
    · split
      · rfl
      · rename_i h6
        rw [dif_pos (by omega)]
theorem loop_within {f : MT → JR} (hf : Reads l f) {obj : Bool} : ∀ (n : Nat) {p : Nat}, l.length - p ≤ n → p ≤ l.length → ∀ (ks : List (List UInt8)) (xs : List JT), (mLoop l f obj p ks xs).within l p := by
  intro n
  induction n with
  | zero =>
    intro p hn hp ks xs
    have hw := head_within hf (obj := obj) hp ks
    rw [mLoop]
    cases hr : mHead l f obj p ks with
    | bad e => rw [hr] at hw; exact hw
    | ok x q =>
      rw [hr] at hw
      have h1 : p ≤ q := hw.1
      have h2 : q ≤ l.length := hw.2
      have hk := take_kinds h2
      simp only []
      split
      · rename_i h4
        have : (mTakeN l q).k ≠ 0 := by rw [h4]; exact endK_pos obj
        exact ⟨by omega, by omega⟩
      · split
        · exact wrongE_ne _
        · rename_i h6
          omega
  | succ n ih =>
    intro p hn hp ks xs
    have hw := head_within hf (obj := obj) hp ks
    rw [mLoop]
    cases hr : mHead l f obj p ks with
    | bad e => rw [hr] at hw; exact hw
    | ok x q =>
      rw [hr] at hw
      have h1 : p ≤ q := hw.1
      have h2 : q ≤ l.length := hw.2
      have hk := take_kinds h2
      simp only []
      split
      · rename_i h4
        have : (mTakeN l q).k ≠ 0 := by rw [h4]; exact endK_pos obj
        exact ⟨by omega, by omega⟩
      · split
        · exact wrongE_ne _
        · rename_i h6
          rw [dif_pos (by omega)]
          exact (ih (by omega) (by omega) _ _).mono (by omega)
theorem items_within {f : MT → JR} (hf : Reads l f) {obj : Bool} {p : Nat} (hp : p ≤ l.length) : (mItems l f obj p).within l p := by
  have hk := take_kinds hp
  unfold mItems
  split
  · rename_i h4
    have : (mTakeN l p).k ≠ 0 := by rw [h4]; exact endK_pos obj
    exact ⟨by omega, by omega⟩
  · exact loop_within hf _ (Nat.le_refl _) hp _ _
theorem reads_val : ∀ d, Reads l (mVal l d) := by
  intro d
  induction d with
  | zero =>
    intro m
    refine ⟨fun h => ?_, fun h hn => ?_⟩
    · unfold mVal
      simp [h]
    · unfold mVal
      repeat' split
      all_goals first | exact ⟨Nat.le_refl _, hn⟩ | exact wrongE_ne _ | exact (by decide : (21 : Nat) ≠ 0)
  | succ d ih =>
    intro m
    refine ⟨fun h => ?_, fun h hn => ?_⟩
    · unfold mVal
      simp [h]
    · unfold mVal
      repeat' split
      all_goals first | exact ⟨Nat.le_refl _, hn⟩ | exact wrongE_ne _ | exact items_within ih hn

end Go.Proofs.Ytmembanbemljoaa
