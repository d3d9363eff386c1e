/- Words with a white byte ahead of each are the same words; each word's bytes alone are that word. -/
import Derived.Test.YtmembanbemljoaaLoc
namespace Go.Proofs.Ytmembanbemljoaa
open Go.RowKit
set_option linter.unusedVariables false
set_option linter.unusedSimpArgs false

/-- The words from i on, one by one. -/
def Chain (l : List UInt8) : Nat → List MT → Prop
  | i, [] => (mTakeN l i).e = 0 ∧ (mTakeN l i).k = 11
  | i, x :: ws => mTakeN l i = x ∧ x.e = 0 ∧ x.k ≠ 11 ∧ Chain l x.nx ws
theorem all_chain {l : List UInt8} : ∀ (n i : Nat) (acc R : List MT), l.length - i ≤ n → i ≤ l.length → mAll l i acc = (0, R) → ∃ ws, R = acc ++ ws ∧ Chain l i ws := by
  intro n
  induction n with
  | zero =>
    intro i acc R hn hi h
    by_cases he : (mTakeN l i).e = 0
    · by_cases hk : (mTakeN l i).k = 11
      · rw [mAll_end he hk] at h
        simp only [Prod.mk.injEq, true_and] at h
        exact ⟨[], by simp [h], he, hk⟩
      · have := mTake_bound hi he hk
        omega
    · rw [mAll_bad he] at h
      simp only [Prod.mk.injEq] at h
      exact absurd h.1 he
  | succ n ih =>
    intro i acc R hn hi h
    by_cases he : (mTakeN l i).e = 0
    · by_cases hk : (mTakeN l i).k = 11
      · rw [mAll_end he hk] at h
        simp only [Prod.mk.injEq, true_and] at h
        exact ⟨[], by simp [h], he, hk⟩
      · have hb := mTake_bound hi he hk
        rw [mAll_next hi he hk] at h
        obtain ⟨ws, h1, h2⟩ := ih _ _ _ (by omega) hb.2.1 h
        exact ⟨mTakeN l i :: ws, by rw [h1]; simp, rfl, he, hk, h2⟩
    · rw [mAll_bad he] at h
      simp only [Prod.mk.injEq] at h
      exact absurd h.1 he
theorem chain_all {l : List UInt8} : ∀ (ws : List MT) (i : Nat) (acc : List MT), i ≤ l.length → Chain l i ws → mAll l i acc = (0, acc ++ ws) := by
  intro ws
  induction ws with
  | nil =>
    intro i acc hi h
    rw [mAll_end h.1 h.2]
    simp
  | cons x ws ih =>
    intro i acc hi h
    obtain ⟨rfl, he, hk, hc⟩ := h
    have hb := mTake_bound hi he hk
    rw [mAll_next hi he hk, ih _ _ hb.2.1 hc]
    simp
/-- A word of a text. -/
structure IsW (l : List UInt8) (x : MT) : Prop where
  e : x.e = 0
  lt : x.at_ < x.nx
  le : x.nx ≤ l.length
  word : mWord l x.at_ = ⟨0, x.k, x.n, x.s, x.nx⟩
  black : isWh (byteAt l x.at_) = false
  kind : x.k ≤ 10
theorem take_isW {l : List UInt8} {i : Nat} (hi : i ≤ l.length) (he : (mTakeN l i).e = 0) (hk : (mTakeN l i).k ≠ 11) : IsW l (mTakeN l i) ∧ i ≤ (mTakeN l i).at_ := by
  have hb := mTake_bound hi he hk
  have hw := wEnd_le hi
  have hend := tw_end isWh l i
  unfold mTakeN at he hk hb ⊢
  by_cases h1 : wEnd l i = l.length
  · rw [if_pos h1] at hk; simp at hk
  · rw [if_neg h1] at he hk hb ⊢
    by_cases h2 : (mWord l (wEnd l i)).e = 0
    · rw [if_pos h2] at hb ⊢
      simp only [] at hb ⊢
      have h3 := mWord_bound h2 (by omega)
      refine ⟨⟨rfl, by simp only []; omega, hb.2.1, ?_, ?_, by simp only []; omega⟩, hb.2.2.1⟩
      · simp only []
        cases hm : mWord l (wEnd l i)
        rw [hm] at h2
        simp only [] at h2 ⊢
        rw [h2]
      · unfold wEnd at h1 ⊢
        exact hend (by unfold wEnd at hw; omega)
    · rw [if_neg h2] at he
      exact absurd he h2
theorem chain_isW {l : List UInt8} : ∀ (ws : List MT) (i : Nat), i ≤ l.length → Chain l i ws → ∀ x ∈ ws, IsW l x := by
  intro ws
  induction ws with
  | nil => intro i _ _ x hx; simp at hx
  | cons y ws ih =>
    intro i hi h x hx
    obtain ⟨rfl, he, hk, hc⟩ := h
    rcases List.mem_cons.1 hx with rfl | hx
    · exact (take_isW hi he hk).1
    · exact ih _ (mTake_bound hi he hk).2.1 hc x hx
/-- A word's bytes. -/
def seg (l : List UInt8) (x : MT) : List UInt8 := (l.drop x.at_).take (x.nx - x.at_)
theorem seg_len {l : List UInt8} {x : MT} (h : IsW l x) : (seg l x).length = x.nx - x.at_ := by
  have := h.le
  have := h.lt
  unfold seg
  rw [List.length_take, List.length_drop]
  omega
theorem wh_behind : ∀ y : Nat, y < 256 → isWh y.toUInt8 = true → isLet y.toUInt8 = false ∧ y.toUInt8 ≠ 46 := by decide +kernel
/-- What may stand behind a word: nothing, or a white byte. -/
def WhR (R : List UInt8) : Prop := R = [] ∨ ∃ g t, R = g :: t ∧ isWh g = true
theorem drop_len {m X : List UInt8} {r : Nat} (hX : X ≠ []) (h : m.drop r = X) : r + X.length = m.length := by
  have h1 := congrArg List.length h
  rw [List.length_drop] at h1
  have : 0 < X.length := List.length_pos_iff.2 hX
  omega
theorem WhR.behind {m R : List UInt8} {e : Nat} (hR : WhR R) (h : m.drop e = R) : Behind m e := by
  have hb : byteAt m e = R[0]?.getD 0 := by
    rw [← h, List.getElem?_drop]
    rfl
  unfold Behind
  rcases hR with rfl | ⟨g, t, rfl, hg⟩
  · rw [hb]
    exact ⟨rfl, by decide⟩
  · rw [hb]
    have := wh_behind g.toNat g.toNat_lt (by rw [show g.toNat.toUInt8 = g from by simp]; exact hg)
    rw [show g.toNat.toUInt8 = g from by simp] at this
    exact this
theorem seg_same {l m R : List UInt8} {x : MT} {r : Nat} (hx : IsW l x) (hm : m.drop r = seg l x ++ R) : Same l x.at_ m r (x.nx - x.at_) := by
  intro j hj
  have := congrArg (fun z => z[j]?) hm
  simp only [List.getElem?_drop] at this
  rw [this, List.getElem?_append_left (by rw [seg_len hx]; exact hj)]
  unfold seg
  rw [List.getElem?_take_of_lt hj, List.getElem?_drop]
/-- A word elsewhere, behind white bytes. -/
theorem seg_take {l m R W : List UInt8} {x : MT} {i : Nat} (hx : IsW l x) (hR : WhR R) (hW : ∀ g ∈ W, isWh g = true) (hm : m.drop i = W ++ (seg l x ++ R)) :
    mTakeN m i = ⟨0, x.k, x.n, x.s, i + W.length, i + W.length + (seg l x).length⟩ := by
  have hl := seg_len hx
  have h1 := hx.lt
  have hne : W ++ (seg l x ++ R) ≠ [] := by
    intro e
    have := congrArg List.length e
    simp [hl] at this
    omega
  have hlen := drop_len hne hm
  have hm2 : m.drop (i + W.length) = seg l x ++ R := by
    have := congrArg (fun z => z.drop W.length) hm
    simp only [List.drop_drop] at this
    rw [this, List.drop_append_of_le_length (Nat.le_refl _), List.drop_of_length_le (Nat.le_refl _)]
    simp
  have hs := seg_same hx hm2
  have hb0 : byteAt m (i + W.length) = byteAt l x.at_ := (hs.byte0 (by omega)).symm
  have hw : wEnd m i = i + W.length := by
    unfold wEnd
    rw [tw_unique (n := W.length) (fun k hk => ?_) (fun _ => by rw [hb0]; exact hx.black)]
    have hg : m[i + k]? = some W[k] := by
      have := congrArg (fun z => z[k]?) hm
      simp only [List.getElem?_drop] at this
      rw [this, List.getElem?_append_left hk, List.getElem?_eq_getElem hk]
    refine ⟨(List.getElem?_eq_some_iff.1 hg).1, ?_⟩
    unfold byteAt
    rw [hg]
    exact hW _ (List.getElem_mem hk)
  have hwd := Same.word (l := l) (m := m) (p := x.at_) (r := i + W.length) (by have := hx.le; omega) (by rw [hx.word]) (by rw [hx.word]; exact hs) (by
    rw [hx.word]
    refine hR.behind ?_
    have := congrArg (fun z => z.drop (seg l x).length) hm2
    simp only [List.drop_drop] at this
    rw [hl] at this
    rw [this, List.drop_append_of_le_length (by omega), List.drop_of_length_le (by omega)]
    simp)
  rw [hx.word] at hwd
  simp only [] at hwd
  unfold mTakeN
  simp only [List.length_append] at hlen
  rw [hw, if_neg (by omega), hwd]
  simp only [if_true, hl]
theorem take_white {m W : List UInt8} {i : Nat} (hi : i ≤ m.length) (hW : ∀ g ∈ W, isWh g = true) (hm : m.drop i = W) : mTakeN m i = ⟨0, 11, 0, [], m.length, m.length⟩ := by
  have hlen : i + W.length = m.length := by
    have := congrArg List.length hm
    rw [List.length_drop] at this
    omega
  have hw : wEnd m i = m.length := by
    unfold wEnd
    rw [tw_unique (n := W.length) (fun k hk => ?_) (fun h => by omega), hlen]
    have hg : m[i + k]? = some W[k] := by
      have := congrArg (fun z => z[k]?) hm
      simp only [List.getElem?_drop] at this
      rw [this, List.getElem?_eq_getElem hk]
    refine ⟨(List.getElem?_eq_some_iff.1 hg).1, ?_⟩
    unfold byteAt
    rw [hg]
    exact hW _ (List.getElem_mem hk)
  unfold mTakeN
  rw [if_pos hw]
/-- A word's bytes alone. -/
theorem seg_all {l : List UInt8} {x : MT} (hx : IsW l x) : mAll (seg l x) 0 [] = (0, [⟨0, x.k, x.n, x.s, 0, (seg l x).length⟩]) := by
  have h1 := seg_take (i := 0) (m := seg l x) (R := []) (W := []) hx (.inl rfl) (by simp) (by simp)
  simp only [List.length_nil, Nat.zero_add] at h1
  have h2 := take_white (m := seg l x) (i := (seg l x).length) (W := []) (Nat.le_refl _) (by simp) (by simp)
  have hk := hx.kind
  exact chain_all [_] 0 [] (Nat.zero_le _) ⟨h1, rfl, by simp only []; omega, by rw [h2], by rw [h2]⟩

/-- The words' bytes, a white byte ahead of each. -/
def cs (g : Nat → UInt8) (l : List UInt8) : List MT → Nat → List UInt8
  | [], _ => []
  | x :: ws, i => g i :: (seg l x ++ cs g l ws (i + 1))
theorem cs_append (g : Nat → UInt8) (l : List UInt8) : ∀ (xs ys : List MT) (i : Nat), cs g l (xs ++ ys) i = cs g l xs i ++ cs g l ys (i + xs.length) := by
  intro xs
  induction xs with
  | nil => intro ys i; simp [cs]
  | cons x xs ih =>
    intro ys i
    simp only [List.cons_append, cs, List.length_cons]
    rw [ih, List.append_assoc, show i + 1 + xs.length = i + (xs.length + 1) from by omega]
theorem cs_next (g : Nat → UInt8) (l : List UInt8) (ws : List MT) (k : Nat) (x : MT) (hx : ws[k]? = some x) : cs g l (ws.take (k + 1)) 0 = cs g l (ws.take k) 0 ++ [g k] ++ seg l x := by
  have hk := (List.getElem?_eq_some_iff.1 hx).1
  have he : ws.take (k + 1) = ws.take k ++ [x] := by
    rw [List.take_succ_eq_append_getElem hk]
    congr 2
    rw [List.getElem?_eq_getElem hk] at hx
    exact Option.some.inj hx
  rw [he, cs_append]
  have hl : (ws.take k).length = k := by rw [List.length_take]; omega
  rw [hl]
  simp [cs]
theorem cs_len {g : Nat → UInt8} {l : List UInt8} : ∀ (ws : List MT) (i j : Nat), i ≤ l.length → Chain l i ws → (cs g l ws j).length + i ≤ l.length + ws.length := by
  intro ws
  induction ws with
  | nil => intro i j hi _; simp [cs]; exact hi
  | cons x ws ih =>
    intro i j hi h
    obtain ⟨rfl, he, hk, hc⟩ := h
    obtain ⟨hx, hat⟩ := take_isW hi he hk
    have := ih _ (j + 1) hx.le hc
    have h3 := seg_len hx
    have h4 := hx.lt
    simp only [cs, List.length_cons, List.length_append]
    omega
theorem cs_take_len (g : Nat → UInt8) (l : List UInt8) (ws : List MT) (k : Nat) : (cs g l (ws.take k) 0).length ≤ (cs g l ws 0).length := by
  have := cs_append g l (ws.take k) (ws.drop k) 0
  rw [List.take_append_drop] at this
  rw [this, List.length_append]
  omega
/-- What a word is but for its place. -/
def MT.core (x : MT) : Nat × Int × List UInt8 := (x.k, x.n, x.s)
theorem cs_chain {g : Nat → UInt8} {l : List UInt8} (hg : ∀ i, isWh (g i) = true) : ∀ (ws : List MT) (A : List UInt8) (i : Nat), (∀ x ∈ ws, IsW l x) →
    ∃ ws', Chain (A ++ (cs g l ws i ++ [32])) A.length ws' ∧ ws'.map MT.core = ws.map MT.core := by
  intro ws
  induction ws with
  | nil =>
    intro A i _
    refine ⟨[], ?_, rfl⟩
    have := take_white (m := A ++ (cs g l [] i ++ [32])) (i := A.length) (W := [32]) (by simp) (by intro x hx; simp at hx; rw [hx]; decide) (by simp [cs])
    exact ⟨by rw [this], by rw [this]⟩
  | cons x ws ih =>
    intro A i hx
    have hxw := hx x (by simp)
    obtain ⟨ws', h1, h2⟩ := ih (A ++ g i :: seg l x) (i + 1) (fun y hy => hx y (List.mem_cons_of_mem _ hy))
    have hm : A ++ (cs g l (x :: ws) i ++ [32]) = (A ++ g i :: seg l x) ++ (cs g l ws (i + 1) ++ [32]) := by simp [cs]
    have hR : WhR (cs g l ws (i + 1) ++ [32]) := by
      cases ws with
      | nil => exact .inr ⟨32, [], rfl, by decide⟩
      | cons y ws => exact .inr ⟨g (i + 1), _, rfl, hg _⟩
    have ht := seg_take (m := A ++ (cs g l (x :: ws) i ++ [32])) (i := A.length) (W := [g i]) hxw hR (by intro y hy; simp at hy; rw [hy]; exact hg i) (by simp [cs])
    have hk := hxw.kind
    refine ⟨⟨0, x.k, x.n, x.s, A.length + 1, A.length + 1 + (seg l x).length⟩ :: ws', ⟨ht, rfl, by simp only []; omega, ?_⟩, ?_⟩
    · simp only []
      rw [hm]
      rw [show A.length + 1 + (seg l x).length = (A ++ g i :: seg l x).length from by simp; omega]
      exact h1
    · simp only [List.map_cons, h2]
      rfl
/-- The law. -/
theorem white_law {g : Nat → UInt8} {l : List UInt8} {ws : List MT} (hg : ∀ i, isWh (g i) = true) (h : mAll l 0 [] = (0, ws)) :
    (∀ x ∈ ws, IsW l x) ∧ (cs g l ws 0).length ≤ l.length + ws.length ∧ ∃ ws', mAll (cs g l ws 0 ++ [32]) 0 [] = (0, ws') ∧ ws'.map MT.core = ws.map MT.core := by
  obtain ⟨ws0, h1, h2⟩ := all_chain _ 0 [] ws (Nat.le_refl _) (Nat.zero_le _) h
  rw [List.nil_append] at h1
  subst h1
  have hw := chain_isW _ 0 (Nat.zero_le _) h2
  obtain ⟨ws', h3, h4⟩ := cs_chain hg ws [] 0 hw
  refine ⟨hw, cs_len _ 0 0 (Nat.zero_le _) h2, ws', ?_, h4⟩
  exact chain_all ws' 0 [] (Nat.zero_le _) h3

end Go.Proofs.Ytmembanbemljoaa
