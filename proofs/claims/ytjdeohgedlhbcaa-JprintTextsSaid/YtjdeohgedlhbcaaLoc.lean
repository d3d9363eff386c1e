/- A word depends on its own bytes alone, and on what stands behind it. -/
import Derived.Test.YtjdeohgedlhbcaaTake
namespace Go.Proofs.Ytjdeohgedlhbcaa
open Go.RowKit
set_option linter.unusedVariables false
set_option linter.unusedSimpArgs false

/-- k bytes from p on are those of another text from r on. -/
def Same (l : List UInt8) (p : Nat) (m : List UInt8) (r k : Nat) : Prop := ∀ j, j < k → l[p + j]? = m[r + j]?
variable {l m : List UInt8} {p r k : Nat}
theorem Same.byte (h : Same l p m r k) (j : Nat) (hj : j < k) : byteAt l (p + j) = byteAt m (r + j) := by
  unfold byteAt
  rw [h j hj]
theorem Same.byte0 (h : Same l p m r k) (hk : 0 < k) : byteAt l p = byteAt m r := h.byte 0 hk
theorem Same.sub (h : Same l p m r k) (i n : Nat) (hi : i + n ≤ k) : Same l (p + i) m (r + i) n := by
  intro j hj
  have := h (i + j) (by omega)
  rwa [← Nat.add_assoc, ← Nat.add_assoc] at this
theorem Same.le (h : Same l p m r k) (n : Nat) (hn : n ≤ k) : Same l p m r n := fun j hj => h j (by omega)
theorem Same.lt (h : Same l p m r k) (j : Nat) (hj : j < k) : p + j < l.length ↔ r + j < m.length := by
  have := h j hj
  constructor
  · intro h1
    rw [List.getElem?_eq_getElem h1] at this
    exact (List.getElem?_eq_some_iff.1 this.symm).1
  · intro h1
    rw [List.getElem?_eq_getElem h1] at this
    exact (List.getElem?_eq_some_iff.1 this).1
theorem Same.take (h : Same l p m r k) : (l.drop p).take k = (m.drop r).take k := by
  apply List.ext_getElem?
  intro j
  by_cases hj : j < k
  · rw [List.getElem?_take_of_lt hj, List.getElem?_take_of_lt hj, List.getElem?_drop, List.getElem?_drop]
    exact h j hj
  · rw [List.getElem?_take_eq_none (by omega), List.getElem?_take_eq_none (by omega)]
theorem Same.end_ (h : Same l p m r k) (hk : 0 < k) (hp : p + k ≤ l.length) : r + k ≤ m.length := by
  have := (h.lt (k - 1) (by omega)).1 (by omega)
  omega
theorem Same.pre (h : Same l p m r k) (s : List UInt8) (hs : s.length ≤ k) : s.isPrefixOf (l.drop p) = s.isPrefixOf (m.drop r) := by
  have e := (h.le _ hs).take
  rw [Bool.eq_iff_iff, List.isPrefixOf_iff_prefix, List.isPrefixOf_iff_prefix, List.prefix_iff_eq_take, List.prefix_iff_eq_take, e]
theorem Same.hxs (h : Same l p m r k) : ∀ n, n ≤ k → Go.Proofs.Ytjdeohgedlhbcaa.hxs l p n = Go.Proofs.Ytjdeohgedlhbcaa.hxs m r n := by
  intro n
  induction n with
  | zero => intro _; rfl
  | succ n ih =>
    intro hn
    simp only [Go.Proofs.Ytjdeohgedlhbcaa.hxs]
    rw [ih (by omega), h.byte n (by omega)]
theorem Same.ustep (h : Same l p m r k) (i : Nat) (hi : i < k) : Go.Proofs.Ytjdeohgedlhbcaa.ustep l p i = Go.Proofs.Ytjdeohgedlhbcaa.ustep m r i := by
  unfold Go.Proofs.Ytjdeohgedlhbcaa.ustep
  rw [h.byte i hi, h.byte0 (by omega)]
  simp only [h.lt i hi]
theorem Same.ustat (h : Same l p m r k) : ∀ n, n < k → Go.Proofs.Ytjdeohgedlhbcaa.ustat l p n = Go.Proofs.Ytjdeohgedlhbcaa.ustat m r n := by
  intro n
  induction n with
  | zero => intro _; rfl
  | succ n ih =>
    intro hn
    simp only [Go.Proofs.Ytjdeohgedlhbcaa.ustat]
    rw [ih (by omega), h.ustep (n + 1) hn]
theorem Same.ulen (h : Same l p m r k) (hk : 0 < k) : Go.Proofs.Ytjdeohgedlhbcaa.ulen l p = Go.Proofs.Ytjdeohgedlhbcaa.ulen m r := by
  unfold Go.Proofs.Ytjdeohgedlhbcaa.ulen
  rw [h.byte0 hk]
theorem Same.uerr (h : Same l p m r k) (hk : 0 < k) (hu : Go.Proofs.Ytjdeohgedlhbcaa.ulen l p ≤ k) : Go.Proofs.Ytjdeohgedlhbcaa.uerr l p = Go.Proofs.Ytjdeohgedlhbcaa.uerr m r := by
  unfold Go.Proofs.Ytjdeohgedlhbcaa.ulen at hu
  unfold Go.Proofs.Ytjdeohgedlhbcaa.uerr
  have e := h.lt 0 hk
  simp only [Nat.add_zero] at e
  simp only [e]
  rw [← h.byte0 hk]
  by_cases h0 : ufirst (byteAt l p) = 0
  · simp only [if_pos h0]
  · simp only [if_neg h0]
    rw [h.ustat _ (by omega)]
theorem Same.esc {bs : List UInt8} {q : Nat} (h : Same l p m r k) (he : mEsc l p = some (bs, q)) (hk : q - p ≤ k) : mEsc m r = some (bs, r + (q - p)) := by
  have hq := (mEsc_bound he).1
  have hb := h.byte0 (by omega)
  unfold mEsc at he ⊢
  rw [← hb]
  cases hm : escOf (byteAt l p) with
  | some x =>
    rw [hm] at he
    simp only [Option.some.injEq, Prod.mk.injEq] at he
    obtain ⟨rfl, rfl⟩ := he
    simp
  | none =>
    rw [hm] at he
    simp only [] at he ⊢
    by_cases h117 : (byteAt l p).toNat = 117
    · rw [if_pos h117] at he ⊢
      by_cases hc : 55296 ≤ hexR (Go.Proofs.Ytjdeohgedlhbcaa.hxs l (p + 1) 4) ∧ hexR (Go.Proofs.Ytjdeohgedlhbcaa.hxs l (p + 1) 4) < 56320 ∧ ([92, 117] : List UInt8).isPrefixOf (l.drop (p + 5)) = true
      · rw [if_pos hc] at he
        by_cases hv : pairv (hexR (Go.Proofs.Ytjdeohgedlhbcaa.hxs l (p + 1) 4)) (hexR (Go.Proofs.Ytjdeohgedlhbcaa.hxs l (p + 7) 4)) = 0
        · rw [if_pos hv] at he; simp at he
        · rw [if_neg hv] at he
          simp only [Option.some.injEq, Prod.mk.injEq] at he
          obtain ⟨rfl, rfl⟩ := he
          have e1 := (h.sub 1 4 (by omega)).hxs 4 (Nat.le_refl _)
          have e2 := (h.sub 7 4 (by omega)).hxs 4 (Nat.le_refl _)
          have e3 := (h.sub 5 2 (by omega)).pre [92, 117] (by simp)
          rw [e1, e3] at hc
          rw [e1, e2] at hv ⊢
          rw [if_pos hc, if_neg hv]
          simp
      · rw [if_neg hc] at he
        by_cases hi : isChr (hexR (Go.Proofs.Ytjdeohgedlhbcaa.hxs l (p + 1) 4)) = true
        · rw [if_pos hi] at he
          simp only [Option.some.injEq, Prod.mk.injEq] at he
          obtain ⟨rfl, rfl⟩ := he
          have e1 := (h.sub 1 4 (by omega)).hxs 4 (Nat.le_refl _)
          have hc2 : _ ∧ _ ∧ _ := of_decide_eq_true hi
          rw [e1] at hi hc2 ⊢
          rw [if_neg (by omega), if_pos hi]
          simp
        · rw [if_neg hi] at he; simp at he
    · rw [if_neg h117] at he; simp at he
theorem Same.text : ∀ (n : Nat) {p r : Nat} {T S : List UInt8} {q : Nat}, l.length - p ≤ n → mText l p T = some (S, q) → Same l p m r (q - p) → mText m r T = some (S, r + (q - p)) := by
  intro n
  induction n with
  | zero =>
    intro p r T S q hn h hs
    have := mText_bound _ _ _ _ _ (Nat.le_refl _) h
    omega
  | succ n ih =>
    intro p r T S q hn h hs
    have hbd := mText_bound _ _ _ _ _ (Nat.le_refl _) h
    have hb := hs.byte0 (by omega)
    have hlt : r < m.length := by
      have := (hs.lt 0 (by omega)).1 (by omega)
      omega
    rw [mText, dif_pos (by omega)] at h
    rw [mText, dif_pos hlt, ← hb]
    split at h
    · simp at h
    · rename_i h32
      rw [if_neg h32]
      split at h
      · rename_i h34
        rw [if_pos h34]
        simp only [Option.some.injEq, Prod.mk.injEq] at h ⊢
        obtain ⟨rfl, rfl⟩ := h
        exact ⟨rfl, by omega⟩
      · rename_i h34
        rw [if_neg h34]
        split at h
        · rename_i h92
          rw [if_pos h92]
          cases he : mEsc l (p + 1) with
          | none => rw [he] at h; simp at h
          | some x =>
            obtain ⟨bs, z⟩ := x
            rw [he] at h
            simp only [] at h
            have hz := (mEsc_bound he).1
            rw [dif_pos (by omega)] at h
            have hzq := mText_bound _ _ _ _ _ (Nat.le_refl _) h
            have he2 := (hs.sub 1 (q - p - 1) (by omega)).esc he (by omega)
            rw [he2]
            simp only []
            rw [dif_pos (by omega)]
            have := ih (r := r + (z - p)) (by omega) h (by
              have := hs.sub (z - p) (q - z) (by omega)
              rwa [show p + (z - p) = z from by omega] at this)
            rw [show r + 1 + (z - (p + 1)) = r + (z - p) from by omega, this, show r + (z - p) + (q - z) = r + (q - p) from by omega]
        · rename_i h92
          rw [if_neg h92]
          split at h
          · rename_i hu
            have hub := ulen_bound hu
            rw [dif_pos hub.1] at h
            have hzq := mText_bound _ _ _ _ _ (Nat.le_refl _) h
            have hu2 := hs.uerr (by omega) (by omega)
            have hl2 := hs.ulen (by omega)
            rw [if_pos (hu2 ▸ hu), dif_pos (hl2 ▸ hub.1), ← hl2]
            have ht := (hs.le (Go.Proofs.Ytjdeohgedlhbcaa.ulen l p) (by omega)).take
            rw [← ht]
            have := ih (r := r + Go.Proofs.Ytjdeohgedlhbcaa.ulen l p) (by omega) h (by
              have := hs.sub (Go.Proofs.Ytjdeohgedlhbcaa.ulen l p) (q - p - Go.Proofs.Ytjdeohgedlhbcaa.ulen l p) (by omega)
              rwa [show q - p - Go.Proofs.Ytjdeohgedlhbcaa.ulen l p = q - (p + Go.Proofs.Ytjdeohgedlhbcaa.ulen l p) from by omega] at this)
            rw [this, show r + Go.Proofs.Ytjdeohgedlhbcaa.ulen l p + (q - (p + Go.Proofs.Ytjdeohgedlhbcaa.ulen l p)) = r + (q - p) from by omega]
          · simp at h

theorem tw_unique {f : UInt8 → Bool} {l : List UInt8} : ∀ {q n : Nat}, (∀ k, k < n → q + k < l.length ∧ f (byteAt l (q + k)) = true) → (q + n < l.length → f (byteAt l (q + n)) = false) → tw f l q = n := by
  intro q n h1 h2
  unfold tw
  rcases Nat.lt_trichotomy ((l.drop q).takeWhile f).length n with h | h | h
  · exfalso
    have h3 := h1 _ h
    have := tw_end f l q (by unfold tw; exact h3.1)
    unfold tw at this
    rw [h3.2] at this
    simp at this
  · exact h
  · exfalso
    have h3 := tw_lt f l q n (by unfold tw; exact h)
    have := h2 h3.2
    rw [h3.1] at this
    simp at this
theorem dcount_tw (l : List UInt8) (q : Nat) : dcount l q = tw isDig l q := rfl

theorem mnFrom_ge (l : List UInt8) (p : Nat) : p ≤ mnFrom l p := by unfold mnFrom; split <;> omega
/-- What stands behind a word, so that it ends there. -/
def Behind (m : List UInt8) (e : Nat) : Prop := isLet (byteAt m e) = false ∧ byteAt m e ≠ 46
theorem isDig_let {c : UInt8} (h : isLet c = false) : isDig c = false := by
  unfold isLet at h
  unfold isDig
  simp at h ⊢
  omega
theorem Same.num (hp : p < l.length) (h0 : mnErr l p = 0) (h : Same l p m r (mnEnd l p - p)) (ha : Behind m (r + (mnEnd l p - p))) :
    mnErr m r = 0 ∧ mnInt m r = mnInt l p ∧ mnEnd m r = r + (mnEnd l p - p) := by
  have hbd := mnEnd_bound h0 hp
  have hb := h.byte0 (by omega)
  have hg := mnFrom_ge l p
  have hf : mnFrom m r = r + (mnFrom l p - p) := by
    unfold mnFrom
    rw [← hb]
    split <;> omega
  have hend : mnEnd l p = mnFrom l p + dcount l (mnFrom l p) := rfl
  have hd0 : dcount l (mnFrom l p) ≠ 0 := by
    intro e
    unfold mnErr at h0
    rw [if_pos (.inl e)] at h0
    omega
  have hs2 : Same l (mnFrom l p) m (mnFrom m r) (dcount l (mnFrom l p)) := by
    have := h.sub (mnFrom l p - p) (dcount l (mnFrom l p)) (by omega)
    rwa [show p + (mnFrom l p - p) = mnFrom l p from by omega, ← hf] at this
  have hdc : dcount m (mnFrom m r) = dcount l (mnFrom l p) := by
    rw [dcount_tw m]
    refine tw_unique (fun k hk => ?_) (fun _ => ?_)
    · have h1 := dcount_dig l (mnFrom l p) k hk
      exact ⟨(hs2.lt k hk).1 h1.2, by rw [← hs2.byte k hk]; exact h1.1⟩
    · rw [hf, show r + (mnFrom l p - p) + dcount l (mnFrom l p) = r + (mnEnd l p - p) from by omega]
      exact isDig_let ha.1
  have he : mnEnd m r = r + (mnEnd l p - p) := by
    unfold mnEnd
    rw [hdc, hf]
    omega
  have hv : mnVal m r = mnVal l p := by
    unfold mnVal
    rw [hdc, hs2.take]
  refine ⟨?_, ?_, he⟩
  · unfold mnErr at h0 ⊢
    rw [he, hdc, hv, ← hb, ← hs2.byte0 (by omega)]
    split at h0
    · omega
    · rename_i h1
      rw [if_neg h1]
      split at h0
      · omega
      · split at h0
        · omega
        · split at h0
          · omega
          · rename_i h4
            have hb1 := ha.1
            have hn : ¬ (byteAt m (r + (mnEnd l p - p)) = 46 ∨ byteAt m (r + (mnEnd l p - p)) = 101 ∨ byteAt m (r + (mnEnd l p - p)) = 69) := by
              rintro (h | h | h)
              · exact ha.2 h
              · rw [h] at hb1; simp [isLet] at hb1
              · rw [h] at hb1; simp [isLet] at hb1
            rw [if_neg hn, if_neg (by rw [hb1]; simp), if_neg h4]
  · unfold mnInt
    rw [hv, hb]
theorem pre_byte {s : List UInt8} {x : UInt8} (h : (x :: s).isPrefixOf (l.drop p) = true) : byteAt l p = x := by
  obtain ⟨t, ht⟩ := List.isPrefixOf_iff_prefix.1 h
  have : (l.drop p)[0]? = some x := by rw [← ht]; rfl
  rw [List.getElem?_drop] at this
  unfold byteAt
  rw [show p + 0 = p from rfl] at this
  rw [this]
  rfl
theorem Same.named {x : Nat × Int × Nat} (hn : mNamed l p = some x) (h : Same l p m r x.2.2) : mNamed m r = some x := by
  unfold mNamed at hn ⊢
  have z1 : sTrue.data.toList.length = 4 := rfl
  have z2 : sFalse.data.toList.length = 5 := rfl
  have z3 : sNull.data.toList.length = 4 := rfl
  split at hn
  · rename_i h1
    simp only [Option.some.injEq] at hn
    subst hn
    rw [if_pos (by rw [← h.pre _ (by rw [z1]; exact Nat.le_refl _)]; exact h1)]
  · rename_i h1
    split at hn
    · rename_i h2
      simp only [Option.some.injEq] at hn
      subst hn
      rw [if_neg (by rw [← h.pre _ (by rw [z1]; exact Nat.le_succ 4)]; exact h1), if_pos (by rw [← h.pre _ (by rw [z2]; exact Nat.le_refl _)]; exact h2)]
    · rename_i h2
      split at hn
      · rename_i h3
        simp only [Option.some.injEq] at hn
        subst hn
        have hb : byteAt m r = 110 := by rw [← h.byte0 (by simp)]; exact pre_byte h3
        have hf : ¬ sFalse.data.toList.isPrefixOf (m.drop r) = true := by
          intro hc
          have := pre_byte hc
          rw [hb] at this
          simp at this
        rw [if_neg (by rw [← h.pre _ (by rw [z1]; exact Nat.le_refl _)]; exact h1), if_neg hf, if_pos (by rw [← h.pre _ (by rw [z3]; exact Nat.le_refl _)]; exact h3)]
      · simp at hn
/-- A word elsewhere. -/
theorem Same.word (hp : p < l.length) (h0 : (mWord l p).e = 0) (h : Same l p m r ((mWord l p).nx - p)) (ha : Behind m (r + ((mWord l p).nx - p))) :
    mWord m r = ⟨0, (mWord l p).k, (mWord l p).n, (mWord l p).s, r + ((mWord l p).nx - p)⟩ := by
  have hbd := mWord_bound h0 hp
  have hb := h.byte0 (by omega)
  unfold mWord at h0 h ha ⊢
  rw [← hb]
  by_cases h1 : signOf (byteAt l p) ≠ 0
  · simp only [if_pos h1]
    congr 1
    omega
  · simp only [if_neg h1] at h0 h ha ⊢
    by_cases h2 : (byteAt l p).toNat = 34
    · simp only [if_pos h2] at h0 h ha ⊢
      cases hm : mText l (p + 1) [] with
      | none => rw [hm] at h0; simp at h0
      | some x =>
        obtain ⟨S, q⟩ := x
        rw [hm] at h0 h ha
        simp only [] at h0 h ha ⊢
        have hq := mText_bound _ _ _ _ _ (Nat.le_refl _) hm
        have := Same.text _ (Nat.le_refl _) hm (h.sub 1 (q - (p + 1)) (by omega))
        rw [this]
        simp only []
        congr 1
        omega
    · simp only [if_neg h2] at h0 h ha ⊢
      by_cases h3 : (byteAt l p).toNat = 45 ∨ isDig (byteAt l p) = true
      · simp only [if_pos h3] at h0 h ha ⊢
        by_cases h4 : mnErr l p = 0
        · simp only [if_pos h4] at h0 h ha ⊢
          obtain ⟨e1, e2, e3⟩ := Same.num hp h4 h ha
          rw [if_pos e1, e2, e3]
        · simp only [if_neg h4] at h0
          exact absurd h0 h4
      · simp only [if_neg h3] at h0 h ha ⊢
        unfold mLet at h0 h ha ⊢
        cases hn : mNamed l p with
        | none => rw [hn] at h0; simp at h0
        | some x =>
          obtain ⟨k, n, z⟩ := x
          rw [hn] at h0 h ha
          simp only [] at h0 h ha ⊢
          by_cases h4 : isLet (byteAt l (p + z)) = true
          · rw [if_pos h4] at h0; simp at h0
          · simp only [if_neg h4] at h0 h ha ⊢
            rw [show p + z - p = z from by omega] at h ha ⊢
            rw [Same.named hn h]
            simp only []
            rw [if_neg (by rw [ha.1]; simp)]

end Go.Proofs.Ytjdeohgedlhbcaa
