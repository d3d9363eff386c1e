/- Texts that lead to the law DfltFields, joined. -/
import Derived.Test.YtllnlmchjljhlaaGreatDoorProg
import Derived.WalkKit
import Derived.WalkSpells
import Derived.WalkLawsBesides
import Derived.Handy
import Derived.Lib.Hide
import Derived.Laws.BytesArg
import Derived.Lib.SlBytesConst
import Derived.Test.YtllnlmchjljhlaaGreatDoorPkDfltFieldsXTy
import Derived.Test.YtllnlmchjljhlaaGreatDoorPkDfltFieldsXAbB
namespace Go.Proofs.YtllnlmchjljhlaaGreatDoor
open Go.RowKit
set_option linter.unusedVariables false
set_option linter.unusedSimpArgs false

def BytesAt (w : World) (a : Option Addr) (b off : Nat) (l : List UInt8) : Prop :=
  (l ≠ [] → a = some ⟨b, off, none⟩) ∧ ∀ j, j < l.length → w.cell? ⟨b, off + j, none⟩ = some (.int .u8 ((l[j]?.getD 0).toNat : Int))
def str (l : List UInt8) : ByteArray := ⟨l.toArray⟩
theorem str_toList (l : List UInt8) : (str l).toList = l := by rw [ByteArray.toList_eq]; rfl
theorem str_size (l : List UInt8) : (str l).size = l.length := by simp [str, ByteArray.size]
theorem str_of (s : ByteArray) : str s.data.toList = s := by cases s; rfl
theorem BytesAt.keep {w w' : World} {a : Option Addr} {b off : Nat} {l : List UInt8} (h : BytesAt w a b off l) {B : Nat} (hb : Below B w w') (hlt : l ≠ [] → b < B) : BytesAt w' a b off l := by
  refine ⟨h.1, fun j hj => ?_⟩
  rw [← h.2 j hj]
  exact hb.cell (p := ⟨b, off + j, none⟩) (hlt (by intro e; subst e; simp at hj))
theorem BytesAt.lt {w : World} {a : Option Addr} {b off : Nat} {l : List UInt8} (h : BytesAt w a b off l) (hne : l ≠ []) : b < w.heap.size := by
  have := h.2 0 (List.length_pos_iff.2 hne)
  rcases Nat.lt_or_ge b w.heap.size with h | h
  · exact h
  · simp [World.cell?, Array.getElem?_eq_none h] at this
theorem BytesAt.below {w w' : World} {a : Option Addr} {b off : Nat} {l : List UInt8} (h : BytesAt w a b off l) (hb : Below w.heap.size w w') : BytesAt w' a b off l :=
  h.keep hb fun hne => h.lt hne
section

def byteAt (l : List UInt8) (i : Nat) : UInt8 := l[i]?.getD 0
def ufirst (c : UInt8) : Nat := if c.toNat < 128 then 1 else if c.toNat < 194 then 0 else if c.toNat < 224 then 2 else if c.toNat < 240 then 3 else if c.toNat < 245 then 4 else 0
def ulo (a : UInt8) : Nat := if a.toNat = 224 then 160 else if a.toNat = 240 then 144 else 128
def uhi (a : UInt8) : Nat := if a.toNat = 237 then 159 else if a.toNat = 244 then 143 else 191
def usec (a b : UInt8) : Bool := decide (ulo a ≤ b.toNat ∧ b.toNat ≤ uhi a)
def ucont (b : UInt8) : Bool := decide (128 ≤ b.toNat ∧ b.toNat < 192)
def ustep (l : List UInt8) (p i : Nat) : Nat := if p + i < l.length then (if ucont (byteAt l (p + i)) = true ∧ (i = 1 → usec (byteAt l p) (byteAt l (p + i)) = true) then 0 else 11) else 10
def ustat (l : List UInt8) (p : Nat) : Nat → Nat
  | 0 => 0
  | k + 1 => if ustat l p k = 0 then ustep l p (k + 1) else ustat l p k
def uerr (l : List UInt8) (p : Nat) : Nat := if p < l.length then (if ufirst (byteAt l p) = 0 then 11 else ustat l p (ufirst (byteAt l p) - 1)) else 10
def ulen (l : List UInt8) (p : Nat) : Nat := ufirst (byteAt l p)
def ufv (c : UInt8) : Nat := if c.toNat < 128 then c.toNat else if c.toNat < 194 then 0 else if c.toNat < 224 then c.toNat % 32 else if c.toNat < 240 then c.toNat % 16 else if c.toNat < 245 then c.toNat % 8 else 0
def uval (l : List UInt8) (p : Nat) : Nat → Nat
  | 0 => ufv (byteAt l p)
  | k + 1 => uval l p k * 64 + (byteAt l (p + (k + 1))).toNat % 64
theorem ustat_mono {l : List UInt8} {p k : Nat} (h : ustat l p k ≠ 0) : ∀ j, ustat l p (k + j) = ustat l p k := by
  intro j
  induction j with
  | zero => rfl
  | succ j ih => rw [show k + (j + 1) = (k + j) + 1 from by omega]; simp only [ustat]; rw [ih, if_neg h]
theorem ustat_bad {l : List UInt8} {p i n : Nat} (hi : 1 ≤ i) (hin : i < n) (h0 : ustat l p (i - 1) = 0) (h : ustep l p i ≠ 0) : ustat l p (n - 1) = ustep l p i := by
  have h1 : ustat l p i = ustep l p i := by
    cases i with
    | zero => omega
    | succ i => simp only [ustat]; rw [if_pos (by simpa using h0)]
  have := ustat_mono (l := l) (p := p) (k := i) (by rw [h1]; exact h) (n - 1 - i)
  rw [h1] at this
  rwa [show i + (n - 1 - i) = n - 1 from by omega] at this
theorem ustat_next {l : List UInt8} {p k : Nat} (h0 : ustat l p k = 0) (h : ustep l p (k + 1) = 0) : ustat l p (k + 1) = 0 := by
  simp only [ustat]; rw [if_pos h0, h]
variable {l : List UInt8} {p : Nat}
theorem ulen_bound (h : uerr l p = 0) : 0 < ulen l p ∧ p + ulen l p ≤ l.length := by
  unfold uerr at h
  split at h
  · rename_i hp
    split at h
    · simp at h
    · rename_i hf
      refine ⟨by unfold ulen; omega, ?_⟩
      unfold ulen
      have key : ∀ k, ustat l p k = 0 → p + k < l.length := by
        intro k
        induction k with
        | zero => intro _; omega
        | succ k ih =>
          intro hk
          simp only [ustat] at hk
          split at hk
          · unfold ustep at hk
            split at hk
            · omega
            · simp at hk
          · rename_i h1; exact absurd hk h1
      have := key _ h
      omega
  · simp at h
def uCnt (l : List UInt8) (p k : Nat) : Nat × Nat :=
  if h : p < l.length then (if h2 : uerr l p = 0 ∧ 0 < ulen l p then uCnt l (p + ulen l p) (k + 1) else (0, 11)) else (k, 0)
termination_by l.length - p
theorem uCnt_end {l : List UInt8} {p k : Nat} (h : ¬ p < l.length) : uCnt l p k = (k, 0) := by rw [uCnt, dif_neg h]
theorem uCnt_bad {l : List UInt8} {p k : Nat} (h : p < l.length) (h2 : uerr l p ≠ 0) : uCnt l p k = (0, 11) := by rw [uCnt, dif_pos h, dif_neg (fun x => h2 x.1)]
theorem uCnt_next {l : List UInt8} {p k : Nat} (h : p < l.length) (h2 : uerr l p = 0) : uCnt l p k = uCnt l (p + ulen l p) (k + 1) := by rw [uCnt, dif_pos h, dif_pos ⟨h2, (ulen_bound h2).1⟩]
def isRight (l : List UInt8) : Bool := decide ((uCnt l 0 0).2 = 0)
end
section

def isChr (c : Int) : Bool := decide (0 ≤ c ∧ c ≤ 1114111 ∧ (c < 55296 ∨ 57344 ≤ c))
def uenc (c : Nat) : List UInt8 :=
  if c < 128 then [c.toUInt8] else if c < 2048 then [(192 + c / 64).toUInt8, (128 + c % 64).toUInt8]
  else if c < 65536 then [(224 + c / 4096).toUInt8, (128 + c / 64 % 64).toUInt8, (128 + c % 64).toUInt8]
  else [(240 + c / 262144).toUInt8, (128 + c / 4096 % 64).toUInt8, (128 + c / 64 % 64).toUInt8, (128 + c % 64).toUInt8]
theorem uenc_len (c : Nat) : (uenc c).length ≤ 4 := by
  unfold uenc
  split
  · simp
  · split
    · simp
    · split <;> simp
variable {l : List UInt8} {p : Nat}
def bN (l : List UInt8) (i : Nat) : Nat := (byteAt l i).toNat
theorem bN_lt (l : List UInt8) (i : Nat) : bN l i < 256 := (byteAt l i).toNat_lt
def UForm (l : List UInt8) (p : Nat) (n : Nat) : Prop :=
  (n = 1 ∧ p < l.length ∧ bN l p < 128) ∨
  (n = 2 ∧ p + 1 < l.length ∧ 194 ≤ bN l p ∧ bN l p < 224 ∧ 128 ≤ bN l (p + 1) ∧ bN l (p + 1) < 192) ∨
  (n = 3 ∧ p + 2 < l.length ∧ 224 ≤ bN l p ∧ bN l p < 240 ∧ 128 ≤ bN l (p + 1) ∧ bN l (p + 1) < 192 ∧ 128 ≤ bN l (p + 2) ∧ bN l (p + 2) < 192 ∧ (bN l p = 224 → 160 ≤ bN l (p + 1)) ∧ (bN l p = 237 → bN l (p + 1) ≤ 159)) ∨
  (n = 4 ∧ p + 3 < l.length ∧ 240 ≤ bN l p ∧ bN l p < 245 ∧ 128 ≤ bN l (p + 1) ∧ bN l (p + 1) < 192 ∧ 128 ≤ bN l (p + 2) ∧ bN l (p + 2) < 192 ∧ 128 ≤ bN l (p + 3) ∧ bN l (p + 3) < 192 ∧ (bN l p = 240 → 144 ≤ bN l (p + 1)) ∧ (bN l p = 244 → bN l (p + 1) ≤ 143))
def cvN (l : List UInt8) (p n : Nat) : Int :=
  if n = 1 then (bN l p : Int) else if n = 2 then ((bN l p : Int) - 192) * 64 + ((bN l (p + 1) : Int) - 128)
  else if n = 3 then ((bN l p : Int) - 224) * 4096 + ((bN l (p + 1) : Int) - 128) * 64 + ((bN l (p + 2) : Int) - 128)
  else ((bN l p : Int) - 240) * 262144 + ((bN l (p + 1) : Int) - 128) * 4096 + ((bN l (p + 2) : Int) - 128) * 64 + ((bN l (p + 3) : Int) - 128)
def wtest (l : List UInt8) (p n : Nat) : Bool := isChr (cvN l p n) && (((uenc (cvN l p n).toNat).length == n) && (uenc (cvN l p n).toNat).isPrefixOf (l.drop p))
theorem ustep_zero {i : Nat} : ustep l p i = 0 ↔ p + i < l.length ∧ 128 ≤ bN l (p + i) ∧ bN l (p + i) < 192 ∧ (i = 1 → ulo (byteAt l p) ≤ bN l (p + i) ∧ bN l (p + i) ≤ uhi (byteAt l p)) := by
  unfold ustep ucont usec bN
  by_cases h : p + i < l.length
  · rw [if_pos h]
    simp only [decide_eq_true_eq]
    split
    · rename_i h2; simp only [h, true_and, true_iff]; exact ⟨h2.1.1, h2.1.2, h2.2⟩
    · rename_i h2
      constructor
      · intro h3; omega
      · intro h3; exact absurd ⟨⟨h3.2.1, h3.2.2.1⟩, h3.2.2.2⟩ h2
  · rw [if_neg h]
    constructor
    · intro h3; omega
    · intro h3; exact absurd h3.1 h
theorem ustat_zero {k : Nat} : ustat l p (k + 1) = 0 ↔ ustat l p k = 0 ∧ ustep l p (k + 1) = 0 := by
  simp only [ustat]
  split
  · rename_i h; simp [h]
  · rename_i h; simp [h]
theorem ulo_le (c : UInt8) : (c.toNat = 224 → ulo c = 160) ∧ (c.toNat = 240 → ulo c = 144) ∧ (c.toNat ≠ 224 → c.toNat ≠ 240 → ulo c = 128) := by
  unfold ulo
  refine ⟨fun h => by rw [if_pos h], fun h => by rw [if_neg (by omega), if_pos h], fun h h' => by rw [if_neg h, if_neg h']⟩
theorem uhi_le (c : UInt8) : (c.toNat = 237 → uhi c = 159) ∧ (c.toNat = 244 → uhi c = 143) ∧ (c.toNat ≠ 237 → c.toNat ≠ 244 → uhi c = 191) := by
  unfold uhi
  refine ⟨fun h => by rw [if_pos h], fun h => by rw [if_neg (by omega), if_pos h], fun h h' => by rw [if_neg h, if_neg h']⟩
theorem ufirst_one {c : UInt8} (h : c.toNat < 128) : ufirst c = 1 := by unfold ufirst; rw [if_pos h]
theorem ufirst_two {c : UInt8} (h : 194 ≤ c.toNat) (h' : c.toNat < 224) : ufirst c = 2 := by unfold ufirst; rw [if_neg (by omega), if_neg (by omega), if_pos h']
theorem ufirst_three {c : UInt8} (h : 224 ≤ c.toNat) (h' : c.toNat < 240) : ufirst c = 3 := by unfold ufirst; rw [if_neg (by omega), if_neg (by omega), if_neg (by omega), if_pos h']
theorem ufirst_four {c : UInt8} (h : 240 ≤ c.toNat) (h' : c.toNat < 245) : ufirst c = 4 := by unfold ufirst; rw [if_neg (by omega), if_neg (by omega), if_neg (by omega), if_neg (by omega), if_pos h']
theorem ufirst_none {c : UInt8} (h : (128 ≤ c.toNat ∧ c.toNat < 194) ∨ 245 ≤ c.toNat) : ufirst c = 0 := by
  unfold ufirst
  rcases h with h | h
  · rw [if_neg (by omega), if_pos (by omega)]
  · rw [if_neg (by omega), if_neg (by omega), if_neg (by omega), if_neg (by omega), if_neg (by omega)]
theorem form_uerr {n : Nat} (h : UForm l p n) : uerr l p = 0 ∧ ulen l p = n := by
  have hlo := ulo_le (byteAt l p)
  have hhi := uhi_le (byteAt l p)
  unfold UForm at h
  unfold uerr ulen
  rcases h with ⟨rfl, h0, h1⟩ | ⟨rfl, h0, h1, h2, h3, h4⟩ | ⟨rfl, h0, h1, h2, h3, h4, h5, h6, h7, h8⟩ | ⟨rfl, h0, h1, h2, h3, h4, h5, h6, h7, h8, h9, h10⟩
  · rw [if_pos h0, ufirst_one h1]
    exact ⟨rfl, rfl⟩
  · rw [if_pos (by omega), ufirst_two h1 h2]
    refine ⟨?_, rfl⟩
    rw [if_neg (by decide)]
    have e1 : ustep l p 1 = 0 := ustep_zero.2 ⟨h0, h3, h4, fun _ => by unfold bN at *; rw [hlo.2.2 (by omega) (by omega), hhi.2.2 (by omega) (by omega)]; omega⟩
    exact ustat_zero.2 ⟨rfl, e1⟩
  · rw [if_pos (by omega), ufirst_three h1 h2]
    refine ⟨?_, rfl⟩
    rw [if_neg (by decide)]
    have e1 : ustep l p 1 = 0 := ustep_zero.2 ⟨by omega, h3, h4, fun _ => by
      unfold bN at *
      constructor
      · by_cases q : (byteAt l p).toNat = 224
        · rw [hlo.1 q]; exact h7 q
        · rw [hlo.2.2 q (by omega)]; exact h3
      · by_cases q : (byteAt l p).toNat = 237
        · rw [hhi.1 q]; exact h8 q
        · rw [hhi.2.2 q (by omega)]; omega⟩
    have e2 : ustep l p 2 = 0 := ustep_zero.2 ⟨by omega, h5, h6, fun q => by omega⟩
    exact ustat_zero.2 ⟨ustat_zero.2 ⟨rfl, e1⟩, e2⟩
  · rw [if_pos (by omega), ufirst_four h1 h2]
    refine ⟨?_, rfl⟩
    rw [if_neg (by decide)]
    have e1 : ustep l p 1 = 0 := ustep_zero.2 ⟨by omega, h3, h4, fun _ => by
      unfold bN at *
      constructor
      · by_cases q : (byteAt l p).toNat = 240
        · rw [hlo.2.1 q]; exact h9 q
        · rw [hlo.2.2 (by omega) q]; exact h3
      · by_cases q : (byteAt l p).toNat = 244
        · rw [hhi.2.1 q]; exact h10 q
        · rw [hhi.2.2 (by omega) q]; omega⟩
    have e2 : ustep l p 2 = 0 := ustep_zero.2 ⟨by omega, h5, h6, fun q => by omega⟩
    have e3 : ustep l p 3 = 0 := ustep_zero.2 ⟨by omega, h7, h8, fun q => by omega⟩
    exact ustat_zero.2 ⟨ustat_zero.2 ⟨ustat_zero.2 ⟨rfl, e1⟩, e2⟩, e3⟩
theorem uerr_form (h : uerr l p = 0) : UForm l p (ulen l p) := by
  have hlo := ulo_le (byteAt l p)
  have hhi := uhi_le (byteAt l p)
  unfold uerr at h
  unfold ulen UForm
  by_cases hp : p < l.length
  · rw [if_pos hp] at h
    have hb := bN_lt l p
    unfold bN at hb
    have hr : (byteAt l p).toNat < 128 ∨ ((128 ≤ (byteAt l p).toNat ∧ (byteAt l p).toNat < 194) ∨ 245 ≤ (byteAt l p).toNat) ∨ (194 ≤ (byteAt l p).toNat ∧ (byteAt l p).toNat < 224) ∨ (224 ≤ (byteAt l p).toNat ∧ (byteAt l p).toNat < 240) ∨ (240 ≤ (byteAt l p).toNat ∧ (byteAt l p).toNat < 245) := by omega
    rcases hr with hr | hr | hr | hr | hr
    · rw [ufirst_one hr]; exact .inl ⟨rfl, hp, hr⟩
    · rw [ufirst_none hr, if_pos rfl] at h; omega
    · rw [ufirst_two hr.1 hr.2, if_neg (by decide)] at h
      rw [ufirst_two hr.1 hr.2]
      have e1 := ustep_zero.1 (ustat_zero.1 h).2
      exact .inr (.inl ⟨rfl, e1.1, hr.1, hr.2, e1.2.1, e1.2.2.1⟩)
    · rw [ufirst_three hr.1 hr.2, if_neg (by decide)] at h
      rw [ufirst_three hr.1 hr.2]
      have h2 := ustat_zero.1 h
      have e2 := ustep_zero.1 h2.2
      have e1 := ustep_zero.1 (ustat_zero.1 h2.1).2
      have e1' := e1.2.2.2 rfl
      refine .inr (.inr (.inl ⟨rfl, e2.1, hr.1, hr.2, e1.2.1, e1.2.2.1, e2.2.1, e2.2.2.1, fun q => ?_, fun q => ?_⟩))
      · rw [hlo.1 q] at e1'; exact e1'.1
      · rw [hhi.1 q] at e1'; exact e1'.2
    · rw [ufirst_four hr.1 hr.2, if_neg (by decide)] at h
      rw [ufirst_four hr.1 hr.2]
      have h3 := ustat_zero.1 h
      have e3 := ustep_zero.1 h3.2
      have h2 := ustat_zero.1 h3.1
      have e2 := ustep_zero.1 h2.2
      have e1 := ustep_zero.1 (ustat_zero.1 h2.1).2
      have e1' := e1.2.2.2 rfl
      refine .inr (.inr (.inr ⟨rfl, e3.1, hr.1, hr.2, e1.2.1, e1.2.2.1, e2.2.1, e2.2.2.1, e3.2.1, e3.2.2.1, fun q => ?_, fun q => ?_⟩))
      · rw [hlo.2.1 q] at e1'; exact e1'.1
      · rw [hhi.2.1 q] at e1'; exact e1'.2
  · rw [if_neg hp] at h; omega
theorem drop_cons {l : List UInt8} {p : Nat} (h : p < l.length) : l.drop p = byteAt l p :: l.drop (p + 1) := by
  rw [List.drop_eq_getElem_cons h]
  unfold byteAt
  rw [List.getElem?_eq_getElem h]
  rfl
theorem pre_iff {l : List UInt8} : ∀ (xs : List UInt8) (p : Nat), xs ≠ [] → (xs.isPrefixOf (l.drop p) = true ↔ p + xs.length ≤ l.length ∧ ∀ i, i < xs.length → byteAt l (p + i) = xs[i]?.getD 0) := by
  intro xs
  induction xs with
  | nil => intro p h; exact absurd rfl h
  | cons x xs ih =>
    intro p _
    by_cases hp : p < l.length
    · rw [drop_cons hp, List.isPrefixOf_cons_cons, Bool.and_eq_true, beq_iff_eq]
      by_cases hx : xs = []
      · subst hx
        simp
        constructor
        · intro h; exact ⟨by omega, h.symm⟩
        · intro h; exact h.2.symm
      · rw [ih (p + 1) hx]
        constructor
        · rintro ⟨h1, h2, h3⟩
          refine ⟨by simp; omega, fun i hi => ?_⟩
          cases i with
          | zero => simpa using h1.symm
          | succ i =>
            have := h3 i (by simp at hi; omega)
            rw [show p + (i + 1) = p + 1 + i from by omega, this]
            simp
        · rintro ⟨h1, h2⟩
          refine ⟨by simpa using (h2 0 (by simp)).symm, by simp at h1; omega, fun i hi => ?_⟩
          have := h2 (i + 1) (by simp; omega)
          rw [show p + 1 + i = p + (i + 1) from by omega, this]
          simp
    · rw [List.drop_eq_nil_of_le (by omega)]
      constructor
      · intro h; simp at h
      · intro h; simp at h; omega
theorem u8_eq {c : UInt8} {n : Nat} (h : c.toNat = n) (hn : n < 256) : c = n.toUInt8 := by
  apply UInt8.toNat_inj.1
  simp
  omega
theorem u8_ne {c : UInt8} {n : Nat} (h : c = n.toUInt8) (hn : n < 256) : c.toNat = n := by
  rw [h]
  simp
  omega
theorem isChr_iff {c : Int} : isChr c = true ↔ 0 ≤ c ∧ c ≤ 1114111 ∧ (c < 55296 ∨ 57344 ≤ c) := by unfold isChr; simp
theorem form_test {n : Nat} (h : UForm l p n) : wtest l p n = true := by
  unfold UForm at h
  unfold wtest
  rw [Bool.and_eq_true, Bool.and_eq_true, isChr_iff, beq_iff_eq]
  rcases h with ⟨rfl, h0, h1⟩ | ⟨rfl, h0, h1, h2, h3, h4⟩ | ⟨rfl, h0, h1, h2, h3, h4, h5, h6, h7, h8⟩ | ⟨rfl, h0, h1, h2, h3, h4, h5, h6, h7, h8, h9, h10⟩
  · have hc : cvN l p 1 = (bN l p : Int) := rfl
    obtain ⟨c, e⟩ : ∃ c, c = (cvN l p 1).toNat := ⟨_, rfl⟩
    have hu : uenc c = [c.toUInt8] := by unfold uenc; rw [if_pos (by omega)]
    rw [← e, hu]
    refine ⟨by omega, rfl, (pre_iff _ p (by simp)).2 ⟨by simp; omega, fun i hi => ?_⟩⟩
    simp at hi
    subst hi
    exact u8_eq (by unfold bN at *; simp; omega) (by omega)
  · have hc : cvN l p 2 = ((bN l p : Int) - 192) * 64 + ((bN l (p + 1) : Int) - 128) := rfl
    obtain ⟨c, e⟩ : ∃ c, c = (cvN l p 2).toNat := ⟨_, rfl⟩
    have hu : uenc c = [(192 + c / 64).toUInt8, (128 + c % 64).toUInt8] := by unfold uenc; rw [if_neg (by omega), if_pos (by omega)]
    rw [← e, hu]
    refine ⟨by omega, rfl, (pre_iff _ p (by simp)).2 ⟨by simp; omega, fun i hi => ?_⟩⟩
    simp at hi
    have hi : i = 0 ∨ i = 1 := by omega
    rcases hi with rfl | rfl
    · exact u8_eq (by unfold bN at *; simp; omega) (by omega)
    · exact u8_eq (by unfold bN at *; omega) (by omega)
  · have hc : cvN l p 3 = ((bN l p : Int) - 224) * 4096 + ((bN l (p + 1) : Int) - 128) * 64 + ((bN l (p + 2) : Int) - 128) := rfl
    obtain ⟨c, e⟩ : ∃ c, c = (cvN l p 3).toNat := ⟨_, rfl⟩
    have hu : uenc c = [(224 + c / 4096).toUInt8, (128 + c / 64 % 64).toUInt8, (128 + c % 64).toUInt8] := by unfold uenc; rw [if_neg (by omega), if_neg (by omega), if_pos (by omega)]
    rw [← e, hu]
    refine ⟨by omega, rfl, (pre_iff _ p (by simp)).2 ⟨by simp; omega, fun i hi => ?_⟩⟩
    simp at hi
    have hi : i = 0 ∨ i = 1 ∨ i = 2 := by omega
    rcases hi with rfl | rfl | rfl
    · exact u8_eq (by unfold bN at *; simp; omega) (by omega)
    · exact u8_eq (by unfold bN at *; omega) (by omega)
    · exact u8_eq (by unfold bN at *; omega) (by omega)
  · have hc : cvN l p 4 = ((bN l p : Int) - 240) * 262144 + ((bN l (p + 1) : Int) - 128) * 4096 + ((bN l (p + 2) : Int) - 128) * 64 + ((bN l (p + 3) : Int) - 128) := rfl
    obtain ⟨c, e⟩ : ∃ c, c = (cvN l p 4).toNat := ⟨_, rfl⟩
    have hu : uenc c = [(240 + c / 262144).toUInt8, (128 + c / 4096 % 64).toUInt8, (128 + c / 64 % 64).toUInt8, (128 + c % 64).toUInt8] := by unfold uenc; rw [if_neg (by omega), if_neg (by omega), if_neg (by omega)]
    rw [← e, hu]
    refine ⟨by omega, rfl, (pre_iff _ p (by simp)).2 ⟨by simp; omega, fun i hi => ?_⟩⟩
    simp at hi
    have hi : i = 0 ∨ i = 1 ∨ i = 2 ∨ i = 3 := by omega
    rcases hi with rfl | rfl | rfl | rfl
    · exact u8_eq (by unfold bN at *; simp; omega) (by omega)
    · exact u8_eq (by unfold bN at *; omega) (by omega)
    · exact u8_eq (by unfold bN at *; omega) (by omega)
    · exact u8_eq (by unfold bN at *; omega) (by omega)
theorem uenc_cases (c : Nat) : (c < 128 ∧ uenc c = [c.toUInt8]) ∨ (128 ≤ c ∧ c < 2048 ∧ uenc c = [(192 + c / 64).toUInt8, (128 + c % 64).toUInt8]) ∨
    (2048 ≤ c ∧ c < 65536 ∧ uenc c = [(224 + c / 4096).toUInt8, (128 + c / 64 % 64).toUInt8, (128 + c % 64).toUInt8]) ∨ (65536 ≤ c ∧ uenc c = [(240 + c / 262144).toUInt8, (128 + c / 4096 % 64).toUInt8, (128 + c / 64 % 64).toUInt8, (128 + c % 64).toUInt8]) := by
  unfold uenc
  by_cases h1 : c < 128
  · exact .inl ⟨h1, if_pos h1⟩
  by_cases h2 : c < 2048
  · exact .inr (.inl ⟨by omega, h2, by rw [if_neg h1, if_pos h2]⟩)
  by_cases h3 : c < 65536
  · exact .inr (.inr (.inl ⟨by omega, h3, by rw [if_neg h1, if_neg h2, if_pos h3]⟩))
  · exact .inr (.inr (.inr ⟨by omega, by rw [if_neg h1, if_neg h2, if_neg h3]⟩))
theorem enc_form {c : Nat} (hc : isChr (c : Int) = true) (h : (uenc c).isPrefixOf (l.drop p) = true) : UForm l p (uenc c).length := by
  have hch := isChr_iff.1 hc
  unfold UForm
  rcases uenc_cases c with ⟨h1, e⟩ | ⟨h1, h2, e⟩ | ⟨h1, h2, e⟩ | ⟨h1, e⟩
  · rw [e] at h ⊢
    obtain ⟨q1, q2⟩ := (pre_iff _ p (by simp)).1 h
    have b0 := u8_ne (q2 0 (by simp)) (by omega)
    simp at q1 b0
    refine .inl ⟨rfl, by omega, by unfold bN; omega⟩
  · rw [e] at h ⊢
    obtain ⟨q1, q2⟩ := (pre_iff _ p (by simp)).1 h
    have b0 := u8_ne (q2 0 (by simp)) (by omega)
    have b1 := u8_ne (q2 1 (by simp)) (by omega)
    simp only [Nat.add_zero, List.length_cons, List.length_nil] at q1 b0
    refine .inr (.inl ⟨rfl, by omega, ?_⟩)
    unfold bN
    omega
  · rw [e] at h ⊢
    obtain ⟨q1, q2⟩ := (pre_iff _ p (by simp)).1 h
    have b0 := u8_ne (q2 0 (by simp)) (by omega)
    have b1 := u8_ne (q2 1 (by simp)) (by omega)
    have b2 := u8_ne (q2 2 (by simp)) (by omega)
    simp only [Nat.add_zero, List.length_cons, List.length_nil] at q1 b0
    refine .inr (.inr (.inl ⟨rfl, by omega, ?_⟩))
    unfold bN
    omega
  · rw [e] at h ⊢
    obtain ⟨q1, q2⟩ := (pre_iff _ p (by simp)).1 h
    have b0 := u8_ne (q2 0 (by simp)) (by omega)
    have b1 := u8_ne (q2 1 (by simp)) (by omega)
    have b2 := u8_ne (q2 2 (by simp)) (by omega)
    have b3 := u8_ne (q2 3 (by simp)) (by omega)
    simp only [Nat.add_zero, List.length_cons, List.length_nil] at q1 b0
    refine .inr (.inr (.inr ⟨rfl, by omega, ?_⟩))
    unfold bN
    omega
theorem test_form {n : Nat} (h : wtest l p n = true) : UForm l p n := by
  unfold wtest at h
  rw [Bool.and_eq_true, Bool.and_eq_true, beq_iff_eq] at h
  obtain ⟨h1, h2, h3⟩ := h
  have h0 := isChr_iff.1 h1
  have := enc_form (l := l) (p := p) (c := (cvN l p n).toNat) (by rw [show (((cvN l p n).toNat : Nat) : Int) = cvN l p n from by omega]; exact h1) h3
  rwa [h2] at this
def wholeV (l : List UInt8) (p : Nat) : Int := if uerr l p = 0 then cvN l p (ulen l p) else -1
theorem wtest_n {n : Nat} (h : wtest l p n = true) : wholeV l p = cvN l p n := by
  obtain ⟨h1, h2⟩ := form_uerr (test_form h)
  unfold wholeV
  rw [if_pos h1, h2]
theorem wtest_none (h1 : wtest l p 1 = false) (h2 : wtest l p 2 = false) (h3 : wtest l p 3 = false) (h4 : wtest l p 4 = false) : wholeV l p = -1 := by
  unfold wholeV
  rw [if_neg]
  intro he
  have hf := uerr_form he
  have ht := form_test hf
  have hn : ulen l p = 1 ∨ ulen l p = 2 ∨ ulen l p = 3 ∨ ulen l p = 4 := by unfold UForm at hf; omega
  rcases hn with hn | hn | hn | hn <;> rw [hn] at ht <;> simp_all
theorem wtest_long {n : Nat} (h : l.length < p + n) : wtest l p n = false ∨ n = 0 := by
  by_cases h0 : n = 0
  · exact .inr h0
  · left
    cases ht : wtest l p n with
    | false => rfl
    | true =>
      have := test_form ht
      unfold UForm at this
      omega
theorem wholeV_len (h : 0 ≤ wholeV l p) : uerr l p = 0 ∧ isChr (wholeV l p) = true ∧ (uenc (wholeV l p).toNat).length = ulen l p := by
  unfold wholeV at h ⊢
  by_cases he : uerr l p = 0
  · rw [if_pos he] at h ⊢
    have ht := form_test (uerr_form he)
    unfold wtest at ht
    rw [Bool.and_eq_true, Bool.and_eq_true, beq_iff_eq] at ht
    exact ⟨he, ht.1, ht.2.1⟩
  · rw [if_neg he] at h
    omega
theorem notest {m : List UInt8} {n : Nat} (h : ∀ k, 1 ≤ k → k < n → wtest m 0 k = false) (hn : wtest m 0 n = false) : ∀ k, 1 ≤ k → k < n + 1 → wtest m 0 k = false := by
  intro k h1 h2
  rcases Nat.lt_or_ge k n with h3 | h3
  · exact h k h1 h3
  · obtain rfl : k = n := by omega
    exact hn
theorem byteAt_drop (l : List UInt8) (p i : Nat) : byteAt (l.drop p) i = byteAt l (p + i) := by
  unfold byteAt
  rw [List.getElem?_drop]
theorem bN_drop (l : List UInt8) (p i : Nat) : bN (l.drop p) i = bN l (p + i) := by unfold bN; rw [byteAt_drop]
theorem form_drop {l : List UInt8} {p n : Nat} : UForm (l.drop p) 0 n ↔ UForm l p n := by
  have e : ∀ k, (k < l.length - p) = (p + k < l.length) := fun k => propext (by omega)
  unfold UForm
  simp only [bN_drop, List.length_drop, Nat.zero_add, Nat.add_zero, e]
theorem cvN_drop (l : List UInt8) (p n : Nat) : cvN (l.drop p) 0 n = cvN l p n := by
  unfold cvN
  simp only [bN_drop, Nat.zero_add, Nat.add_zero]
theorem wholeV_drop (l : List UInt8) (p : Nat) : wholeV (l.drop p) 0 = wholeV l p := by
  by_cases h : uerr l p = 0
  · have hf := uerr_form h
    have h2 := form_uerr (form_drop.2 hf)
    unfold wholeV
    rw [if_pos h, if_pos h2.1, h2.2, cvN_drop]
  · have h2 : uerr (l.drop p) 0 ≠ 0 := fun e => h (form_uerr (form_drop.1 (uerr_form e))).1
    unfold wholeV
    rw [if_neg h, if_neg h2]
def fillL (j : Nat) : List UInt8 := if j = 0 then [128, 128, 128] else if j = 1 then [191, 191, 191] else if j = 2 then [160, 128, 128] else if j = 3 then [144, 128, 128] else if j = 4 then [143, 191, 191] else [159, 191, 191]
theorem fillL_len (j : Nat) : (fillL j).length = 3 := by
  unfold fillL
  repeat' split
  all_goals rfl
end
section
attribute [local go_sem] opx opE ev okx gcond bnd okO AV.get AV.okb cAV upd_at putd_some putd_none wrs_nil wrs_cons look_nil look_cons st argT_at bpick_and bpick_or bpick_true bpick_false binV binI binS binVOk binOk isShift binSOk unV unVOk loadV loadP cellsA zeroA Blkd.len setE grown moreA moreR moreOk eqRes pv fillA fillE putSeg AV.cellish AV.pureL AV.pureB lentL_is ex_some AV.ren AV.renL renL_c Blkd.ren rho wrM renN lentOk rhoE keepM endOk tyA_2 tyA_3 tyA_4 tyA_5 tyA_6 tyA_7 tyA_8 tyA_9 tyA_10 tyA_11 tyA_12 tyA_13 tyA_14 tyA_15 tyA_16 tyA_17 tyA_18 tyA_19 tyA_21 tyA_22 tyA_23 tyA_24 tyA_29 tyA_30 tyA_31 tyA_32 tyA_33 tyA_34 tyA_35 tyA_36 tyA_37 tyA_38 tyA_39 tyA_40 tyA_41 tyA_42 tyA_43 tyA_49 tyA_85 tyA_89 tyA_99 tyA_100 tyA_101 tyA_105 tyA_106 tyA_107 tyA_108 tyA_109 tyA_111 tyA_112 tyA_113 tyA_114 tyA_123 tyA_126 tyA_127 tyA_128 tyA_129 tyA_130 tyA_153 tyA_163 tyA_164 tyA_165 tyA_179 tyA_185 tyA_191 tyA_192 tyA_193 tyA_194 tyA_195 tyA_196 tyA_209 tyA_213 tyA_214 tyA_215 tyA_241 tyA_248 tyA_274 tyA_275 tyA_276 tyA_292 tyA_294 tyA_302 tyA_307 tyA_315 tyA_319 tyA_321 tyA_324 tyA_325 tyA_326 tyA_327 tyA_328 tyA_329 tyA_330 tyA_332 tyA_333 Option.map_some Option.map_none Option.getD_some Option.getD_none Option.bind_some Option.bind_none List.getElem?_cons_zero List.getElem?_cons_succ List.getElem?_nil List.getElem?_toArray List.length_cons List.length_nil List.length_map List.forall_mem_map List.map_cons List.map_nil List.drop_zero List.drop_succ_cons List.drop_nil List.take_zero List.take_succ_cons List.take_nil List.mem_cons List.not_mem_nil or_false forall_eq_or_imp forall_eq List.set_cons_zero List.set_cons_succ List.cons_append List.nil_append List.append_nil List.foldl_cons List.foldl_nil List.replicate_succ List.replicate_zero List.all_cons List.all_nil if_true if_false Bool.false_eq_true ne_eq not_false_eq_true not_true_eq_false true_and and_true and_self true_implies imp_self implies_true forall_const beq_self_eq_true Bool.and_true Bool.true_and Bool.and_false Bool.false_and Bool.or_true Bool.true_or Bool.or_false Bool.false_or Bool.not_true Bool.not_false Bool.not_eq_eq_eq_not intKindOf Value.oneCell' Int.toNat_natCast beq_true beq_false Bool.not_eq_true false_implies false_or true_or or_true Nat.zero_add Nat.add_zero decide_true decide_false Int.cast_ofNat_Int Int.toNat_zero Int.toNat_one eq_self

set_option maxRecDepth 100000 in
set_option maxHeartbeats 400000 in
theorem ufirst_told0 {x : UInt8} (h0 : x.toNat < 128) : ∃ c : Int, Told Tryz.prog 262 [.c (.v (.int .u8 (x.toNat : Int)))] (.tup [.c (.v (.int .i64 (ufirst x : Int))), .c (.v (.int .i32 c))]) := by
  have e0 : ((x.toNat : Int) < 128) = True := by simp; omega
  have hu : ufirst x = 1 := by unfold ufirst; repeat' split <;> try omega
  rw [hu]
  apply Exists.intro
  case h =>
  refine VC.told ent_262 Tryz.func262 rfl Tryz.ntmps262 (by simp) (by rfl) (by rfl) fun hb => ?_
  clear hb
  refine walkGF (e0) ?_
  refine VC.condT (by rfl) (by trivial) ?_
  refine walkG ?_
  refine ⟨.inr rfl, ?_⟩
  rw [Tryz.results262]
  simp only [resOk, resV, go_sem, simprocAttr]
  exact ⟨.c _, .c _⟩
set_option maxRecDepth 100000 in
set_option maxHeartbeats 400000 in
theorem ufirst_told1 {x : UInt8} (h0 : ¬ x.toNat < 128) (h1 : x.toNat < 194) : ∃ c : Int, Told Tryz.prog 262 [.c (.v (.int .u8 (x.toNat : Int)))] (.tup [.c (.v (.int .i64 (ufirst x : Int))), .c (.v (.int .i32 c))]) := by
  have e0 : ((x.toNat : Int) < 128) = False := by simp; omega
  have e1 : ((x.toNat : Int) < 194) = True := by simp; omega
  have hu : ufirst x = 0 := by unfold ufirst; repeat' split <;> try omega
  rw [hu]
  apply Exists.intro
  case h =>
  refine VC.told ent_262 Tryz.func262 rfl Tryz.ntmps262 (by simp) (by rfl) (by rfl) fun hb => ?_
  clear hb
  refine walkGF (e0) ?_
  refine VC.condF (by rfl) (by trivial) ?_
  refine walkGF (e1) ?_
  refine VC.condT (by rfl) (by trivial) ?_
  refine walkG ?_
  refine ⟨.inr rfl, ?_⟩
  rw [Tryz.results262]
  simp only [resOk, resV, go_sem, simprocAttr]
  exact ⟨.c _, .c _⟩
set_option maxRecDepth 100000 in
set_option maxHeartbeats 400000 in
theorem ufirst_told2 {x : UInt8} (h0 : ¬ x.toNat < 128) (h1 : ¬ x.toNat < 194) (h2 : x.toNat < 224) : ∃ c : Int, Told Tryz.prog 262 [.c (.v (.int .u8 (x.toNat : Int)))] (.tup [.c (.v (.int .i64 (ufirst x : Int))), .c (.v (.int .i32 c))]) := by
  have e0 : ((x.toNat : Int) < 128) = False := by simp; omega
  have e1 : ((x.toNat : Int) < 194) = False := by simp; omega
  have e2 : ((x.toNat : Int) < 224) = True := by simp; omega
  have hu : ufirst x = 2 := by unfold ufirst; repeat' split <;> try omega
  rw [hu]
  apply Exists.intro
  case h =>
  refine VC.told ent_262 Tryz.func262 rfl Tryz.ntmps262 (by simp) (by rfl) (by rfl) fun hb => ?_
  clear hb
  refine walkGF (e0) ?_
  refine VC.condF (by rfl) (by trivial) ?_
  refine walkGF (e1) ?_
  refine VC.condF (by rfl) (by trivial) ?_
  refine walkGF (e2) ?_
  refine VC.condT (by rfl) (by trivial) ?_
  refine walkG ?_
  refine ⟨.inr rfl, ?_⟩
  rw [Tryz.results262]
  simp only [resOk, resV, go_sem, simprocAttr]
  exact ⟨.c _, .c _⟩
set_option maxRecDepth 100000 in
set_option maxHeartbeats 400000 in
theorem ufirst_told3 {x : UInt8} (h0 : ¬ x.toNat < 128) (h1 : ¬ x.toNat < 194) (h2 : ¬ x.toNat < 224) (h3 : x.toNat < 240) : ∃ c : Int, Told Tryz.prog 262 [.c (.v (.int .u8 (x.toNat : Int)))] (.tup [.c (.v (.int .i64 (ufirst x : Int))), .c (.v (.int .i32 c))]) := by
  have e0 : ((x.toNat : Int) < 128) = False := by simp; omega
  have e1 : ((x.toNat : Int) < 194) = False := by simp; omega
  have e2 : ((x.toNat : Int) < 224) = False := by simp; omega
  have e3 : ((x.toNat : Int) < 240) = True := by simp; omega
  have hu : ufirst x = 3 := by unfold ufirst; repeat' split <;> try omega
  rw [hu]
  apply Exists.intro
  case h =>
  refine VC.told ent_262 Tryz.func262 rfl Tryz.ntmps262 (by simp) (by rfl) (by rfl) fun hb => ?_
  clear hb
  refine walkGF (e0) ?_
  refine VC.condF (by rfl) (by trivial) ?_
  refine walkGF (e1) ?_
  refine VC.condF (by rfl) (by trivial) ?_
  refine walkGF (e2) ?_
  refine VC.condF (by rfl) (by trivial) ?_
  refine walkGF (e3) ?_
  refine VC.condT (by rfl) (by trivial) ?_
  refine walkG ?_
  refine ⟨.inr rfl, ?_⟩
  rw [Tryz.results262]
  simp only [resOk, resV, go_sem, simprocAttr]
  exact ⟨.c _, .c _⟩
set_option maxRecDepth 100000 in
set_option maxHeartbeats 400000 in
theorem ufirst_told4 {x : UInt8} (h0 : ¬ x.toNat < 128) (h1 : ¬ x.toNat < 194) (h2 : ¬ x.toNat < 224) (h3 : ¬ x.toNat < 240) (h4 : x.toNat < 245) : ∃ c : Int, Told Tryz.prog 262 [.c (.v (.int .u8 (x.toNat : Int)))] (.tup [.c (.v (.int .i64 (ufirst x : Int))), .c (.v (.int .i32 c))]) := by
  have e0 : ((x.toNat : Int) < 128) = False := by simp; omega
  have e1 : ((x.toNat : Int) < 194) = False := by simp; omega
  have e2 : ((x.toNat : Int) < 224) = False := by simp; omega
  have e3 : ((x.toNat : Int) < 240) = False := by simp; omega
  have e4 : ((x.toNat : Int) < 245) = True := by simp; omega
  have hu : ufirst x = 4 := by unfold ufirst; repeat' split <;> try omega
  rw [hu]
  apply Exists.intro
  case h =>
  refine VC.told ent_262 Tryz.func262 rfl Tryz.ntmps262 (by simp) (by rfl) (by rfl) fun hb => ?_
  clear hb
  refine walkGF (e0) ?_
  refine VC.condF (by rfl) (by trivial) ?_
  refine walkGF (e1) ?_
  refine VC.condF (by rfl) (by trivial) ?_
  refine walkGF (e2) ?_
  refine VC.condF (by rfl) (by trivial) ?_
  refine walkGF (e3) ?_
  refine VC.condF (by rfl) (by trivial) ?_
  refine walkGF (e4) ?_
  refine VC.condT (by rfl) (by trivial) ?_
  refine walkG ?_
  refine ⟨.inr rfl, ?_⟩
  rw [Tryz.results262]
  simp only [resOk, resV, go_sem, simprocAttr]
  exact ⟨.c _, .c _⟩
set_option maxRecDepth 100000 in
set_option maxHeartbeats 400000 in
theorem ufirst_told5 {x : UInt8} (h0 : ¬ x.toNat < 128) (h1 : ¬ x.toNat < 194) (h2 : ¬ x.toNat < 224) (h3 : ¬ x.toNat < 240) (h4 : ¬ x.toNat < 245) : ∃ c : Int, Told Tryz.prog 262 [.c (.v (.int .u8 (x.toNat : Int)))] (.tup [.c (.v (.int .i64 (ufirst x : Int))), .c (.v (.int .i32 c))]) := by
  have e0 : ((x.toNat : Int) < 128) = False := by simp; omega
  have e1 : ((x.toNat : Int) < 194) = False := by simp; omega
  have e2 : ((x.toNat : Int) < 224) = False := by simp; omega
  have e3 : ((x.toNat : Int) < 240) = False := by simp; omega
  have e4 : ((x.toNat : Int) < 245) = False := by simp; omega
  have hu : ufirst x = 0 := by unfold ufirst; repeat' split <;> try omega
  rw [hu]
  apply Exists.intro
  case h =>
  refine VC.told ent_262 Tryz.func262 rfl Tryz.ntmps262 (by simp) (by rfl) (by rfl) fun hb => ?_
  clear hb
  refine walkGF (e0) ?_
  refine VC.condF (by rfl) (by trivial) ?_
  refine walkGF (e1) ?_
  refine VC.condF (by rfl) (by trivial) ?_
  refine walkGF (e2) ?_
  refine VC.condF (by rfl) (by trivial) ?_
  refine walkGF (e3) ?_
  refine VC.condF (by rfl) (by trivial) ?_
  refine walkGF (e4) ?_
  refine VC.condF (by rfl) (by trivial) ?_
  refine walkG ?_
  refine ⟨.inr rfl, ?_⟩
  rw [Tryz.results262]
  simp only [resOk, resV, go_sem, simprocAttr]
  exact ⟨.c _, .c _⟩
theorem ufirst_told (x : UInt8) : ∃ c : Int, Told Tryz.prog 262 [.c (.v (.int .u8 (x.toNat : Int)))] (.tup [.c (.v (.int .i64 (ufirst x : Int))), .c (.v (.int .i32 c))]) := by
  by_cases h0 : x.toNat < 128
  · exact ufirst_told0 h0
  by_cases h1 : x.toNat < 194
  · exact ufirst_told1 h0 h1
  by_cases h2 : x.toNat < 224
  · exact ufirst_told2 h0 h1 h2
  by_cases h3 : x.toNat < 240
  · exact ufirst_told3 h0 h1 h2 h3
  by_cases h4 : x.toNat < 245
  · exact ufirst_told4 h0 h1 h2 h3 h4
  · exact ufirst_told5 h0 h1 h2 h3 h4

set_option maxRecDepth 100000 in
set_option maxHeartbeats 400000 in
theorem usec_told0 {x y : UInt8} (h0 : x.toNat = 224) : Told Tryz.prog 263 [.c (.v (.int .u8 (x.toNat : Int))), .c (.v (.int .u8 (y.toNat : Int)))] (.c (.v (.bool (usec x y)))) := by
  have e0 : ((x.toNat : Int) == 224) = true := by simp; omega
  have hu : usec x y = decide (160 ≤ y.toNat ∧ y.toNat ≤ 191) := by
    unfold usec ulo uhi
    congr 1
    repeat' split
    all_goals first | rfl | omega
  rw [hu]
  refine VC.told ent_263 Tryz.func263 rfl Tryz.ntmps263 (by simp) (by rfl) (by rfl) fun hb => ?_
  clear hb
  refine walkGF (e0) ?_
  refine VC.condT (by rfl) (by trivial) ?_
  refine walkG ?_
  refine ⟨.inr rfl, ?_⟩
  rw [Tryz.results263]
  simp only [resOk, resV, go_sem, simprocAttr]
  refine frz_c ?_
  congr 2
  rw [Bool.eq_iff_iff]
  simp
  omega
set_option maxRecDepth 100000 in
set_option maxHeartbeats 400000 in
theorem usec_told1 {x y : UInt8} (h0 : x.toNat ≠ 224) (h1 : x.toNat = 237) : Told Tryz.prog 263 [.c (.v (.int .u8 (x.toNat : Int))), .c (.v (.int .u8 (y.toNat : Int)))] (.c (.v (.bool (usec x y)))) := by
  have e0 : ((x.toNat : Int) == 224) = false := by simp; omega
  have e1 : ((x.toNat : Int) == 237) = true := by simp; omega
  have hu : usec x y = decide (128 ≤ y.toNat ∧ y.toNat ≤ 159) := by
    unfold usec ulo uhi
    congr 1
    repeat' split
    all_goals first | rfl | omega
  rw [hu]
  refine VC.told ent_263 Tryz.func263 rfl Tryz.ntmps263 (by simp) (by rfl) (by rfl) fun hb => ?_
  clear hb
  refine walkGF (e0) ?_
  refine VC.condF (by rfl) (by trivial) ?_
  refine walkGF (e1) ?_
  refine VC.condT (by rfl) (by trivial) ?_
  refine walkG ?_
  refine ⟨.inr rfl, ?_⟩
  rw [Tryz.results263]
  simp only [resOk, resV, go_sem, simprocAttr]
  refine frz_c ?_
  congr 2
  rw [Bool.eq_iff_iff]
  simp
  omega
set_option maxRecDepth 100000 in
set_option maxHeartbeats 400000 in
theorem usec_told2 {x y : UInt8} (h0 : x.toNat ≠ 224) (h1 : x.toNat ≠ 237) (h2 : x.toNat = 240) : Told Tryz.prog 263 [.c (.v (.int .u8 (x.toNat : Int))), .c (.v (.int .u8 (y.toNat : Int)))] (.c (.v (.bool (usec x y)))) := by
  have e0 : ((x.toNat : Int) == 224) = false := by simp; omega
  have e1 : ((x.toNat : Int) == 237) = false := by simp; omega
  have e2 : ((x.toNat : Int) == 240) = true := by simp; omega
  have hu : usec x y = decide (144 ≤ y.toNat ∧ y.toNat ≤ 191) := by
    unfold usec ulo uhi
    congr 1
    repeat' split
    all_goals first | rfl | omega
  rw [hu]
  refine VC.told ent_263 Tryz.func263 rfl Tryz.ntmps263 (by simp) (by rfl) (by rfl) fun hb => ?_
  clear hb
  refine walkGF (e0) ?_
  refine VC.condF (by rfl) (by trivial) ?_
  refine walkGF (e1) ?_
  refine VC.condF (by rfl) (by trivial) ?_
  refine walkGF (e2) ?_
  refine VC.condT (by rfl) (by trivial) ?_
  refine walkG ?_
  refine ⟨.inr rfl, ?_⟩
  rw [Tryz.results263]
  simp only [resOk, resV, go_sem, simprocAttr]
  refine frz_c ?_
  congr 2
  rw [Bool.eq_iff_iff]
  simp
  omega
set_option maxRecDepth 100000 in
set_option maxHeartbeats 400000 in
theorem usec_told3 {x y : UInt8} (h0 : x.toNat ≠ 224) (h1 : x.toNat ≠ 237) (h2 : x.toNat ≠ 240) (h3 : x.toNat = 244) : Told Tryz.prog 263 [.c (.v (.int .u8 (x.toNat : Int))), .c (.v (.int .u8 (y.toNat : Int)))] (.c (.v (.bool (usec x y)))) := by
  have e0 : ((x.toNat : Int) == 224) = false := by simp; omega
  have e1 : ((x.toNat : Int) == 237) = false := by simp; omega
  have e2 : ((x.toNat : Int) == 240) = false := by simp; omega
  have e3 : ((x.toNat : Int) == 244) = true := by simp; omega
  have hu : usec x y = decide (128 ≤ y.toNat ∧ y.toNat ≤ 143) := by
    unfold usec ulo uhi
    congr 1
    repeat' split
    all_goals first | rfl | omega
  rw [hu]
  refine VC.told ent_263 Tryz.func263 rfl Tryz.ntmps263 (by simp) (by rfl) (by rfl) fun hb => ?_
  clear hb
  refine walkGF (e0) ?_
  refine VC.condF (by rfl) (by trivial) ?_
  refine walkGF (e1) ?_
  refine VC.condF (by rfl) (by trivial) ?_
  refine walkGF (e2) ?_
  refine VC.condF (by rfl) (by trivial) ?_
  refine walkGF (e3) ?_
  refine VC.condT (by rfl) (by trivial) ?_
  refine walkG ?_
  refine ⟨.inr rfl, ?_⟩
  rw [Tryz.results263]
  simp only [resOk, resV, go_sem, simprocAttr]
  refine frz_c ?_
  congr 2
  rw [Bool.eq_iff_iff]
  simp
  omega
set_option maxRecDepth 100000 in
set_option maxHeartbeats 400000 in
theorem usec_told4 {x y : UInt8} (h0 : x.toNat ≠ 224) (h1 : x.toNat ≠ 237) (h2 : x.toNat ≠ 240) (h3 : x.toNat ≠ 244) : Told Tryz.prog 263 [.c (.v (.int .u8 (x.toNat : Int))), .c (.v (.int .u8 (y.toNat : Int)))] (.c (.v (.bool (usec x y)))) := by
  have e0 : ((x.toNat : Int) == 224) = false := by simp; omega
  have e1 : ((x.toNat : Int) == 237) = false := by simp; omega
  have e2 : ((x.toNat : Int) == 240) = false := by simp; omega
  have e3 : ((x.toNat : Int) == 244) = false := by simp; omega
  have hu : usec x y = decide (128 ≤ y.toNat ∧ y.toNat ≤ 191) := by
    unfold usec ulo uhi
    congr 1
    repeat' split
    all_goals first | rfl | omega
  rw [hu]
  refine VC.told ent_263 Tryz.func263 rfl Tryz.ntmps263 (by simp) (by rfl) (by rfl) fun hb => ?_
  clear hb
  refine walkGF (e0) ?_
  refine VC.condF (by rfl) (by trivial) ?_
  refine walkGF (e1) ?_
  refine VC.condF (by rfl) (by trivial) ?_
  refine walkGF (e2) ?_
  refine VC.condF (by rfl) (by trivial) ?_
  refine walkGF (e3) ?_
  refine VC.condF (by rfl) (by trivial) ?_
  refine walkG ?_
  refine ⟨.inr rfl, ?_⟩
  rw [Tryz.results263]
  simp only [resOk, resV, go_sem, simprocAttr]
  refine frz_c ?_
  congr 2
  rw [Bool.eq_iff_iff]
  simp
  omega
theorem usec_told (x y : UInt8) : Told Tryz.prog 263 [.c (.v (.int .u8 (x.toNat : Int))), .c (.v (.int .u8 (y.toNat : Int)))] (.c (.v (.bool (usec x y)))) := by
  by_cases h0 : x.toNat = 224
  · exact usec_told0 h0
  by_cases h1 : x.toNat = 237
  · exact usec_told1 h0 h1
  by_cases h2 : x.toNat = 240
  · exact usec_told2 h0 h1 h2
  by_cases h3 : x.toNat = 244
  · exact usec_told3 h0 h1 h2 h3
  · exact usec_told4 h0 h1 h2 h3

theorem cont_bits : ∀ x : Nat, x < 256 → ((IntKind.u8.wrap ((BitVec.ofInt IntKind.u8.bits ((x : Nat) : Int) &&& BitVec.ofInt IntKind.u8.bits 192).toNat : Int)) != 128) = !decide (128 ≤ x ∧ x < 192) := by decide +kernel
theorem cont_bit (x : UInt8) : ((IntKind.u8.wrap ((BitVec.ofInt IntKind.u8.bits (x.toNat : Int) &&& BitVec.ofInt IntKind.u8.bits 192).toNat : Int)) != 128) = !ucont x := cont_bits x.toNat x.toNat_lt
theorem pv_at {l : List UInt8} {i : Nat} (h : i < l.length) : (bytePV l)[i]? = some [.v (.int .u8 ((byteAt l i).toNat : Int))] := by
  unfold bytePV byteAt
  rw [List.getElem?_map, List.getElem?_eq_getElem h]
  rfl
def unext (l : List UInt8) (p : Nat) : Nat := if uerr l p = 0 then p + ulen l p else p
set_option maxRecDepth 100000 in
set_option maxHeartbeats 800000 in
theorem utake_told (l : List UInt8) (p : Nat) (hp : p ≤ l.length) (hbig : l.length ≤ 9223372036854775000) : Told Tryz.prog 233 [.c (.sl 1 (bytePV l)), .c (.v (.int .i64 (p : Int)))] (.tup [.any, .c (.v (.int .i64 (unext l p : Int))), .c (.v (.int .i64 (uerr l p : Int)))]) := by
  have hlen : (bytePV l).length = l.length := by simp [bytePV]
  refine VC.told ent_233 Tryz.func233 rfl Tryz.ntmps233 (by simp) (by rfl) (by rfl) fun hb => ?_
  clear hb
  have e1 : ((p : Int) < 0) = False := eq_false (by omega)
  have e2 : ((p : Int) > (l.length : Int)) = False := eq_false (by omega)
  refine walkGF (And.intro e1 (And.intro e2 hlen)) ?_
  refine VC.condF (by rfl) (by trivial) ?_
  refine walkGF (hlen) ?_
  refine VC.cond (by rfl) (by trivial) (fun hc => ?_) (fun hc => ?_)
  · have he : p = l.length := by simp at hc; omega
    have hu : uerr l p = 10 := by unfold uerr; rw [if_neg (by omega)]
    have hn : unext l p = p := by unfold unext; rw [if_neg (by omega)]
    rw [hu, hn]
    refine walkG ?_
    refine ⟨.inr rfl, ?_⟩
    rw [Tryz.results233]
    simp only [resOk, resV, go_sem, simprocAttr]
    exact ⟨.any _, .c _, .c _⟩
  have hlt : p < l.length := by simp at hc; omega
  clear hc
  obtain ⟨c0, hfirst⟩ := ufirst_told (byteAt l p)
  have hat := pv_at hlt
  refine walkGF (And.intro hlen hat) ?_
  (refine AO.step fun K hK => ?_; simp only [go_sem, Int.reduceBEq, Int.reduceLE, Int.reduceLT, Int.reduceNeg, Nat.reduceAdd, Nat.reduceEqDiff, Nat.reduceLT, Nat.reduceLeDiff, Nat.reduceMul, Nat.reduceSub, reduceCtorEq, ↓reduceIte, hat]; (first | refine gsel_go ?_ | skip))
  refine .inl ⟨_, hfirst, hK _ _ _ ?_⟩
  clear hK K hfirst
  refine walkG ?_
  refine VC.cond (by rfl) (by trivial) (fun hc => ?_) (fun hc => ?_)
  · have hf : ufirst (byteAt l p) = 0 := by simp at hc; omega
    have hu : uerr l p = 11 := by unfold uerr; rw [if_pos hlt, if_pos hf]
    have hn : unext l p = p := by unfold unext; rw [if_neg (by omega)]
    rw [hu, hn]
    refine walkG ?_
    refine ⟨.inr rfl, ?_⟩
    rw [Tryz.results233]
    simp only [resOk, resV, go_sem, simprocAttr]
    exact ⟨.any _, .c _, .c _⟩
  have hf : ufirst (byteAt l p) ≠ 0 := by simp at hc; omega
  clear hc
  have hue : uerr l p = ustat l p (ufirst (byteAt l p) - 1) := by unfold uerr; rw [if_pos hlt, if_neg hf]
  have hf4 : ufirst (byteAt l p) ≤ 4 := by unfold ufirst; repeat' split <;> try omega
  obtain ⟨n, hn⟩ : ∃ n, n = ufirst (byteAt l p) := ⟨_, rfl⟩
  have hul : ulen l p = n := hn.symm
  rw [← hn] at hf hf4 hue
  refine walkGF (hn.symm) ?_
  refine VC.loop (ι := {q : Nat × Int // 1 ≤ q.1 ∧ q.1 ≤ n ∧ ustat l p (q.1 - 1) = 0}) (fun q => [(0, .c (.sl 1 (bytePV l))), (1, .c (.v (.int .i64 (p : Int)))), (4, .c (.v (.int .i32 q.1.2))), (7, .c (.v (.int .i64 (n : Int)))), (8, .c (.v (.int .i64 (q.1.1 : Int))))])
    (fun _ => []) 0 (fun q => n - q.1.1) ⟨(1, c0), Nat.le_refl _, by simp only []; omega, rfl⟩ ?_ ?_
  · simp only [← hn, Weak, eq_self, used_is, sc_any, sc_c, sc_pp, sc_ref, sc_row, sc_agg, sc_fn, ScL, some_imp, List.forall_mem_map, go_sem, Int.reduceBEq, Int.reduceLE, Int.reduceLT, Int.reduceNeg, Nat.reduceAdd, Nat.reduceEqDiff, Nat.reduceLT, Nat.reduceLeDiff, Nat.reduceMul, Nat.reduceSub, reduceCtorEq, ↓reduceIte]
    all_goals first | rfl | exact cI (by omega)
  rintro ⟨⟨i, c⟩, hi1, hi2, hst⟩
  simp only [] at hi1 hi2 hst ⊢
  refine walkG ?_
  refine VC.cond (by rfl) (by trivial) (fun hc => ?_) (fun hc => ?_)
  · have hin : i < n := by simp at hc; omega
    clear hc
    have hw1 : IntKind.i64.wrap ((p : Int) + (i : Int)) = (p : Int) + (i : Int) := wrap64_id (by omega) (by omega)
    have hw2 : IntKind.i64.wrap ((i : Int) + 1) = (i : Int) + 1 := wrap64_id (by omega) (by omega)
    refine walkGF (And.intro hlen hw1) ?_
    refine VC.cond (by rfl) (by trivial) (fun hc => ?_) (fun hc => ?_)
    · have hpi : p + i = l.length := by simp at hc; omega
      have hsp : ustep l p i = 10 := by unfold ustep; rw [if_neg (by omega)]
      have hu : uerr l p = 10 := by rw [hue, ustat_bad hi1 hin hst (by omega), hsp]
      have hnx : unext l p = p := by unfold unext; rw [if_neg (by omega)]
      rw [hu, hnx]
      refine walkG ?_
      refine ⟨.inr rfl, ?_⟩
      rw [Tryz.results233]
      simp only [resOk, resV, go_sem, simprocAttr]
      exact ⟨.any _, .c _, .c _⟩
    have hpi : p + i < l.length := by
      have : p + i ≠ l.length := by simp at hc; omega
      have hall : p + i ≤ l.length := by
        have h0 := hst
        cases hi : i with
        | zero => omega
        | succ k =>
          rw [hi] at h0
          cases k with
          | zero => omega
          | succ k =>
            simp only [Nat.add_sub_cancel, ustat] at h0
            split at h0
            · unfold ustep at h0
              split at h0
              · omega
              · simp at h0
            · rename_i h1; exact absurd h0 h1
      omega
    clear hc
    have hat2 := pv_at hpi
    have hti : ((p : Int) + (i : Int)).toNat = p + i := by omega
    have hsec := usec_told (byteAt l p) (byteAt l (p + i))
    have hcb := cont_bit (byteAt l (p + i))
    (try simp only [go_sem, Int.reduceBEq, Int.reduceLE, Int.reduceLT, Int.reduceNeg, Nat.reduceAdd, Nat.reduceEqDiff, Nat.reduceLT, Nat.reduceLeDiff, Nat.reduceMul, Nat.reduceSub, reduceCtorEq, ↓reduceIte] at hcb)
    refine walkGF (And.intro hlen (And.intro hw1 (And.intro hti (And.intro hat2 (And.intro hat hcb))))) ?_
    (refine AO.step fun K hK => ?_; simp only [go_sem, Int.reduceBEq, Int.reduceLE, Int.reduceLT, Int.reduceNeg, Nat.reduceAdd, Nat.reduceEqDiff, Nat.reduceLT, Nat.reduceLeDiff, Nat.reduceMul, Nat.reduceSub, reduceCtorEq, ↓reduceIte, hat, hcb]; (first | refine gsel_go ?_ | skip))
    refine .inl ⟨_, fun _ => hsec, hK _ _ _ ?_⟩
    clear hK K hsec
    refine walkG ?_
    refine VC.cond (by rfl) (by trivial) (fun hc => ?_) (fun hc => ?_)
    · have hsp : ustep l p i = 11 := by
        unfold ustep
        rw [if_pos hpi, if_neg]
        simp at hc
        rintro ⟨g1, g2⟩
        rcases hc with hc | hc
        · simp [hc] at g1
        · have := g2 (by omega)
          simp_all
      have hu : uerr l p = 11 := by rw [hue, ustat_bad hi1 hin hst (by omega), hsp]
      have hnx : unext l p = p := by unfold unext; rw [if_neg (by omega)]
      rw [hu, hnx]
      refine walkG ?_
      refine ⟨.inr rfl, ?_⟩
      rw [Tryz.results233]
      simp only [resOk, resV, go_sem, simprocAttr]
      exact ⟨.any _, .c _, .c _⟩
    · have hsp : ustep l p i = 0 := by
        unfold ustep
        rw [if_pos hpi, if_pos]
        simp at hc
        refine ⟨hc.1, fun h1 => ?_⟩
        exact hc.2 (by omega)
      have hst2 : ustat l p i = 0 := by
        cases hi : i with
        | zero => omega
        | succ k =>
          rw [hi] at hst hsp
          exact ustat_next (by simpa using hst) hsp
      clear hc
      refine walkGF (hw2) ?_
      apply RQ.next ⟨(i + 1, _), by simp only []; omega, by simp only []; omega, by simpa using hst2⟩
      · simp only [Weak, eq_self, used_is, sc_any, sc_c, sc_pp, sc_ref, sc_row, sc_agg, sc_fn, ScL, some_imp, List.forall_mem_map, go_sem, Int.reduceBEq, Int.reduceLE, Int.reduceLT, Int.reduceNeg, Nat.reduceAdd, Nat.reduceEqDiff, Nat.reduceLT, Nat.reduceLeDiff, Nat.reduceMul, Nat.reduceSub, reduceCtorEq, ↓reduceIte]
        exact ⟨rfl, cI (by omega)⟩
      · simp only []; omega
  · have hin : i = n := by simp at hc; omega
    subst hin
    have hu : uerr l p = 0 := by rw [hue, hst]
    have hnx : unext l p = p + i := by unfold unext; rw [if_pos hu, hul]
    have hbd := ulen_bound hu
    have hw1 : IntKind.i64.wrap ((p : Int) + (i : Int)) = ((p + i : Nat) : Int) := by rw [wrap64_id (by omega) (by omega)]; omega
    rw [hu, hnx]
    refine walkGF (hw1) ?_
    refine ⟨.inr rfl, ?_⟩
    rw [Tryz.results233]
    simp only [resOk, resV, go_sem, simprocAttr]
    exact ⟨.any _, .c _, .c _⟩

set_option maxRecDepth 100000 in
set_option maxHeartbeats 800000 in
theorem ucount_told (l : List UInt8) (hbig : l.length ≤ 9223372036854775000) : Told Tryz.prog 219 [.c (.sl 1 (bytePV l))] (.tup [.c (.v (.int .i64 ((uCnt l 0 0).1 : Int))), .c (.v (.int .i64 ((uCnt l 0 0).2 : Int)))]) := by
  have hlen : (bytePV l).length = l.length := by simp [bytePV]
  refine VC.told ent_219 Tryz.func219 rfl Tryz.ntmps219 (by simp) (by first | rfl | simp [AV.pureB, AV.pureL, pureL_c, pures]) (by first | rfl | simp [AV.pureB, AV.pureL, pureL_c, pures]) fun hb => ?_
  clear hb
  obtain ⟨V, hV⟩ : ∃ V, V = uCnt l 0 0 := ⟨_, rfl⟩
  rw [← hV]
  refine walkG ?_
  refine VC.loop (ι := {q : Nat × Nat // q.1 ≤ l.length ∧ q.2 ≤ q.1 ∧ uCnt l q.1 q.2 = V}) (fun q => [(0, .c (.sl 1 (bytePV l))), (4, .c (.v (.int .i64 (q.1.2 : Int)))), (5, .c (.v (.int .i64 (q.1.1 : Int))))]) (fun _ => []) 0 (fun q => l.length - q.1.1) ⟨(0, 0), Nat.zero_le _, Nat.le_refl _, hV.symm⟩ ?_ ?_
  · simp only [Weak, eq_self, used_is, sc_any, sc_c, sc_pp, sc_ref, sc_row, sc_agg, sc_fn, ScL, some_imp, List.forall_mem_map, go_sem, Int.reduceBEq, Int.reduceLE, Int.reduceLT, Int.reduceNeg, Nat.reduceAdd, Nat.reduceEqDiff, Nat.reduceLT, Nat.reduceLeDiff, Nat.reduceMul, Nat.reduceSub, reduceCtorEq, ↓reduceIte]
    all_goals rfl
  rintro ⟨⟨p, k⟩, hp, hk, hu⟩
  simp only [] at hp hk hu ⊢
  refine walkGF (hlen) ?_
  refine VC.cond (by rfl) (by trivial) (fun hc => ?_) (fun hc => ?_)
  · have hlt : p < l.length := by simp at hc; omega
    have ht := utake_told l p hp hbig
    have hw : IntKind.i64.wrap ((k : Int) + 1) = (k : Int) + 1 := wrap64_id (by omega) (by omega)
    refine walkGF (hlen) ?_
    refine walkC (ht) ?_
    refine walkG ?_
    refine VC.cond (by rfl) (by trivial) (fun he => ?_) (fun he => ?_)
    · have h2 : uerr l p ≠ 0 := by simpa using he
      rw [uCnt_bad hlt h2] at hu
      subst hu
      refine walkG ?_
      refine ⟨by first | exact .inr rfl | exact .inl rfl, ?_⟩; rw [Tryz.results219]; simp only [resOk, resV, go_sem, simprocAttr]
      exact ⟨.c _, .c _⟩
    · have h2 : uerr l p = 0 := by simpa using he
      obtain ⟨h3, h4⟩ := ulen_bound h2
      have hn : unext l p = p + ulen l p := by unfold unext; rw [if_pos h2]
      rw [uCnt_next hlt h2] at hu
      refine walkGF (And.intro hw hn) ?_
      refine .next ⟨(p + ulen l p, k + 1), h4, by simp only []; omega, hu⟩ ?_ (by simp only []; omega)
      simp only [Weak, eq_self, used_is, sc_any, sc_c, sc_pp, sc_ref, sc_row, sc_agg, sc_fn, ScL, some_imp, List.forall_mem_map, go_sem, Int.reduceBEq, Int.reduceLE, Int.reduceLT, Int.reduceNeg, Nat.reduceAdd, Nat.reduceEqDiff, Nat.reduceLT, Nat.reduceLeDiff, Nat.reduceMul, Nat.reduceSub, reduceCtorEq, ↓reduceIte]
      exact cI (by omega)
  · have hge : ¬ p < l.length := by simp at hc; omega
    rw [uCnt_end hge] at hu
    subst hu
    refine walkG ?_
    refine ⟨by first | exact .inr rfl | exact .inl rfl, ?_⟩; rw [Tryz.results219]; simp only [resOk, resV, go_sem, simprocAttr]
    exact ⟨.c _, .c _⟩
set_option maxRecDepth 100000 in
set_option maxHeartbeats 400000 in
theorem uright_told (l : List UInt8) (hbig : l.length ≤ 9223372036854775000) : Told Tryz.prog 157 [.c (.sl 1 (bytePV l))] (.c (.v (.bool (isRight l)))) := by
  have h := ucount_told l hbig
  refine VC.told ent_157 Tryz.func157 rfl Tryz.ntmps157 (by simp) (by first | rfl | simp [AV.pureB, AV.pureL, pureL_c, pures]) (by first | rfl | simp [AV.pureB, AV.pureL, pureL_c, pures]) fun hb => ?_
  clear hb
  refine walkG ?_
  refine walkC (h) ?_
  refine walkG ?_
  refine ⟨by first | exact .inr rfl | exact .inl rfl, ?_⟩; rw [Tryz.results157]; simp only [resOk, resV, go_sem, simprocAttr]
  exact frz_c (by unfold isRight; congr 2; rw [Bool.eq_iff_iff]; simp)

def rA {α : Type} (f : α → List PV) (l : List α) : List (List AV) := l.map fun x => (f x).map .c
theorem rA_len {α : Type} (f : α → List PV) (l : List α) : (rA f l).length = l.length := by simp [rA]
theorem rA_nil {α : Type} (f : α → List PV) : rA f [] = [] := rfl
theorem rA_at {α : Type} {f : α → List PV} {l : List α} {i : Nat} {x : α} (h : l[i]? = some x) : (rA f l)[i]? = some ((f x).map .c) := by simp [rA, h]
theorem rA_set {α : Type} {f : α → List PV} (l : List α) (i : Nat) (x : α) : (rA f l).set i ((f x).map .c) = rA f (l.set i x) := by simp [rA, List.map_set]
theorem rA_one {α : Type} (f : α → List PV) (l : List α) (x : α) : rA f l ++ [(f x).map .c] = rA f (l ++ [x]) := by simp [rA]
theorem rA_pv {α : Type} (f : α → List PV) (l : List α) : rA f l = (l.map f).map fun e => e.map AV.c := by simp [rA]
theorem renL_pv (ρ : Nat → Nat) : ∀ l : List PV, AV.renL ρ (l.map .c) = l.map .c
  | [] => rfl
  | x :: l => by rw [List.map_cons, AV.renL, renL_pv ρ l]; rfl
theorem rA_ren {α : Type} (ρ : Nat → Nat) (f : α → List PV) (l : List α) : (rA f l).map (AV.renL ρ) = rA f l := by
  unfold rA
  rw [List.map_map]
  apply List.map_congr_left
  intro x _
  exact renL_pv ρ _
theorem rA_sc {α : Type} {used : Nat → Prop} {h : Nat → Option Blkd} (f : α → List PV) (l : List α) : (∀ e ∈ rA f l, ∀ x ∈ e, Sc used h x) = True := eq_true fun e he x hx => by
  obtain ⟨b, _, rfl⟩ := List.mem_map.1 he
  obtain ⟨p, _, rfl⟩ := List.mem_map.1 hx
  exact .c
theorem frz_rA {α : Type} {K : Nat → Bool} {h : Nat → Option Blkd} {j n : Nat} {T : TypeId} {z : Nat} {f : α → List PV} {l : List α} (hB : h j = some ⟨true, T, z, rA f l⟩) (hn : l.length = n) (hk : K j = false) (hz : ∀ x ∈ l, (f x).length = z) :
    Frz K h (.row j n) (.c (.sl z (l.map f))) := by
  refine Frz.row (B := ⟨true, T, z, rA f l⟩) hB rfl ?_ hk ?_ ?_ ?_
  · show (rA f l).length = n
    rw [rA_len, hn]
  · simp [rA_len]
  · intro i e e' h1 h2
    rw [rA_pv, List.getElem?_map, h2] at h1
    obtain rfl := Option.some.inj h1
    simp
  · intro i k e e' x p h1 h2 h3 h4
    rw [rA_pv, List.getElem?_map, h2] at h1
    obtain rfl := Option.some.inj h1
    rw [List.getElem?_map, h4] at h3
    obtain rfl := Option.some.inj h3
    exact .c p

def byP (b : UInt8) : List PV := [.v (.int .u8 (b.toNat : Int))]
theorem bpvOk (l : List UInt8) : bytesOk (bytePV l) = True := eq_true (bytePV_ok l)
theorem rchar_told (c : Int) : Told Tryz.prog 266 [.c (.v (.int .i64 c))] (.c (.v (.bool (isChr c)))) := by
  obtain ⟨V, hV⟩ : ∃ V, V = isChr c := ⟨_, rfl⟩
  rw [← hV]
  have hv : V = ((decide (c ≥ 0) && decide (c ≤ 1114111)) && (decide (c < 55296) || decide (c > 57343))) := by
    rw [hV, isChr, Bool.eq_iff_iff]
    simp
    omega
  clear hV
  replace hv := Lib.hid hv
  refine VC.told ent_266 Tryz.func266 rfl Tryz.ntmps266 (by simp) (by first | rfl | simp [AV.pureB, AV.pureL, pureL_c, pures]) (by first | rfl | simp [AV.pureB, AV.pureL, pureL_c, pures]) fun hb => ?_
  clear hb
  refine walkG ?_
  refine ⟨by first | exact .inr rfl | exact .inl rfl, ?_⟩; rw [Tryz.results266]; simp only [resOk, resV, go_sem, simprocAttr]
  rw [hv.out]
  exact .c _
set_option maxRecDepth 100000 in
set_option maxHeartbeats 800000 in
theorem rput_told (c : Nat) (hc : c ≤ 1114111) : Told Tryz.prog 237 [.c (.v (.int .i64 (c : Int)))] (.c (.sl 1 (bytePV (uenc c)))) := by
  have hU : ∀ (z : Int) (n : Nat), z = (n : Int) → n < 256 → IntKind.u8.wrap z = ((n.toUInt8).toNat : Int) := fun z n h1 h2 => by
    rw [IntKind.wrap_u8, h1]
    simp
  have hQ : ∀ (a b : Nat), a ≤ 1114111 → IntKind.i64.wrap (Int.tdiv (a : Int) (b : Int)) = ((a / b : Nat) : Int) := fun a b h => by
    have e : Int.tdiv (a : Int) (b : Int) = ((a / b : Nat) : Int) := by simp [Int.tdiv]
    have := Nat.div_le_self a b
    rw [e]
    generalize a / b = q at this
    exact wrap64_id (by omega) (by omega)
  have hR : ∀ (a b : Nat), Int.tmod (a : Int) (b : Int) = ((a % b : Nat) : Int) := fun a b => by simp [Int.tmod]
  have hW : ∀ (k n : Nat), k + n < 256 → IntKind.u8.wrap (IntKind.i64.wrap ((k : Int) + (n : Int))) = (((k + n).toUInt8).toNat : Int) := fun k n h => by
    rw [wrap64_id (by omega) (by omega)]
    exact hU _ (k + n) (by omega) h
  have q1 := hQ c 64 hc
  have q2 := hQ c 4096 hc
  have q3 := hQ c 262144 hc
  have r1 := hR c 64
  have r2 := hR (c / 64) 64
  have r3 := hR (c / 4096) 64
  by_cases h1 : c < 128
  · have hE : uenc c = [c.toUInt8] := by rw [uenc, if_pos h1]
    have e1 : decide ((c : Int) < 128) = true := by simp; omega
    rw [hE]
    refine VC.told ent_237 Tryz.func237 rfl Tryz.ntmps237 (by simp) (by first | rfl | simp [AV.pureB, AV.pureL, pureL_c, pures]) (by first | rfl | simp [AV.pureB, AV.pureL, pureL_c, pures]) fun hb => ?_
    clear hb
    refine walkBF (e1) ?_
    rw [hU (c : Int) c rfl (by omega)]
    refine ⟨by first | exact .inr rfl | exact .inl rfl, ?_⟩; rw [Tryz.results237]; simp only [resOk, resV, go_sem, simprocAttr]
    exact frz_rA (f := byP) (l := [c.toUInt8]) rfl rfl rfl (by simp [byP])
  have e1 : decide ((c : Int) < 128) = false := by simp; omega
  by_cases h2 : c < 2048
  · have hE : uenc c = [(192 + c / 64).toUInt8, (128 + c % 64).toUInt8] := by rw [uenc, if_neg h1, if_pos h2]
    have e2 : decide ((c : Int) < 2048) = true := by simp; omega
    rw [hE]
    refine VC.told ent_237 Tryz.func237 rfl Tryz.ntmps237 (by simp) (by first | rfl | simp [AV.pureB, AV.pureL, pureL_c, pures]) (by first | rfl | simp [AV.pureB, AV.pureL, pureL_c, pures]) fun hb => ?_
    clear hb
    refine walkBF (And.intro e1 e2) ?_
    rw [show (64 : Int) = ((64 : Nat) : Int) from rfl, q1, r1, show (192 : Int) = ((192 : Nat) : Int) from rfl, show (128 : Int) = ((128 : Nat) : Int) from rfl, hW 192 _ (by omega), hW 128 _ (by omega)]
    refine ⟨by first | exact .inr rfl | exact .inl rfl, ?_⟩; rw [Tryz.results237]; simp only [resOk, resV, go_sem, simprocAttr]
    exact frz_rA (f := byP) (l := [(192 + c / 64).toUInt8, (128 + c % 64).toUInt8]) rfl rfl rfl (by simp [byP])
  have e2 : decide ((c : Int) < 2048) = false := by simp; omega
  by_cases h3 : c < 65536
  · have hE : uenc c = [(224 + c / 4096).toUInt8, (128 + c / 64 % 64).toUInt8, (128 + c % 64).toUInt8] := by rw [uenc, if_neg h1, if_neg h2, if_pos h3]
    have e3 : decide ((c : Int) < 65536) = true := by simp; omega
    rw [hE]
    refine VC.told ent_237 Tryz.func237 rfl Tryz.ntmps237 (by simp) (by first | rfl | simp [AV.pureB, AV.pureL, pureL_c, pures]) (by first | rfl | simp [AV.pureB, AV.pureL, pureL_c, pures]) fun hb => ?_
    clear hb
    refine walkBF (And.intro e1 (And.intro e2 e3)) ?_
    rw [show (64 : Int) = ((64 : Nat) : Int) from rfl, show (4096 : Int) = ((4096 : Nat) : Int) from rfl, q1, q2, r1, r2, show (224 : Int) = ((224 : Nat) : Int) from rfl, show (128 : Int) = ((128 : Nat) : Int) from rfl, hW 224 _ (by omega), hW 128 (c / 64 % 64) (by omega), hW 128 (c % 64) (by omega)]
    refine ⟨by first | exact .inr rfl | exact .inl rfl, ?_⟩; rw [Tryz.results237]; simp only [resOk, resV, go_sem, simprocAttr]
    exact frz_rA (f := byP) (l := [(224 + c / 4096).toUInt8, (128 + c / 64 % 64).toUInt8, (128 + c % 64).toUInt8]) rfl rfl rfl (by simp [byP])
  · have hE : uenc c = [(240 + c / 262144).toUInt8, (128 + c / 4096 % 64).toUInt8, (128 + c / 64 % 64).toUInt8, (128 + c % 64).toUInt8] := by rw [uenc, if_neg h1, if_neg h2, if_neg h3]
    have e3 : decide ((c : Int) < 65536) = false := by simp; omega
    rw [hE]
    refine VC.told ent_237 Tryz.func237 rfl Tryz.ntmps237 (by simp) (by first | rfl | simp [AV.pureB, AV.pureL, pureL_c, pures]) (by first | rfl | simp [AV.pureB, AV.pureL, pureL_c, pures]) fun hb => ?_
    clear hb
    refine walkBF (And.intro e1 (And.intro e2 e3)) ?_
    rw [show (64 : Int) = ((64 : Nat) : Int) from rfl, show (4096 : Int) = ((4096 : Nat) : Int) from rfl, show (262144 : Int) = ((262144 : Nat) : Int) from rfl, q1, q2, q3, r1, r2, r3, show (240 : Int) = ((240 : Nat) : Int) from rfl, show (128 : Int) = ((128 : Nat) : Int) from rfl, hW 240 _ (by omega), hW 128 (c / 64 % 64) (by omega), hW 128 (c % 64) (by omega), hW 128 (c / 4096 % 64) (by omega)]
    refine ⟨by first | exact .inr rfl | exact .inl rfl, ?_⟩; rw [Tryz.results237]; simp only [resOk, resV, go_sem, simprocAttr]
    exact frz_rA (f := byP) (l := [(240 + c / 262144).toUInt8, (128 + c / 4096 % 64).toUInt8, (128 + c / 64 % 64).toUInt8, (128 + c % 64).toUInt8]) rfl rfl rfl (by simp [byP])
set_option maxRecDepth 100000 in
set_option maxHeartbeats 800000 in
theorem rstarts_told (b a : List UInt8) (hb1 : b.length ≤ 1000000) (ha1 : a.length ≤ 1000000) : Told Tryz.prog 267 [.c (.sl 1 (bytePV b)), .c (.sl 1 (bytePV a))] (.c (.v (.bool (a.isPrefixOf b)))) := by
  have la : (bytePV a).length = a.length := by simp [bytePV]
  have lb : (bytePV b).length = b.length := by simp [bytePV]
  have tb : (bytePV b).take a.length = bytePV (b.take a.length) := by simp [bytePV, List.map_take]
  by_cases h : a.length ≤ b.length
  · have hv : a.isPrefixOf b = (b.take a.length == a) := by
      rw [Bool.eq_iff_iff, List.isPrefixOf_iff_prefix, List.prefix_iff_eq_take, beq_iff_eq]
      exact ⟨fun e => e.symm, fun e => e.symm⟩
    have e1 : decide ((a.length : Int) ≤ (b.length : Int)) = true := by simp; omega
    have s1 : (⟨(b.take a.length).toArray⟩ : ByteArray).toList = b.take a.length := str_toList _
    have s2 : (⟨a.toArray⟩ : ByteArray).toList = a := str_toList _
    rw [hv]
    refine VC.told ent_267 Tryz.func267 rfl Tryz.ntmps267 (by simp) (by first | rfl | simp [AV.pureB, AV.pureL, pureL_c, pures]) (by first | rfl | simp [AV.pureB, AV.pureL, pureL_c, pures]) fun hb => ?_
    clear hb
    (repeat (first | refine pass ?_ | refine VC.region (by rfl) (by rfl) ?_ | (refine AO.step fun K hK => ?_; simp only [la, lb, e1, tb, bytesOf_pv, bpvOk, bstr, s1, s2, go_sem, Int.reduceBEq, Int.reduceLE, Int.reduceLT, Int.reduceNeg, Nat.reduceAdd, Nat.reduceEqDiff, Nat.reduceLT, Nat.reduceLeDiff, Nat.reduceMul, Nat.reduceSub, reduceCtorEq, ↓reduceIte]; (first | refine gsel_skip ?_ | refine gsel_go ?_ | skip); (first | refine hK _ _ _ ?_ | refine ⟨by first | omega | exact ⟨_, rfl, rfl⟩ | exact fun _ => ⟨_, rfl, rfl⟩ | (intro h; simp only [la, lb, e1, tb, bytesOf_pv, bpvOk, bstr, s1, s2, h, true_and]; omega) | (clear hK; intro h; simp_all <;> omega), hK _ _ _ ?_⟩); clear hK K) | refine VC.draw mixP (by rfl) (by rfl) ?_ | refine ⟨okd_of (by kernel_rfl), ?_⟩ | refine BQ.other (by decide) ?_ | refine VC.seq ?_ | refine AO.nil ?_ | refine VC.block ?_))
    refine ⟨by first | exact .inr rfl | exact .inl rfl, ?_⟩; rw [Tryz.results267]; simp only [resOk, resV, go_sem, simprocAttr]
    exact .c _
  · have hv : a.isPrefixOf b = false := by
      rw [Bool.eq_false_iff]
      intro e
      exact h (List.isPrefixOf_iff_prefix.1 e).length_le
    have e1 : decide ((a.length : Int) ≤ (b.length : Int)) = false := by simp; omega
    rw [hv]
    refine VC.told ent_267 Tryz.func267 rfl Tryz.ntmps267 (by simp) (by first | rfl | simp [AV.pureB, AV.pureL, pureL_c, pures]) (by first | rfl | simp [AV.pureB, AV.pureL, pureL_c, pures]) fun hb => ?_
    clear hb
    refine walkBF (And.intro la (And.intro lb e1)) ?_
    refine ⟨by first | exact .inr rfl | exact .inl rfl, ?_⟩; rw [Tryz.results267]; simp only [resOk, resV, go_sem, simprocAttr]
    exact .c _

inductive MQF {ι : Type} (l : ι → List (Nat × AV)) (hl : ι → List (Nat × Blkd)) (n : Nat) (Q : Exit → ASt → Prop) : Exit → ASt → Prop
  | normal {σ : ASt} (j : ι) (h : Weak σ (l j) (hl j) n) : MQF l hl n Q .normal σ
  | ret {σ : ASt} (h : Q .ret σ) : MQF l hl n Q .ret σ
  | exit {σ : ASt} {id : Nat} (h : Q (.exit id) σ) : MQF l hl n Q (.exit id) σ
instance pF1 {ι : Type} {lv : ι → List (Nat × AV)} {hl : ι → List (Nat × Blkd)} {n : Nat} {σ : ASt} {Q : Exit → ASt → Prop} : Pass (MQF lv hl n Q .ret σ) (Q .ret σ) := ⟨.ret⟩
instance pF2 {ι : Type} {lv : ι → List (Nat × AV)} {hl : ι → List (Nat × Blkd)} {n : Nat} {σ : ASt} {Q : Exit → ASt → Prop} {id : Nat} : Pass (MQF lv hl n Q (.exit id) σ) (Q (.exit id) σ) := ⟨.exit⟩
theorem VC.meetF {P : Program} {N : Nat} {σ : ASt} {Q : Exit → ASt → Prop} {x y : Code} {ι : Type} (l : ι → List (Nat × AV)) (hl : ι → List (Nat × Blkd)) (n : Nat) (h1 : VC P N x σ (MQF l hl n Q)) (h2 : ∀ j, VC P N y (st (l j) (hl j) n) Q) : VC P N x σ (SQ P N y Q) :=
  h1.mono fun e σ h => by
    cases h with
    | normal j h => exact .normal (VC.weak (l j) (hl j) n h (h2 j))
    | ret h => exact .ret h
    | exit h => exact .exit h

inductive JT where
  | mk (k : Int) (n : Int) (s : List UInt8) (ks : List (List UInt8)) (xs : List JT)
def idxS (key : List UInt8) (ks : List (List UInt8)) : Int := match ks.findIdx? (fun k => decide (key = k)) with | some i => (i : Int) | none => -1
theorem idxS_at {key : List UInt8} {ks : List (List UInt8)} {i : Nat} (h : ks[i]? = some key) (h0 : ∀ j, j < i → ks[j]? ≠ some key) : idxS key ks = (i : Int) := by
  unfold idxS
  have hi := (List.getElem?_eq_some_iff.1 h)
  have : ks.findIdx? (fun k => decide (key = k)) = some i := by
    rw [List.findIdx?_eq_some_iff_getElem]
    refine ⟨hi.1, by simp [hi.2], fun j hj => ?_⟩
    simp
    intro e
    exact h0 j hj (by rw [List.getElem?_eq_getElem (by have := hi.1; omega), e])
  rw [this]
theorem idxS_none {key : List UInt8} {ks : List (List UInt8)} (h0 : ∀ j, j < ks.length → ks[j]? ≠ some key) : idxS key ks = -1 := by
  unfold idxS
  have : ks.findIdx? (fun k => decide (key = k)) = none := by
    rw [List.findIdx?_eq_none_iff]
    intro x hx
    simp
    intro e
    obtain ⟨j, hj, hx⟩ := List.getElem_of_mem hx
    exact h0 j hj (by rw [List.getElem?_eq_getElem hj, hx, e])
  rw [this]
theorem idxS_mem (key : List UInt8) (ks : List (List UInt8)) : decide (0 ≤ idxS key ks) = decide (key ∈ ks) := by
  by_cases h : key ∈ ks
  · obtain ⟨i, hi⟩ : ∃ i, ks.findIdx? (fun k => decide (key = k)) = some i := by
      cases hf : ks.findIdx? (fun k => decide (key = k)) with
      | some i => exact ⟨i, rfl⟩
      | none =>
        rw [List.findIdx?_eq_none_iff] at hf
        have := hf key h
        simp at this
    unfold idxS
    rw [hi]
    simp [h]
  · have : ks.findIdx? (fun k => decide (key = k)) = none := by
      rw [List.findIdx?_eq_none_iff]
      intro x hx
      simp
      intro e
      exact h (e ▸ hx)
    unfold idxS
    rw [this]
    simp [h]

mutual
def JT.inr : JT → Prop
  | .mk k n s ks xs => (-9223372036854775808 ≤ n ∧ n ≤ 9223372036854775807) ∧ JT.inrL xs
def JT.inrL : List JT → Prop
  | [] => True
  | x :: xs => x.inr ∧ JT.inrL xs
end
theorem inrL_mem : ∀ {xs : List JT}, JT.inrL xs → ∀ x ∈ xs, x.inr
  | x :: xs, h, y, hy => by
    rcases List.mem_cons.1 hy with rfl | hy
    · exact h.1
    · exact inrL_mem h.2 y hy
theorem inrL_of : ∀ {xs : List JT}, (∀ x ∈ xs, x.inr) → JT.inrL xs
  | [], _ => trivial
  | x :: xs, h => ⟨h x (by simp), inrL_of fun y hy => h y (by simp [hy])⟩

def sPV (s : List UInt8) : List PV := [.v (.string (str s))]
theorem sPV_eq (s : List UInt8) : sPV s = [.v (.string (str s))] := rfl
theorem str_dl (l : List UInt8) : (str l).data.toList = l := by simp [str]
mutual
def JT.cells : JT → List PV
  | .mk k n s ks xs => [.v (.int .i64 k), .v (.int .i64 n), .v (.string (str s)), .sl 5 (JT.cellsL xs), .sl 1 (ks.map sPV)]
def JT.cellsL : List JT → List (List PV)
  | [] => []
  | x :: xs => x.cells :: JT.cellsL xs
end
theorem cellsL_map : ∀ (xs : List JT), JT.cellsL xs = xs.map JT.cells
  | [] => by simp [JT.cellsL]
  | x :: xs => by simp [JT.cellsL, cellsL_map xs]
def JT.av (t : JT) : AV := .agg (t.cells.map .c)
theorem JT.av_eq (t : JT) : t.av = .agg (t.cells.map .c) := rfl
mutual
def tdeep : JT → Nat
  | .mk k n s ks xs => if k = 5 ∨ k = 6 then tdeeps 1 xs else 0
def tdeeps : Nat → List JT → Nat
  | n, [] => n
  | n, x :: xs => tdeeps (max n (1 + tdeep x)) xs
end
theorem cells_mk (k n : Int) (s : List UInt8) (ks : List (List UInt8)) (xs : List JT) : (JT.mk k n s ks xs).cells = [.v (.int .i64 k), .v (.int .i64 n), .v (.string (str s)), .sl 5 (xs.map JT.cells), .sl 1 (ks.map sPV)] := by simp [JT.cells, cellsL_map]
theorem len_cells (t : JT) : t.cells.length = 5 := by cases t; simp [JT.cells]
theorem take_cells (t : JT) : t.cells.take 5 = t.cells := List.take_of_length_le (by rw [len_cells]; exact Nat.le_refl _)
theorem take_cellsC (t : JT) : (t.cells.map AV.c).take 5 = t.cells.map .c := List.take_of_length_le (by rw [List.length_map, len_cells]; exact Nat.le_refl _)
theorem tdeeps_snoc : ∀ (xs : List JT) (x : JT) (n : Nat), tdeeps n (xs ++ [x]) = max (tdeeps n xs) (1 + tdeep x)
  | [], x, n => by simp [tdeeps]
  | y :: xs, x, n => by simp only [List.cons_append, tdeeps]; exact tdeeps_snoc xs x _
theorem tdeeps_le : ∀ (xs : List JT) (n : Nat), n ≤ tdeeps n xs ∧ ∀ x ∈ xs, tdeep x + 1 ≤ tdeeps n xs
  | [], n => ⟨Nat.le_refl _, by simp⟩
  | y :: xs, n => by
    obtain ⟨h1, h2⟩ := tdeeps_le xs (max n (1 + tdeep y))
    simp only [tdeeps]
    refine ⟨by omega, fun x hx => ?_⟩
    rcases List.mem_cons.1 hx with rfl | hx
    · omega
    · exact h2 x hx

def iPV (n : Int) : List PV := [.v (.int .i64 n)]
structure FT where
  name : List UInt8
  aliases : List (List UInt8)
  type : Int
  has : Bool
  dflt : JT
def FT.cells (f : FT) : List PV := .v (.string (str f.name)) :: .sl 1 (f.aliases.map sPV) :: .v (.int .i64 f.type) :: .v (.bool f.has) :: f.dflt.cells
structure NT where
  kind : Int
  name : List UInt8
  aliases : List (List UInt8)
  fields : List FT
  symbols : List (List UInt8)
  has : Bool
  dflt : List UInt8
  size : Int
  items : Int
  branches : List Int
def NT.cells (n : NT) : List PV := [.v (.int .i64 n.kind), .v (.string (str n.name)), .sl 1 (n.aliases.map sPV), .sl 9 (n.fields.map FT.cells), .sl 1 (n.symbols.map sPV), .v (.bool n.has), .v (.string (str n.dflt)), .v (.int .i64 n.size), .v (.int .i64 n.items), .sl 1 (n.branches.map iPV)]
structure ST where
  nodes : List NT
  root : Int
def ST.cells (s : ST) : List PV := [.sl 10 (s.nodes.map NT.cells), .v (.int .i64 s.root)]
def FT.av (f : FT) : AV := .agg (f.cells.map .c)
def NT.av (n : NT) : AV := .agg (n.cells.map .c)
def ST.av (s : ST) : AV := .agg (s.cells.map .c)
theorem FT.av_eq (f : FT) : f.av = .agg (f.cells.map .c) := rfl
theorem NT.av_eq (n : NT) : n.av = .agg (n.cells.map .c) := rfl
theorem ST.av_eq (s : ST) : s.av = .agg (s.cells.map .c) := rfl
theorem iPV_eq (n : Int) : iPV n = [.v (.int .i64 n)] := rfl
theorem ncells_mk (n : NT) : n.cells = [.v (.int .i64 n.kind), .v (.string (str n.name)), .sl 1 (n.aliases.map sPV), .sl 9 (n.fields.map FT.cells), .sl 1 (n.symbols.map sPV), .v (.bool n.has), .v (.string (str n.dflt)), .v (.int .i64 n.size), .v (.int .i64 n.items), .sl 1 (n.branches.map iPV)] := rfl
theorem scells_mk (s : ST) : s.cells = [.sl 10 (s.nodes.map NT.cells), .v (.int .i64 s.root)] := rfl
theorem fcells_mk (f : FT) : f.cells = .v (.string (str f.name)) :: .sl 1 (f.aliases.map sPV) :: .v (.int .i64 f.type) :: .v (.bool f.has) :: f.dflt.cells := rfl
theorem len_fcells (f : FT) : f.cells.length = 9 := by simp [FT.cells, len_cells]
theorem len_ncells (n : NT) : n.cells.length = 10 := rfl
theorem len_scells (s : ST) : s.cells.length = 2 := rfl
theorem take_fcells (f : FT) : f.cells.take 9 = f.cells := List.take_of_length_le (by rw [len_fcells]; exact Nat.le_refl _)
theorem take_fcellsC (f : FT) : (f.cells.map AV.c).take 9 = f.cells.map .c := List.take_of_length_le (by rw [List.length_map, len_fcells]; exact Nat.le_refl _)
theorem take_ncells (n : NT) : n.cells.take 10 = n.cells := rfl
theorem take_ncellsC (n : NT) : (n.cells.map AV.c).take 10 = n.cells.map .c := rfl
theorem take_scells (s : ST) : s.cells.take 2 = s.cells := rfl
theorem take_scellsC (s : ST) : (s.cells.map AV.c).take 2 = s.cells.map .c := rfl
/-! The order of a schema's nodes. -/
def namedK (k : Int) : Bool := k == 9 || k == 10 || k == 14
def kidsN (n : NT) : List Int := if n.kind = 9 then n.fields.map (·.type) else if n.kind = 11 ∨ n.kind = 12 then [n.items] else if n.kind = 13 then n.branches else []
def kindAt (ns : List NT) (k : Nat) : Int := match ns[k]? with | some n => n.kind | none => 0
def walkK (ns : List NT) (f : Nat → Bool × Nat) : List Int → Nat → Bool × Nat
  | [], p => (true, p)
  | k :: ks, p => if k = (p : Int) then (if (f p).1 = true then walkK ns f ks (f p).2 else (false, (f p).2)) else if k < 0 ∨ k > (p : Int) ∨ namedK (kindAt ns k.toNat) = false then (false, p) else walkK ns f ks p
def walkM (ns : List NT) : Nat → Nat → Bool × Nat
  | 0, p => (false, p)
  | d + 1, p => match ns[p]? with | none => (false, p) | some n => walkK ns (walkM ns d) (kidsN n) (p + 1)
def orderedM (s : ST) : Bool := decide (0 < s.nodes.length) && (decide (s.nodes.length ≤ 200) && (decide (s.root = 0) && ((walkM s.nodes 33 0).1 && decide ((walkM s.nodes 33 0).2 = s.nodes.length))))
theorem walkK_le (ns : List NT) (f : Nat → Bool × Nat) (hf : ∀ p, p ≤ ns.length → p ≤ (f p).2 ∧ (f p).2 ≤ ns.length) : ∀ (ks : List Int) (p : Nat), p ≤ ns.length → p ≤ (walkK ns f ks p).2 ∧ (walkK ns f ks p).2 ≤ ns.length
  | [], p, h => ⟨Nat.le_refl _, h⟩
  | k :: ks, p, h => by
    rw [walkK]
    have h1 := hf p h
    split
    · split
      · have h2 := walkK_le ns f hf ks (f p).2 h1.2
        omega
      · exact h1
    · split
      · exact ⟨Nat.le_refl _, h⟩
      · exact walkK_le ns f hf ks p h
theorem walkM_le (ns : List NT) : ∀ (d p : Nat), p ≤ ns.length → p ≤ (walkM ns d p).2 ∧ (walkM ns d p).2 ≤ ns.length
  | 0, p, h => ⟨Nat.le_refl _, h⟩
  | d + 1, p, h => by
    rw [walkM]
    split
    · exact ⟨Nat.le_refl _, h⟩
    · rename_i n hn
      have hp : p < ns.length := (List.getElem?_eq_some_iff.1 hn).1
      have := walkK_le ns _ (walkM_le ns d) (kidsN n) (p + 1) hp
      omega
def Stand (ns : List NT) (a b : Nat) : Prop :=
  (∀ (i : Nat) (n : NT), a ≤ i → i < b → ns[i]? = some n → ∀ k ∈ kidsN n, 0 ≤ k ∧ k < (b : Int) ∧ (k ≤ (i : Int) → namedK (kindAt ns k.toNat) = true)) ∧ (∀ i : Nat, a < i → i < b → ∃ (j : Nat) (n : NT), a ≤ j ∧ j < i ∧ ns[j]? = some n ∧ (i : Int) ∈ kidsN n)
def Met (ns : List NT) (a : Nat) (done : List Int) (b : Nat) : Prop :=
  a < b ∧ (∀ k ∈ done, 0 ≤ k ∧ k < (b : Int) ∧ (k ≤ (a : Int) → namedK (kindAt ns k.toNat) = true)) ∧ (∀ (i : Nat) (n : NT), a < i → i < b → ns[i]? = some n → ∀ k ∈ kidsN n, 0 ≤ k ∧ k < (b : Int) ∧ (k ≤ (i : Int) → namedK (kindAt ns k.toNat) = true))
    ∧ (∀ i : Nat, a < i → i < b → (i : Int) ∈ done ∨ ∃ (j : Nat) (n : NT), a < j ∧ j < i ∧ ns[j]? = some n ∧ (i : Int) ∈ kidsN n)
theorem walkK_met (ns : List NT) (f : Nat → Bool × Nat) (hf : ∀ p q, f p = (true, q) → p < q ∧ Stand ns p q) (a : Nat) : ∀ (ks : List Int) (done : List Int) (p q : Nat), Met ns a done p → walkK ns f ks p = (true, q) → Met ns a (done ++ ks) q
  | [], done, p, q, h, hw => by
    rw [walkK] at hw
    obtain rfl : p = q := (Prod.mk.inj hw).2
    rwa [List.append_nil]
  | k :: ks, done, p, q, h, hw => by
    rw [walkK] at hw
    obtain ⟨h0, h1, h2, h3⟩ := h
    have hc : done ++ k :: ks = (done ++ [k]) ++ ks := by simp
    rw [hc]
    split at hw
    · rename_i hk
      split at hw
      · rename_i hb
        obtain ⟨hlt, hs⟩ := hf p (f p).2 (by rw [← hb])
        refine walkK_met ns f hf a ks (done ++ [k]) (f p).2 q ⟨by omega, ?_, ?_, ?_⟩ hw
        · intro k' hk'
          rcases List.mem_append.1 hk' with h | h
          · have := h1 k' h
            exact ⟨this.1, by omega, this.2.2⟩
          · obtain rfl := List.mem_singleton.1 h
            exact ⟨by omega, by omega, fun h => by omega⟩
        · intro i n hi1 hi2 hn k' hk'
          by_cases hip : i < p
          · have := h2 i n hi1 hip hn k' hk'
            exact ⟨this.1, by omega, this.2.2⟩
          · exact hs.1 i n (by omega) hi2 hn k' hk'
        · intro i hi1 hi2
          by_cases hip : i < p
          · rcases h3 i hi1 hip with h | h
            · exact .inl (List.mem_append.2 (.inl h))
            · exact .inr h
          · by_cases hie : i = p
            · exact .inl (List.mem_append.2 (.inr (by rw [hie, hk]; simp)))
            · obtain ⟨j, n, hj1, hj2, hn, hm⟩ := hs.2 i (by omega) hi2
              exact .inr ⟨j, n, by omega, hj2, hn, hm⟩
      · simp at hw
    · rename_i hk
      split at hw
      · simp at hw
      · rename_i hc2
        refine walkK_met ns f hf a ks (done ++ [k]) p q ⟨h0, ?_, h2, ?_⟩ hw
        · intro k' hk'
          rcases List.mem_append.1 hk' with h | h
          · exact h1 k' h
          · obtain rfl := List.mem_singleton.1 h
            have hnn : namedK (kindAt ns k'.toNat) = true := by
              cases hb : namedK (kindAt ns k'.toNat) with
              | true => rfl
              | false => exact absurd (.inr (.inr hb)) hc2
            have : ¬ (k' < 0) := fun h => hc2 (.inl h)
            have : ¬ (k' > (p : Int)) := fun h => hc2 (.inr (.inl h))
            exact ⟨by omega, by omega, fun _ => hnn⟩
        · intro i hi1 hi2
          rcases h3 i hi1 hi2 with h | h
          · exact .inl (List.mem_append.2 (.inl h))
          · exact .inr h
theorem walkM_stand (ns : List NT) : ∀ (d p q : Nat), walkM ns d p = (true, q) → p < q ∧ Stand ns p q
  | 0, p, q, h => by simp [walkM] at h
  | d + 1, p, q, h => by
    rw [walkM] at h
    split at h
    · simp at h
    · rename_i n hn
      have hm := walkK_met ns _ (walkM_stand ns d) p (kidsN n) [] (p + 1) q ⟨by omega, by simp, fun i n h1 h2 => by omega, fun i h1 h2 => by omega⟩ h
      rw [List.nil_append] at hm
      obtain ⟨h0, h1, h2, h3⟩ := hm
      refine ⟨h0, ?_, ?_⟩
      · intro i n' hi1 hi2 hn' k hk
        by_cases hi : i = p
        · subst hi
          rw [hn] at hn'
          obtain rfl := Option.some.inj hn'
          exact h1 k hk
        · exact h2 i n' (by omega) hi2 hn' k hk
      · intro i hi1 hi2
        rcases h3 i hi1 hi2 with h | ⟨j, n', hj1, hj2, hn', hm⟩
        · exact ⟨p, n, by omega, hi1, hn, h⟩
        · exact ⟨j, n', by omega, hj2, hn', hm⟩
theorem ordered_stand {s : ST} (h : orderedM s = true) : Stand s.nodes 0 s.nodes.length := by
  unfold orderedM at h
  simp only [Bool.and_eq_true, decide_eq_true_eq] at h
  obtain ⟨_, _, _, h1, h2⟩ := h
  exact (walkM_stand s.nodes 33 0 _ (by rw [← h1, ← h2])).2
end
end Go.Proofs.YtllnlmchjljhlaaGreatDoor
