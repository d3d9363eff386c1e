/- Texts that lead to the law DecodeBack, joined. -/
import Derived.Test.YtllnlmchjljhlaaGreatDoorProg
import Derived.WalkKit
import Derived.WalkSpells
import Derived.WalkLawsBesides
import Derived.Handy
import Derived.Lib.Hide
import Derived.Laws.BytesArg
import Derived.Lib.SlBytesConst
import Derived.Test.YtllnlmchjljhlaaGreatDoorPkDecodeBackXTy
namespace Go.Proofs.YtllnlmchjljhlaaGreatDoor
open Go.RowKit
set_option linter.unusedVariables false
set_option linter.unusedSimpArgs false

def BytesAt (w : World) (a : Option Addr) (b off : Nat) (l : List UInt8) : Prop :=
  (l ≠ [] → a = some ⟨b, off, none⟩) ∧ ∀ j, j < l.length → w.cell? ⟨b, off + j, none⟩ = some (.int .u8 ((l[j]?.getD 0).toNat : Int))
def str (l : List UInt8) : ByteArray := ⟨l.toArray⟩
theorem str_toList (l : List UInt8) : (str l).toList = l := by rw [ByteArray.toList_eq]; rfl
theorem str_size (l : List UInt8) : (str l).size = l.length := by simp [str, ByteArray.size]
theorem str_of (s : ByteArray) : str s.data.toList = s := by cases s; rfl
theorem BytesAt.keep {w w' : World} {a : Option Addr} {b off : Nat} {l : List UInt8} (h : BytesAt w a b off l) {B : Nat} (hb : Below B w w') (hlt : l ≠ [] → b < B) : BytesAt w' a b off l := by
  refine ⟨h.1, fun j hj => ?_⟩
  rw [← h.2 j hj]
  exact hb.cell (p := ⟨b, off + j, none⟩) (hlt (by intro e; subst e; simp at hj))
theorem BytesAt.lt {w : World} {a : Option Addr} {b off : Nat} {l : List UInt8} (h : BytesAt w a b off l) (hne : l ≠ []) : b < w.heap.size := by
  have := h.2 0 (List.length_pos_iff.2 hne)
  rcases Nat.lt_or_ge b w.heap.size with h | h
  · exact h
  · simp [World.cell?, Array.getElem?_eq_none h] at this
theorem BytesAt.below {w w' : World} {a : Option Addr} {b off : Nat} {l : List UInt8} (h : BytesAt w a b off l) (hb : Below w.heap.size w w') : BytesAt w' a b off l :=
  h.keep hb fun hne => h.lt hne

inductive JT where
  | mk (k : Int) (n : Int) (s : List UInt8) (ks : List (List UInt8)) (xs : List JT)
def idxS (key : List UInt8) (ks : List (List UInt8)) : Int := match ks.findIdx? (fun k => decide (key = k)) with | some i => (i : Int) | none => -1
theorem idxS_at {key : List UInt8} {ks : List (List UInt8)} {i : Nat} (h : ks[i]? = some key) (h0 : ∀ j, j < i → ks[j]? ≠ some key) : idxS key ks = (i : Int) := by
  unfold idxS
  have hi := (List.getElem?_eq_some_iff.1 h)
  have : ks.findIdx? (fun k => decide (key = k)) = some i := by
    rw [List.findIdx?_eq_some_iff_getElem]
    refine ⟨hi.1, by simp [hi.2], fun j hj => ?_⟩
    simp
    intro e
    exact h0 j hj (by rw [List.getElem?_eq_getElem (by have := hi.1; omega), e])
  rw [this]
theorem idxS_none {key : List UInt8} {ks : List (List UInt8)} (h0 : ∀ j, j < ks.length → ks[j]? ≠ some key) : idxS key ks = -1 := by
  unfold idxS
  have : ks.findIdx? (fun k => decide (key = k)) = none := by
    rw [List.findIdx?_eq_none_iff]
    intro x hx
    simp
    intro e
    obtain ⟨j, hj, hx⟩ := List.getElem_of_mem hx
    exact h0 j hj (by rw [List.getElem?_eq_getElem hj, hx, e])
  rw [this]

mutual
def JT.inr : JT → Prop
  | .mk k n s ks xs => (-9223372036854775808 ≤ n ∧ n ≤ 9223372036854775807) ∧ JT.inrL xs
def JT.inrL : List JT → Prop
  | [] => True
  | x :: xs => x.inr ∧ JT.inrL xs
end
theorem inrL_of : ∀ {xs : List JT}, (∀ x ∈ xs, x.inr) → JT.inrL xs
  | [], _ => trivial
  | x :: xs, h => ⟨h x (by simp), inrL_of fun y hy => h y (by simp [hy])⟩

def sPV (s : List UInt8) : List PV := [.v (.string (str s))]
theorem sPV_eq (s : List UInt8) : sPV s = [.v (.string (str s))] := rfl
theorem str_dl (l : List UInt8) : (str l).data.toList = l := by simp [str]
mutual
def JT.cells : JT → List PV
  | .mk k n s ks xs => [.v (.int .i64 k), .v (.int .i64 n), .v (.string (str s)), .sl 5 (JT.cellsL xs), .sl 1 (ks.map sPV)]
def JT.cellsL : List JT → List (List PV)
  | [] => []
  | x :: xs => x.cells :: JT.cellsL xs
end
theorem cellsL_map : ∀ (xs : List JT), JT.cellsL xs = xs.map JT.cells
  | [] => by simp [JT.cellsL]
  | x :: xs => by simp [JT.cellsL, cellsL_map xs]
def JT.av (t : JT) : AV := .agg (t.cells.map .c)
theorem JT.av_eq (t : JT) : t.av = .agg (t.cells.map .c) := rfl
mutual
def tdeep : JT → Nat
  | .mk k n s ks xs => if k = 5 ∨ k = 6 then tdeeps 1 xs else 0
def tdeeps : Nat → List JT → Nat
  | n, [] => n
  | n, x :: xs => tdeeps (max n (1 + tdeep x)) xs
end
theorem cells_mk (k n : Int) (s : List UInt8) (ks : List (List UInt8)) (xs : List JT) : (JT.mk k n s ks xs).cells = [.v (.int .i64 k), .v (.int .i64 n), .v (.string (str s)), .sl 5 (xs.map JT.cells), .sl 1 (ks.map sPV)] := by simp [JT.cells, cellsL_map]
theorem len_cells (t : JT) : t.cells.length = 5 := by cases t; simp [JT.cells]
theorem take_cells (t : JT) : t.cells.take 5 = t.cells := List.take_of_length_le (by rw [len_cells]; exact Nat.le_refl _)
theorem take_cellsC (t : JT) : (t.cells.map AV.c).take 5 = t.cells.map .c := List.take_of_length_le (by rw [List.length_map, len_cells]; exact Nat.le_refl _)

def iPV (n : Int) : List PV := [.v (.int .i64 n)]
structure FT where
  name : List UInt8
  aliases : List (List UInt8)
  type : Int
  has : Bool
  dflt : JT
def FT.cells (f : FT) : List PV := .v (.string (str f.name)) :: .sl 1 (f.aliases.map sPV) :: .v (.int .i64 f.type) :: .v (.bool f.has) :: f.dflt.cells
structure NT where
  kind : Int
  name : List UInt8
  aliases : List (List UInt8)
  fields : List FT
  symbols : List (List UInt8)
  has : Bool
  dflt : List UInt8
  size : Int
  items : Int
  branches : List Int
def NT.cells (n : NT) : List PV := [.v (.int .i64 n.kind), .v (.string (str n.name)), .sl 1 (n.aliases.map sPV), .sl 9 (n.fields.map FT.cells), .sl 1 (n.symbols.map sPV), .v (.bool n.has), .v (.string (str n.dflt)), .v (.int .i64 n.size), .v (.int .i64 n.items), .sl 1 (n.branches.map iPV)]
structure ST where
  nodes : List NT
  root : Int
def ST.cells (s : ST) : List PV := [.sl 10 (s.nodes.map NT.cells), .v (.int .i64 s.root)]
def FT.av (f : FT) : AV := .agg (f.cells.map .c)
def NT.av (n : NT) : AV := .agg (n.cells.map .c)
def ST.av (s : ST) : AV := .agg (s.cells.map .c)
theorem FT.av_eq (f : FT) : f.av = .agg (f.cells.map .c) := rfl
theorem NT.av_eq (n : NT) : n.av = .agg (n.cells.map .c) := rfl
theorem ST.av_eq (s : ST) : s.av = .agg (s.cells.map .c) := rfl
theorem iPV_eq (n : Int) : iPV n = [.v (.int .i64 n)] := rfl
theorem ncells_mk (n : NT) : n.cells = [.v (.int .i64 n.kind), .v (.string (str n.name)), .sl 1 (n.aliases.map sPV), .sl 9 (n.fields.map FT.cells), .sl 1 (n.symbols.map sPV), .v (.bool n.has), .v (.string (str n.dflt)), .v (.int .i64 n.size), .v (.int .i64 n.items), .sl 1 (n.branches.map iPV)] := rfl
theorem scells_mk (s : ST) : s.cells = [.sl 10 (s.nodes.map NT.cells), .v (.int .i64 s.root)] := rfl
theorem fcells_mk (f : FT) : f.cells = .v (.string (str f.name)) :: .sl 1 (f.aliases.map sPV) :: .v (.int .i64 f.type) :: .v (.bool f.has) :: f.dflt.cells := rfl
theorem len_fcells (f : FT) : f.cells.length = 9 := by simp [FT.cells, len_cells]
theorem len_ncells (n : NT) : n.cells.length = 10 := rfl
theorem len_scells (s : ST) : s.cells.length = 2 := rfl
theorem take_fcells (f : FT) : f.cells.take 9 = f.cells := List.take_of_length_le (by rw [len_fcells]; exact Nat.le_refl _)
theorem take_fcellsC (f : FT) : (f.cells.map AV.c).take 9 = f.cells.map .c := List.take_of_length_le (by rw [List.length_map, len_fcells]; exact Nat.le_refl _)
theorem take_ncells (n : NT) : n.cells.take 10 = n.cells := rfl
theorem take_ncellsC (n : NT) : (n.cells.map AV.c).take 10 = n.cells.map .c := rfl
theorem take_scells (s : ST) : s.cells.take 2 = s.cells := rfl
theorem take_scellsC (s : ST) : (s.cells.map AV.c).take 2 = s.cells.map .c := rfl
/-! The order of a schema's nodes. -/
def namedK (k : Int) : Bool := k == 9 || k == 10 || k == 14
def kidsN (n : NT) : List Int := if n.kind = 9 then n.fields.map (·.type) else if n.kind = 11 ∨ n.kind = 12 then [n.items] else if n.kind = 13 then n.branches else []
def kindAt (ns : List NT) (k : Nat) : Int := match ns[k]? with | some n => n.kind | none => 0
def walkK (ns : List NT) (f : Nat → Bool × Nat) : List Int → Nat → Bool × Nat
  | [], p => (true, p)
  | k :: ks, p => if k = (p : Int) then (if (f p).1 = true then walkK ns f ks (f p).2 else (false, (f p).2)) else if k < 0 ∨ k > (p : Int) ∨ namedK (kindAt ns k.toNat) = false then (false, p) else walkK ns f ks p
def walkM (ns : List NT) : Nat → Nat → Bool × Nat
  | 0, p => (false, p)
  | d + 1, p => match ns[p]? with | none => (false, p) | some n => walkK ns (walkM ns d) (kidsN n) (p + 1)
def orderedM (s : ST) : Bool := decide (0 < s.nodes.length) && (decide (s.nodes.length ≤ 200) && (decide (s.root = 0) && ((walkM s.nodes 33 0).1 && decide ((walkM s.nodes 33 0).2 = s.nodes.length))))
theorem walkK_le (ns : List NT) (f : Nat → Bool × Nat) (hf : ∀ p, p ≤ ns.length → p ≤ (f p).2 ∧ (f p).2 ≤ ns.length) : ∀ (ks : List Int) (p : Nat), p ≤ ns.length → p ≤ (walkK ns f ks p).2 ∧ (walkK ns f ks p).2 ≤ ns.length
  | [], p, h => ⟨Nat.le_refl _, h⟩
  | k :: ks, p, h => by
    rw [walkK]
    have h1 := hf p h
    split
    · split
      · have h2 := walkK_le ns f hf ks (f p).2 h1.2
        omega
      · exact h1
    · split
      · exact ⟨Nat.le_refl _, h⟩
      · exact walkK_le ns f hf ks p h
theorem walkM_le (ns : List NT) : ∀ (d p : Nat), p ≤ ns.length → p ≤ (walkM ns d p).2 ∧ (walkM ns d p).2 ≤ ns.length
  | 0, p, h => ⟨Nat.le_refl _, h⟩
  | d + 1, p, h => by
    rw [walkM]
    split
    · exact ⟨Nat.le_refl _, h⟩
    · rename_i n hn
      have hp : p < ns.length := (List.getElem?_eq_some_iff.1 hn).1
      have := walkK_le ns _ (walkM_le ns d) (kidsN n) (p + 1) hp
      omega
def Stand (ns : List NT) (a b : Nat) : Prop :=
  (∀ (i : Nat) (n : NT), a ≤ i → i < b → ns[i]? = some n → ∀ k ∈ kidsN n, 0 ≤ k ∧ k < (b : Int) ∧ (k ≤ (i : Int) → namedK (kindAt ns k.toNat) = true)) ∧ (∀ i : Nat, a < i → i < b → ∃ (j : Nat) (n : NT), a ≤ j ∧ j < i ∧ ns[j]? = some n ∧ (i : Int) ∈ kidsN n)
def Met (ns : List NT) (a : Nat) (done : List Int) (b : Nat) : Prop :=
  a < b ∧ (∀ k ∈ done, 0 ≤ k ∧ k < (b : Int) ∧ (k ≤ (a : Int) → namedK (kindAt ns k.toNat) = true)) ∧ (∀ (i : Nat) (n : NT), a < i → i < b → ns[i]? = some n → ∀ k ∈ kidsN n, 0 ≤ k ∧ k < (b : Int) ∧ (k ≤ (i : Int) → namedK (kindAt ns k.toNat) = true))
    ∧ (∀ i : Nat, a < i → i < b → (i : Int) ∈ done ∨ ∃ (j : Nat) (n : NT), a < j ∧ j < i ∧ ns[j]? = some n ∧ (i : Int) ∈ kidsN n)
theorem walkK_met (ns : List NT) (f : Nat → Bool × Nat) (hf : ∀ p q, f p = (true, q) → p < q ∧ Stand ns p q) (a : Nat) : ∀ (ks : List Int) (done : List Int) (p q : Nat), Met ns a done p → walkK ns f ks p = (true, q) → Met ns a (done ++ ks) q
  | [], done, p, q, h, hw => by
    rw [walkK] at hw
    obtain rfl : p = q := (Prod.mk.inj hw).2
    rwa [List.append_nil]
  | k :: ks, done, p, q, h, hw => by
    rw [walkK] at hw
    obtain ⟨h0, h1, h2, h3⟩ := h
    have hc : done ++ k :: ks = (done ++ [k]) ++ ks := by simp
    rw [hc]
    split at hw
    · rename_i hk
      split at hw
      · rename_i hb
        obtain ⟨hlt, hs⟩ := hf p (f p).2 (by rw [← hb])
        refine walkK_met ns f hf a ks (done ++ [k]) (f p).2 q ⟨by omega, ?_, ?_, ?_⟩ hw
        · intro k' hk'
          rcases List.mem_append.1 hk' with h | h
          · have := h1 k' h
            exact ⟨this.1, by omega, this.2.2⟩
          · obtain rfl := List.mem_singleton.1 h
            exact ⟨by omega, by omega, fun h => by omega⟩
        · intro i n hi1 hi2 hn k' hk'
          by_cases hip : i < p
          · have := h2 i n hi1 hip hn k' hk'
            exact ⟨this.1, by omega, this.2.2⟩
          · exact hs.1 i n (by omega) hi2 hn k' hk'
        · intro i hi1 hi2
          by_cases hip : i < p
          · rcases h3 i hi1 hip with h | h
            · exact .inl (List.mem_append.2 (.inl h))
            · exact .inr h
          · by_cases hie : i = p
            · exact .inl (List.mem_append.2 (.inr (by rw [hie, hk]; simp)))
            · obtain ⟨j, n, hj1, hj2, hn, hm⟩ := hs.2 i (by omega) hi2
              exact .inr ⟨j, n, by omega, hj2, hn, hm⟩
      · simp at hw
    · rename_i hk
      split at hw
      · simp at hw
      · rename_i hc2
        refine walkK_met ns f hf a ks (done ++ [k]) p q ⟨h0, ?_, h2, ?_⟩ hw
        · intro k' hk'
          rcases List.mem_append.1 hk' with h | h
          · exact h1 k' h
          · obtain rfl := List.mem_singleton.1 h
            have hnn : namedK (kindAt ns k'.toNat) = true := by
              cases hb : namedK (kindAt ns k'.toNat) with
              | true => rfl
              | false => exact absurd (.inr (.inr hb)) hc2
            have : ¬ (k' < 0) := fun h => hc2 (.inl h)
            have : ¬ (k' > (p : Int)) := fun h => hc2 (.inr (.inl h))
            exact ⟨by omega, by omega, fun _ => hnn⟩
        · intro i hi1 hi2
          rcases h3 i hi1 hi2 with h | h
          · exact .inl (List.mem_append.2 (.inl h))
          · exact .inr h
theorem walkM_stand (ns : List NT) : ∀ (d p q : Nat), walkM ns d p = (true, q) → p < q ∧ Stand ns p q
  | 0, p, q, h => by simp [walkM] at h
  | d + 1, p, q, h => by
    rw [walkM] at h
    split at h
    · simp at h
    · rename_i n hn
      have hm := walkK_met ns _ (walkM_stand ns d) p (kidsN n) [] (p + 1) q ⟨by omega, by simp, fun i n h1 h2 => by omega, fun i h1 h2 => by omega⟩ h
      rw [List.nil_append] at hm
      obtain ⟨h0, h1, h2, h3⟩ := hm
      refine ⟨h0, ?_, ?_⟩
      · intro i n' hi1 hi2 hn' k hk
        by_cases hi : i = p
        · subst hi
          rw [hn] at hn'
          obtain rfl := Option.some.inj hn'
          exact h1 k hk
        · exact h2 i n' (by omega) hi2 hn' k hk
      · intro i hi1 hi2
        rcases h3 i hi1 hi2 with h | ⟨j, n', hj1, hj2, hn', hm⟩
        · exact ⟨p, n, by omega, hi1, hn, h⟩
        · exact ⟨j, n', by omega, hj2, hn', hm⟩
theorem ordered_stand {s : ST} (h : orderedM s = true) : Stand s.nodes 0 s.nodes.length := by
  unfold orderedM at h
  simp only [Bool.and_eq_true, decide_eq_true_eq] at h
  obtain ⟨_, _, _, h1, h2⟩ := h
  exact (walkM_stand s.nodes 33 0 _ (by rw [← h1, ← h2])).2
section

def byteAt (l : List UInt8) (i : Nat) : UInt8 := l[i]?.getD 0
def ufirst (c : UInt8) : Nat := if c.toNat < 128 then 1 else if c.toNat < 194 then 0 else if c.toNat < 224 then 2 else if c.toNat < 240 then 3 else if c.toNat < 245 then 4 else 0
def ulo (a : UInt8) : Nat := if a.toNat = 224 then 160 else if a.toNat = 240 then 144 else 128
def uhi (a : UInt8) : Nat := if a.toNat = 237 then 159 else if a.toNat = 244 then 143 else 191
def usec (a b : UInt8) : Bool := decide (ulo a ≤ b.toNat ∧ b.toNat ≤ uhi a)
def ucont (b : UInt8) : Bool := decide (128 ≤ b.toNat ∧ b.toNat < 192)
def ustep (l : List UInt8) (p i : Nat) : Nat := if p + i < l.length then (if ucont (byteAt l (p + i)) = true ∧ (i = 1 → usec (byteAt l p) (byteAt l (p + i)) = true) then 0 else 11) else 10
def ustat (l : List UInt8) (p : Nat) : Nat → Nat
  | 0 => 0
  | k + 1 => if ustat l p k = 0 then ustep l p (k + 1) else ustat l p k
def uerr (l : List UInt8) (p : Nat) : Nat := if p < l.length then (if ufirst (byteAt l p) = 0 then 11 else ustat l p (ufirst (byteAt l p) - 1)) else 10
def ulen (l : List UInt8) (p : Nat) : Nat := ufirst (byteAt l p)
theorem ustat_mono {l : List UInt8} {p k : Nat} (h : ustat l p k ≠ 0) : ∀ j, ustat l p (k + j) = ustat l p k := by
  intro j
  induction j with
  | zero => rfl
  | succ j ih => rw [show k + (j + 1) = (k + j) + 1 from by omega]; simp only [ustat]; rw [ih, if_neg h]
theorem ustat_bad {l : List UInt8} {p i n : Nat} (hi : 1 ≤ i) (hin : i < n) (h0 : ustat l p (i - 1) = 0) (h : ustep l p i ≠ 0) : ustat l p (n - 1) = ustep l p i := by
  have h1 : ustat l p i = ustep l p i := by
    cases i with
    | zero => omega
    | succ i => simp only [ustat]; rw [if_pos (by simpa using h0)]
  have := ustat_mono (l := l) (p := p) (k := i) (by rw [h1]; exact h) (n - 1 - i)
  rw [h1] at this
  rwa [show i + (n - 1 - i) = n - 1 from by omega] at this
theorem ustat_next {l : List UInt8} {p k : Nat} (h0 : ustat l p k = 0) (h : ustep l p (k + 1) = 0) : ustat l p (k + 1) = 0 := by
  simp only [ustat]; rw [if_pos h0, h]
variable {l : List UInt8} {p : Nat}
theorem ulen_bound (h : uerr l p = 0) : 0 < ulen l p ∧ p + ulen l p ≤ l.length := by
  unfold uerr at h
  split at h
  · rename_i hp
    split at h
    · simp at h
    · rename_i hf
      refine ⟨by unfold ulen; omega, ?_⟩
      unfold ulen
      have key : ∀ k, ustat l p k = 0 → p + k < l.length := by
        intro k
        induction k with
        | zero => intro _; omega
        | succ k ih =>
          intro hk
          simp only [ustat] at hk
          split at hk
          · unfold ustep at hk
            split at hk
            · omega
            · simp at hk
          · rename_i h1; exact absurd hk h1
      have := key _ h
      omega
  · simp at h
def uCnt (l : List UInt8) (p k : Nat) : Nat × Nat :=
  if h : p < l.length then (if h2 : uerr l p = 0 ∧ 0 < ulen l p then uCnt l (p + ulen l p) (k + 1) else (0, 11)) else (k, 0)
termination_by l.length - p
theorem uCnt_end {l : List UInt8} {p k : Nat} (h : ¬ p < l.length) : uCnt l p k = (k, 0) := by rw [uCnt, dif_neg h]
theorem uCnt_bad {l : List UInt8} {p k : Nat} (h : p < l.length) (h2 : uerr l p ≠ 0) : uCnt l p k = (0, 11) := by rw [uCnt, dif_pos h, dif_neg (fun x => h2 x.1)]
theorem uCnt_next {l : List UInt8} {p k : Nat} (h : p < l.length) (h2 : uerr l p = 0) : uCnt l p k = uCnt l (p + ulen l p) (k + 1) := by rw [uCnt, dif_pos h, dif_pos ⟨h2, (ulen_bound h2).1⟩]
def isRight (l : List UInt8) : Bool := decide ((uCnt l 0 0).2 = 0)
end

inductive VT where
  | mk (k : Int) (n : Int) (b : Int) (s : List UInt8) (xs : List VT) (ks : List (List UInt8))
mutual
def VT.cells : VT → List PV
  | .mk k n b s xs ks => [.v (.int .i64 k), .v (.int .i64 n), .v (.int .u64 b), .sl 1 (bytePV s), .sl 6 (VT.cellsL xs), .sl 1 (ks.map sPV)]
def VT.cellsL : List VT → List (List PV)
  | [] => []
  | x :: xs => x.cells :: VT.cellsL xs
end
theorem vcellsL_map : ∀ (xs : List VT), VT.cellsL xs = xs.map VT.cells
  | [] => by simp [VT.cellsL]
  | x :: xs => by simp [VT.cellsL, vcellsL_map xs]
def VT.av (v : VT) : AV := .agg (v.cells.map .c)
theorem VT.av_eq (v : VT) : v.av = .agg (v.cells.map .c) := rfl
theorem vcells_mk (k n b : Int) (s : List UInt8) (xs : List VT) (ks : List (List UInt8)) : (VT.mk k n b s xs ks).cells = [.v (.int .i64 k), .v (.int .i64 n), .v (.int .u64 b), .sl 1 (bytePV s), .sl 6 (xs.map VT.cells), .sl 1 (ks.map sPV)] := by simp [VT.cells, vcellsL_map]
theorem len_vcells (v : VT) : v.cells.length = 6 := by cases v; simp [VT.cells]
theorem take_vcells (v : VT) : v.cells.take 6 = v.cells := List.take_of_length_le (by rw [len_vcells]; exact Nat.le_refl _)
theorem take_vcellsC (v : VT) : (v.cells.map AV.c).take 6 = v.cells.map .c := List.take_of_length_le (by rw [List.length_map, len_vcells]; exact Nat.le_refl _)
theorem bytePV_len (l : List UInt8) : (bytePV l).length = l.length := by simp [bytePV]
mutual
def VT.sm (N : Nat) : VT → Prop
  | .mk k n b s xs ks => (0 ≤ b ∧ b < 18446744073709551616) ∧ s.length ≤ N ∧ ks.length ≤ N ∧ (∀ y ∈ ks, y.length ≤ N) ∧ xs.length ≤ N ∧ VT.smL N xs
def VT.smL (N : Nat) : List VT → Prop
  | [] => True
  | x :: xs => x.sm N ∧ VT.smL N xs
end
theorem vsmL_mem {N : Nat} : ∀ {xs : List VT}, VT.smL N xs → ∀ x ∈ xs, x.sm N
  | x :: xs, h, y, hy => by
    rcases List.mem_cons.1 hy with rfl | hy
    · exact h.1
    · exact vsmL_mem h.2 y hy
mutual
theorem vsm_le {N M : Nat} (h : N ≤ M) : ∀ v : VT, v.sm N → v.sm M
  | .mk k n b s xs ks => fun ⟨h0, h1, h2, h3, h4, h5⟩ => ⟨h0, by omega, by omega, fun y hy => Nat.le_trans (h3 y hy) h, by omega, vsmL_le h xs h5⟩
theorem vsmL_le {N M : Nat} (h : N ≤ M) : ∀ xs : List VT, VT.smL N xs → VT.smL M xs
  | [] => fun _ => trivial
  | x :: xs => fun ⟨h1, h2⟩ => ⟨vsm_le h x h1, vsmL_le h xs h2⟩
end
mutual
def VT.inr : VT → Prop
  | .mk k n b s xs ks => (0 ≤ b ∧ b < 18446744073709551616) ∧ VT.inrL xs
def VT.inrL : List VT → Prop
  | [] => True
  | x :: xs => x.inr ∧ VT.inrL xs
end
theorem vinrL_of : ∀ {xs : List VT}, (∀ x ∈ xs, x.inr) → VT.inrL xs
  | [], _ => trivial
  | x :: xs, h => ⟨h x (by simp), vinrL_of fun y hy => h y (by simp [hy])⟩
/-! Which values are ones of a node. -/
def VT.kind : VT → Int | .mk k _ _ _ _ _ => k
def VT.int : VT → Int | .mk _ n _ _ _ _ => n
def VT.items : VT → List VT | .mk _ _ _ _ xs _ => xs
def vbare (k n b : Int) (s : List UInt8) (m : Nat) (ks : List (List UInt8)) : Bool :=
  ((k == 2 || k == 3 || k == 4 || k == 10 || k == 13) || n == 0) && (((k == 5 || k == 6) || b == 0) && (((k == 7 || k == 8 || k == 14) || s.isEmpty) && (((k == 9 || k == 11 || k == 12 || k == 13) || m == 0) && (k == 12 || ks.isEmpty))))
def keyM (y : List UInt8) : Bool := decide (y.length ≤ 20000) && isRight y
def headM (nd : NT) (k n b : Int) (s : List UInt8) (m : Nat) (ks : List (List UInt8)) : Bool :=
  (k == nd.kind && (vbare k n b s m ks && decide (s.length ≤ 20000))) && (
    if k = 2 then n == 0 || n == 1 else if k = 3 then decide (-2147483648 ≤ n) && decide (n ≤ 2147483647) else if k = 5 then decide (b < 4294967296) else if k = 8 then isRight s
    else if k = 14 then (s.length : Int) == nd.size else if k = 10 then decide (0 ≤ n) && decide (n < (nd.symbols.length : Int)) else if k = 9 then m == nd.fields.length && decide (m ≤ 300)
    else if k = 12 then (ks.length == m && ks.all keyM) && decide (m ≤ 300) else if k = 11 then decide (m ≤ 300) else if k = 13 then decide (0 ≤ n) && (decide (n < (nd.branches.length : Int)) && m == 1) else true)
def typeAt (nd : NT) (i : Nat) : Int := match nd.fields[i]? with | some f => f.type | none => -1
def branchAt (nd : NT) (i : Int) : Int := match nd.branches[i.toNat]? with | some k => k | none => -1
def itemAt (nd : NT) (n : Int) (i : Nat) : Int := if nd.kind = 9 then typeAt nd i else if nd.kind = 13 then branchAt nd n else nd.items
mutual
def isM (ns : List NT) : Int → VT → Bool
  | a, .mk k n b s xs ks => match ns[a.toNat]? with | none => false | some nd => headM nd k n b s xs.length ks && eachM ns (itemAt nd n) xs
def eachM (ns : List NT) : (Nat → Int) → List VT → Bool
  | _, [] => true
  | f, x :: xs => isM ns (f 0) x && eachM ns (fun i => f (i + 1)) xs
end
theorem eachM_iff (ns : List NT) : ∀ (f : Nat → Int) (xs : List VT), eachM ns f xs = true ↔ ∀ (i : Nat) (x : VT), xs[i]? = some x → isM ns (f i) x = true
  | f, [] => by simp [eachM]
  | f, x :: xs => by
    rw [eachM, Bool.and_eq_true, eachM_iff ns _ xs]
    constructor
    · rintro ⟨h1, h2⟩ i y hy
      match i with
      | 0 => obtain rfl := Option.some.inj hy; exact h1
      | i + 1 => exact h2 i y hy
    · intro h
      exact ⟨h 0 x rfl, fun i y hy => h (i + 1) y hy⟩
theorem eachM_false {ns : List NT} {f : Nat → Int} {xs : List VT} {i : Nat} {x : VT} (h : xs[i]? = some x) (hx : isM ns (f i) x = false) : eachM ns f xs = false := by
  cases he : eachM ns f xs with
  | false => rfl
  | true =>
    have := (eachM_iff ns f xs).1 he i x h
    rw [hx] at this
    simp at this
theorem isM_eq {ns : List NT} {a : Int} {nd : NT} (h : ns[a.toNat]? = some nd) (k n b : Int) (s : List UInt8) (xs : List VT) (ks : List (List UInt8)) : isM ns a (.mk k n b s xs ks) = (headM nd k n b s xs.length ks && eachM ns (itemAt nd n) xs) := by rw [isM, h]
noncomputable def conM (s : ST) (a : Int) (v : VT) (right : Bool) : Bool := decide (0 ≤ a) && (decide (a < (s.nodes.length : Int)) && (right && isM s.nodes a v))
mutual
def vdeep : VT → Nat
  | .mk k n b s xs ks => if k = 9 ∨ k = 11 ∨ k = 12 ∨ k = 13 then vdeeps 1 xs else 0
def vdeeps : Nat → List VT → Nat
  | n, [] => n
  | n, x :: xs => vdeeps (max n (1 + vdeep x)) xs
end
theorem vdeeps_snoc : ∀ (xs : List VT) (x : VT) (n : Nat), vdeeps n (xs ++ [x]) = max (vdeeps n xs) (1 + vdeep x)
  | [], x, n => by simp [vdeeps]
  | y :: xs, x, n => by simp only [List.cons_append, vdeeps]; exact vdeeps_snoc xs x _
theorem vdeeps_le : ∀ (xs : List VT) (n : Nat), n ≤ vdeeps n xs ∧ ∀ x ∈ xs, vdeep x + 1 ≤ vdeeps n xs
  | [], n => ⟨Nat.le_refl _, by simp⟩
  | y :: xs, n => by
    obtain ⟨h1, h2⟩ := vdeeps_le xs (max n (1 + vdeep y))
    simp only [vdeeps]
    refine ⟨by omega, fun x hx => ?_⟩
    rcases List.mem_cons.1 hx with rfl | hx
    · omega
    · exact h2 x hx
section
attribute [local go_sem] opx opE ev okx gcond bnd okO AV.get AV.okb cAV upd_at putd_some putd_none wrs_nil wrs_cons look_nil look_cons st argT_at bpick_and bpick_or bpick_true bpick_false binV binI binS binVOk binOk isShift binSOk unV unVOk loadV loadP cellsA zeroA Blkd.len setE grown moreA moreR moreOk eqRes pv fillA fillE putSeg AV.cellish AV.pureL AV.pureB lentL_is ex_some AV.ren AV.renL renL_c Blkd.ren rho wrM renN lentOk rhoE keepM endOk tyA_2 tyA_3 tyA_4 tyA_5 tyA_6 tyA_7 tyA_8 tyA_9 tyA_10 tyA_11 tyA_12 tyA_13 tyA_14 tyA_15 tyA_16 tyA_17 tyA_18 tyA_19 tyA_21 tyA_22 tyA_23 tyA_24 tyA_29 tyA_30 tyA_31 tyA_32 tyA_33 tyA_34 tyA_35 tyA_36 tyA_37 tyA_38 tyA_39 tyA_40 tyA_41 tyA_42 tyA_43 tyA_49 tyA_85 tyA_89 tyA_99 tyA_100 tyA_101 tyA_105 tyA_106 tyA_107 tyA_108 tyA_109 tyA_111 tyA_112 tyA_113 tyA_114 tyA_123 tyA_126 tyA_127 tyA_128 tyA_129 tyA_130 tyA_153 tyA_163 tyA_164 tyA_165 tyA_179 tyA_185 tyA_191 tyA_192 tyA_193 tyA_194 tyA_195 tyA_196 tyA_209 tyA_213 tyA_214 tyA_215 tyA_241 tyA_248 tyA_274 tyA_275 tyA_276 tyA_292 tyA_294 tyA_302 tyA_307 tyA_315 tyA_319 tyA_321 tyA_324 tyA_325 tyA_326 tyA_327 tyA_328 tyA_329 tyA_330 tyA_332 tyA_333 Option.map_some Option.map_none Option.getD_some Option.getD_none Option.bind_some Option.bind_none List.getElem?_cons_zero List.getElem?_cons_succ List.getElem?_nil List.getElem?_toArray List.length_cons List.length_nil List.length_map List.forall_mem_map List.map_cons List.map_nil List.drop_zero List.drop_succ_cons List.drop_nil List.take_zero List.take_succ_cons List.take_nil List.mem_cons List.not_mem_nil or_false forall_eq_or_imp forall_eq List.set_cons_zero List.set_cons_succ List.cons_append List.nil_append List.append_nil List.foldl_cons List.foldl_nil List.replicate_succ List.replicate_zero List.all_cons List.all_nil if_true if_false Bool.false_eq_true ne_eq not_false_eq_true not_true_eq_false true_and and_true and_self true_implies imp_self implies_true forall_const beq_self_eq_true Bool.and_true Bool.true_and Bool.and_false Bool.false_and Bool.or_true Bool.true_or Bool.or_false Bool.false_or Bool.not_true Bool.not_false Bool.not_eq_eq_eq_not intKindOf Value.oneCell' Int.toNat_natCast beq_true beq_false Bool.not_eq_true false_implies false_or true_or or_true Nat.zero_add Nat.add_zero decide_true decide_false Int.cast_ofNat_Int Int.toNat_zero Int.toNat_one eq_self

def bA (l : List UInt8) : List (List AV) := l.map fun b => [AV.c (.v (.int .u8 (b.toNat : Int)))]
theorem bA_len (l : List UInt8) : (bA l).length = l.length := by simp [bA]
theorem bA_app (l m : List UInt8) : bA l ++ bA m = bA (l ++ m) := by simp [bA]
theorem bA_one (l : List UInt8) (x : UInt8) : bA l ++ [[AV.c (.v (.int .u8 (x.toNat : Int)))]] = bA (l ++ [x]) := by simp [bA]
theorem bA_nil : bA [] = [] := rfl
theorem bA_cons (x : UInt8) (l : List UInt8) : bA (x :: l) = [AV.c (.v (.int .u8 (x.toNat : Int)))] :: bA l := rfl
theorem bA_pv (l : List UInt8) : bA l = (bytePV l).map fun e => e.map AV.c := by simp [bA, bytePV]
theorem bA_ren (ρ : Nat → Nat) (l : List UInt8) : (bA l).map (AV.renL ρ) = bA l := by
  induction l with
  | nil => rfl
  | cons x l ih => rw [bA_cons, List.map_cons, ih]; rfl
theorem bA_sc {used : Nat → Prop} {h : Nat → Option Blkd} (l : List UInt8) : (∀ e ∈ bA l, ∀ x ∈ e, Sc used h x) = True := eq_true fun e he x hx => by
  obtain ⟨b, _, rfl⟩ := List.mem_map.1 he
  simp at hx
  subst hx
  exact .c
def bB (l : List UInt8) : Blkd := ⟨true, 5, 1, bA l⟩

def zigN (n : Int) : Nat := if 0 ≤ n then (2 * n).toNat else (-2 * n - 1).toNat
theorem zig_bits (n : Int) (h1 : -9223372036854775808 ≤ n) (h2 : n ≤ 9223372036854775807) : IntKind.u64.wrap ((BitVec.ofInt 64 (IntKind.u64.wrap (IntKind.u64.wrap n * 2 ^ min 1 64)) ^^^ BitVec.ofInt 64 (IntKind.u64.wrap (n.fdiv (2 ^ min (Int.toNat 63) 64)))).toNat : Int) = (zigN n : Int) := by
  rw [show (2 : Int) ^ min 1 64 = 2 from rfl, show (2 : Int) ^ min (Int.toNat 63) 64 = 9223372036854775808 from rfl, IntKind.wrap_u64, IntKind.wrap_u64, IntKind.wrap_u64, IntKind.wrap_u64, Int.fdiv_eq_ediv_of_nonneg _ (by decide)]
  by_cases hn : 0 ≤ n
  · have e1 : n / 9223372036854775808 % 18446744073709551616 = 0 := by omega
    have e2 : n % 18446744073709551616 * 2 % 18446744073709551616 = ((2 * n).toNat : Int) := by omega
    rw [e1, e2, zigN, if_pos hn]
    simp
    omega
  · have e1 : n / 9223372036854775808 % 18446744073709551616 = 18446744073709551615 := by omega
    have e2 : n % 18446744073709551616 * 2 % 18446744073709551616 = ((2 * n + 18446744073709551616).toNat : Int) := by omega
    have e3 : BitVec.ofInt 64 18446744073709551615 = BitVec.allOnes 64 := by decide
    rw [e1, e2, e3, BitVec.xor_allOnes, BitVec.toNat_not, zigN, if_neg hn, BitVec.ofInt_natCast, BitVec.toNat_ofNat]
    omega
set_option maxRecDepth 100000 in
set_option maxHeartbeats 400000 in
theorem zig_told (n : Int) (h1 : -9223372036854775808 ≤ n) (h2 : n ≤ 9223372036854775807) : Told Tryz.prog 217 [.c (.v (.int .i64 n))] (.c (.v (.int .u64 (zigN n : Int)))) := by
  have hz := zig_bits n h1 h2
  refine VC.told ent_217 Tryz.func217 rfl Tryz.ntmps217 (by simp) (by first | rfl | simp [AV.pureB, AV.pureL, pureL_c, pures]) (by first | rfl | simp [AV.pureB, AV.pureL, pureL_c, pures]) fun hb => ?_
  clear hb
  refine walkG ?_
  refine ⟨by first | exact .inr rfl | exact .inl rfl, ?_⟩; rw [Tryz.results217]; simp only [resOk, resV, go_sem, simprocAttr]
  exact frz_c (congrArg (fun z => PV.v (.int .u64 z)) hz)
set_option maxRecDepth 100000 in
set_option maxHeartbeats 800000 in
theorem pbool_told (l : List UInt8) (n : Int) (hl : l.length ≤ 1000000000) : ToldM Tryz.prog 149 [.row 1000000 l.length, .c (.v (.int .i64 n))] [bB l] [some (bB (l ++ [if n = 0 then 0 else 1]))] (.row 1000000 (l ++ [if n = 0 then (0 : UInt8) else 1]).length) := by
  unfold bB
  by_cases hn : n = 0
  · rw [if_pos hn]
    have e1 : (n != 0) = false := by simp [hn]
    obtain ⟨q, hq⟩ : ∃ q, q = l ++ [(0 : UInt8)] := ⟨_, rfl⟩
    have hbo : bA l ++ [[AV.c (.v (.int .u8 0))]] = bA q := by rw [hq]; exact bA_one l 0
    have hle : l.length + 1 = q.length := by rw [hq]; simp
    rw [← hq]
    refine VC.toldM ent_149 [] Tryz.func149 rfl Tryz.ntmps149 (by simp) (by simp only [ bA_len, bA_sc, ScM, zOk, inL, eq_self, used_is, sc_any, sc_c, sc_pp, sc_ref, sc_row, sc_agg, sc_tup, sc_fn, ScL, some_imp, List.forall_mem_map, Nat.le_refl, go_sem, simprocAttr]) (by simp only [ bA_len, bA_sc, ScM, zOk, inL, eq_self, used_is, sc_any, sc_c, sc_pp, sc_ref, sc_row, sc_agg, sc_tup, sc_fn, ScL, some_imp, List.forall_mem_map, Nat.le_refl, go_sem, simprocAttr]) (by simp only [ bA_len, bA_sc, ScM, zOk, inL, eq_self, used_is, sc_any, sc_c, sc_pp, sc_ref, sc_row, sc_agg, sc_tup, sc_fn, ScL, some_imp, List.forall_mem_map, Nat.le_refl, go_sem, simprocAttr]) (by simp only [ bA_len, bA_sc, ScM, zOk, inL, eq_self, used_is, sc_any, sc_c, sc_pp, sc_ref, sc_row, sc_agg, sc_tup, sc_fn, ScL, some_imp, List.forall_mem_map, Nat.le_refl, go_sem, simprocAttr]) (by simp) fun hb hbL => ?_
    clear hb hbL
    refine walkBF (And.intro @bA_len (And.intro e1 (And.intro hbo hle))) ?_
    refine ⟨by first | exact .inr rfl | exact .inl rfl, ?_⟩; rw [Tryz.results149]; simp only [bA_ren, bA_len, resOk, resV, go_sem, simprocAttr]
    exact .keepW rfl
  · rw [if_neg hn]
    have e1 : (n != 0) = true := by simpa using hn
    obtain ⟨q, hq⟩ : ∃ q, q = l ++ [(1 : UInt8)] := ⟨_, rfl⟩
    have hbo : bA l ++ [[AV.c (.v (.int .u8 1))]] = bA q := by rw [hq]; exact bA_one l 1
    have hle : l.length + 1 = q.length := by rw [hq]; simp
    rw [← hq]
    refine VC.toldM ent_149 [] Tryz.func149 rfl Tryz.ntmps149 (by simp) (by simp only [ bA_len, bA_sc, ScM, zOk, inL, eq_self, used_is, sc_any, sc_c, sc_pp, sc_ref, sc_row, sc_agg, sc_tup, sc_fn, ScL, some_imp, List.forall_mem_map, Nat.le_refl, go_sem, simprocAttr]) (by simp only [ bA_len, bA_sc, ScM, zOk, inL, eq_self, used_is, sc_any, sc_c, sc_pp, sc_ref, sc_row, sc_agg, sc_tup, sc_fn, ScL, some_imp, List.forall_mem_map, Nat.le_refl, go_sem, simprocAttr]) (by simp only [ bA_len, bA_sc, ScM, zOk, inL, eq_self, used_is, sc_any, sc_c, sc_pp, sc_ref, sc_row, sc_agg, sc_tup, sc_fn, ScL, some_imp, List.forall_mem_map, Nat.le_refl, go_sem, simprocAttr]) (by simp only [ bA_len, bA_sc, ScM, zOk, inL, eq_self, used_is, sc_any, sc_c, sc_pp, sc_ref, sc_row, sc_agg, sc_tup, sc_fn, ScL, some_imp, List.forall_mem_map, Nat.le_refl, go_sem, simprocAttr]) (by simp) fun hb hbL => ?_
    clear hb hbL
    refine walkBF (And.intro @bA_len (And.intro e1 (And.intro hbo hle))) ?_
    refine ⟨by first | exact .inr rfl | exact .inl rfl, ?_⟩; rw [Tryz.results149]; simp only [bA_ren, bA_len, resOk, resV, go_sem, simprocAttr]
    exact .keepW rfl
def vint (u : Nat) : List UInt8 := if h : u < 128 then [u.toUInt8] else (u % 128 + 128).toUInt8 :: vint (u / 128)
theorem vint_lt {u : Nat} (h : u < 128) : vint u = [u.toUInt8] := by rw [vint, dif_pos h]
theorem vint_ge {u : Nat} (h : ¬ u < 128) : vint u = (u % 128 + 128).toUInt8 :: vint (u / 128) := by rw [vint, dif_neg h]
theorem vint_len : ∀ (k u : Nat), u < 128 ^ (k + 1) → (vint u).length ≤ k + 1
  | 0, u, h => by rw [vint_lt (by omega)]; simp
  | k + 1, u, h => by
    by_cases h1 : u < 128
    · rw [vint_lt h1]; simp
    · rw [vint_ge h1]
      have := vint_len k (u / 128) (by rw [Nat.pow_succ] at h; omega)
      simp
      omega
theorem zig_lt (n : Int) (h1 : -9223372036854775808 ≤ n) (h2 : n ≤ 9223372036854775807) : zigN n < 18446744073709551616 := by
  unfold zigN
  split <;> omega
def vput (n : Int) : List UInt8 := vint (zigN n)
theorem vput_len (n : Int) (h1 : -9223372036854775808 ≤ n) (h2 : n ≤ 9223372036854775807) : (vput n).length ≤ 10 := by
  have := zig_lt n h1 h2
  exact vint_len 9 _ (by omega)
theorem or128 (u : Nat) : IntKind.u8.wrap ((BitVec.ofInt 8 (IntKind.u8.wrap (u : Int)) ||| BitVec.ofInt 8 128).toNat : Int) = (((u % 128 + 128).toUInt8).toNat : Int) := by
  rw [IntKind.wrap_u8, IntKind.wrap_u8]
  have e1 : (u : Int) % 256 = ((u % 256 : Nat) : Int) := by omega
  rw [e1, BitVec.ofInt_natCast]
  have key : ∀ x : Fin 256, ((BitVec.ofNat 8 x.val ||| BitVec.ofInt 8 128).toNat) = x.val % 128 + 128 := by decide +kernel
  have := key ⟨u % 256, by omega⟩
  simp only [] at this
  rw [this]
  simp
set_option maxRecDepth 100000 in
set_option maxHeartbeats 800000 in
theorem vput_told (l : List UInt8) (n : Int) (hl : l.length ≤ 1000000000) (h1 : -9223372036854775808 ≤ n) (h2 : n ≤ 9223372036854775807) : ToldM Tryz.prog 150 [.row 1000000 l.length, .c (.v (.int .i64 n))] [bB l] [some (bB (l ++ vput n))] (.row 1000000 (l ++ vput n).length) := by
  unfold bB
  have hz := zig_told n h1 h2
  have hzl := zig_lt n h1 h2
  have hvl := vput_len n h1 h2
  unfold vput at hvl ⊢
  generalize zigN n = u at hz hzl hvl
  refine VC.toldM ent_150 [] Tryz.func150 rfl Tryz.ntmps150 (by simp) (by simp only [ bA_len, bA_sc, ScM, zOk, inL, eq_self, used_is, sc_any, sc_c, sc_pp, sc_ref, sc_row, sc_agg, sc_tup, sc_fn, ScL, some_imp, List.forall_mem_map, Nat.le_refl, go_sem, simprocAttr]) (by simp only [ bA_len, bA_sc, ScM, zOk, inL, eq_self, used_is, sc_any, sc_c, sc_pp, sc_ref, sc_row, sc_agg, sc_tup, sc_fn, ScL, some_imp, List.forall_mem_map, Nat.le_refl, go_sem, simprocAttr]) (by simp only [ bA_len, bA_sc, ScM, zOk, inL, eq_self, used_is, sc_any, sc_c, sc_pp, sc_ref, sc_row, sc_agg, sc_tup, sc_fn, ScL, some_imp, List.forall_mem_map, Nat.le_refl, go_sem, simprocAttr]) (by simp only [ bA_len, bA_sc, ScM, zOk, inL, eq_self, used_is, sc_any, sc_c, sc_pp, sc_ref, sc_row, sc_agg, sc_tup, sc_fn, ScL, some_imp, List.forall_mem_map, Nat.le_refl, go_sem, simprocAttr]) (by simp) fun hb hbL => ?_
  clear hb hbL
  refine walkGF (@bA_len) ?_
  refine walkC (hz) ?_
  refine walkGF (@bA_len) ?_
  refine VC.loop (ι := {q : Nat × List UInt8 // q.1 < 18446744073709551616 ∧ q.2.length ≤ l.length + 10 ∧ q.2 ++ vint q.1 = l ++ vint u}) (fun q => [(0, .row 1000000 q.1.2.length), (5, .c (.v (.int .u64 (q.1.1 : Int))))])
    (fun q => [(1000000, ⟨true, 5, 1, bA q.1.2⟩)]) 400 (fun q => q.1.1) ⟨(u, l), hzl, by simp only []; omega, rfl⟩ ?_ ?_
  · simp only [bA_len, bA_sc, Weak, eq_self, used_is, sc_any, sc_c, sc_pp, sc_ref, sc_row, sc_agg, sc_fn, ScL, some_imp, List.forall_mem_map, go_sem, Int.reduceBEq, Int.reduceLE, Int.reduceLT, Int.reduceNeg, Nat.reduceAdd, Nat.reduceEqDiff, Nat.reduceLT, Nat.reduceLeDiff, Nat.reduceMul, Nat.reduceSub, reduceCtorEq, ↓reduceIte]
    exact Nat.le_refl _
  rintro ⟨⟨w, m⟩, hw, hml, hq⟩
  simp only [] at hw hml hq ⊢
  refine walkGF (@bA_len) ?_
  refine VC.cond (by rfl) (by trivial) (fun hc => ?_) (fun hc => ?_)
  · have hge : ¬ w < 128 := by simp at hc; omega
    rw [vint_ge hge] at hq
    have hor : IntKind.u8.wrap ((BitVec.ofInt IntKind.u8.bits (IntKind.u8.wrap (w : Int)) ||| BitVec.ofInt IntKind.u8.bits 128).toNat : Int) = (((w % 128 + 128).toUInt8).toNat : Int) := or128 w
    obtain ⟨r, hr⟩ : ∃ r, r = m ++ [(w % 128 + 128).toUInt8] := ⟨_, rfl⟩
    have hbo : bA m ++ [[AV.c (.v (.int .u8 (((w % 128 + 128).toUInt8).toNat : Int)))]] = bA r := by rw [hr]; exact bA_one m _
    have hle : m.length + 1 = r.length := by rw [hr]; simp
    have hrl : r.length ≤ l.length + 10 := by
      have := congrArg List.length hq
      simp at this
      omega
    have hq7 : (w : Int).fdiv (2 ^ min (Int.toNat 7) 64) = ((w / 128 : Nat) : Int) := by
      rw [show (2 : Int) ^ min (Int.toNat 7) 64 = 128 from rfl, Int.fdiv_eq_ediv_of_nonneg _ (by decide)]
      omega
    (try simp only [go_sem, Int.reduceBEq, Int.reduceLE, Int.reduceLT, Int.reduceNeg, Nat.reduceAdd, Nat.reduceEqDiff, Nat.reduceLT, Nat.reduceLeDiff, Nat.reduceMul, Nat.reduceSub, reduceCtorEq, ↓reduceIte] at hor)
    refine walkGF (And.intro @bA_len (And.intro hor (And.intro hbo (And.intro hle hq7)))) ?_
    refine .next ⟨(w / 128, r), by simp only []; omega, hrl, by simp only []; rw [hr, List.append_assoc]; exact hq⟩ ?_ (by simp only []; omega)
    simp only [bA_len, bA_sc, Weak, eq_self, used_is, sc_any, sc_c, sc_pp, sc_ref, sc_row, sc_agg, sc_fn, ScL, some_imp, List.forall_mem_map, go_sem, Int.reduceBEq, Int.reduceLE, Int.reduceLT, Int.reduceNeg, Nat.reduceAdd, Nat.reduceEqDiff, Nat.reduceLT, Nat.reduceLeDiff, Nat.reduceMul, Nat.reduceSub, reduceCtorEq, ↓reduceIte]
    exact Nat.le_refl _
  · have hlt : w < 128 := by simp at hc; omega
    rw [vint_lt hlt] at hq
    have hw8 : IntKind.u8.wrap (w : Int) = ((w.toUInt8).toNat : Int) := by
      rw [IntKind.wrap_u8]
      simp
    have hbo : bA m ++ [[AV.c (.v (.int .u8 ((w.toUInt8).toNat : Int)))]] = bA (l ++ vint u) := by rw [← hq]; exact bA_one m _
    have hle : m.length + 1 = (l ++ vint u).length := by rw [← hq]; simp
    refine walkGF (And.intro @bA_len (And.intro hw8 (And.intro hbo hle))) ?_
    refine ⟨by first | exact .inr rfl | exact .inl rfl, ?_⟩; rw [Tryz.results150]; simp only [bA_ren, bA_len, resOk, resV, go_sem, simprocAttr]
    exact .keepW rfl
set_option maxRecDepth 100000 in
set_option maxHeartbeats 800000 in
theorem pbytes_told (l x : List UInt8) (hl : l.length ≤ 100000000) (hx : x.length ≤ 100000000) : ToldM Tryz.prog 152 [.row 1000000 l.length, .c (.sl 1 (bytePV x))] [bB l] [some (bB (l ++ (vput (x.length : Int) ++ x)))] (.row 1000000 (l ++ (vput (x.length : Int) ++ x)).length) := by
  have hV := vput_told l (x.length : Int) (by omega) (by omega) (by omega)
  have hvl := vput_len (x.length : Int) (by omega) (by omega)
  have hxl : (bytePV x).length = x.length := by simp [bytePV]
  obtain ⟨m, hm⟩ : ∃ m, m = l ++ vput (x.length : Int) := ⟨_, rfl⟩
  have hml : m.length ≤ l.length + 10 := by rw [hm]; simp; omega
  have hfin : l ++ (vput (x.length : Int) ++ x) = m ++ x := by rw [hm, List.append_assoc]
  rw [← hm] at hV
  rw [hfin]
  obtain ⟨q, hq⟩ : ∃ q, q = m ++ x := ⟨_, rfl⟩
  have hbo : bA m ++ (bytePV x).map (fun e => e.map AV.c) = bA q := by rw [hq, ← bA_app]; congr 1; exact (bA_pv x).symm
  have hle : m.length + x.length = q.length := by rw [hq]; simp
  rw [← hq]
  unfold bB at hV ⊢
  refine VC.toldM ent_152 [] Tryz.func152 rfl Tryz.ntmps152 (by simp) (by simp only [ bA_len, bA_sc, ScM, zOk, inL, eq_self, used_is, sc_any, sc_c, sc_pp, sc_ref, sc_row, sc_agg, sc_tup, sc_fn, ScL, some_imp, List.forall_mem_map, Nat.le_refl, go_sem, simprocAttr]) (by simp only [ bA_len, bA_sc, ScM, zOk, inL, eq_self, used_is, sc_any, sc_c, sc_pp, sc_ref, sc_row, sc_agg, sc_tup, sc_fn, ScL, some_imp, List.forall_mem_map, Nat.le_refl, go_sem, simprocAttr]) (by simp only [ bA_len, bA_sc, ScM, zOk, inL, eq_self, used_is, sc_any, sc_c, sc_pp, sc_ref, sc_row, sc_agg, sc_tup, sc_fn, ScL, some_imp, List.forall_mem_map, Nat.le_refl, go_sem, simprocAttr]) (by simp only [ bA_len, bA_sc, ScM, zOk, inL, eq_self, used_is, sc_any, sc_c, sc_pp, sc_ref, sc_row, sc_agg, sc_tup, sc_fn, ScL, some_imp, List.forall_mem_map, Nat.le_refl, go_sem, simprocAttr]) (by simp) fun hb hbL => ?_
  clear hb hbL
  refine walkGF (And.intro @bA_len hxl) ?_
  ((refine AO.step fun K hK => ?_; simp only [go_sem, Int.reduceBEq, Int.reduceLE, Int.reduceLT, Int.reduceNeg, Nat.reduceAdd, Nat.reduceEqDiff, Nat.reduceLT, Nat.reduceLeDiff, Nat.reduceMul, Nat.reduceSub, reduceCtorEq, ↓reduceIte, bA_len, bA_ren]; (first | refine gsel_go ?_ | skip)); refine .inr (.inr (.inl ⟨?vy1, [1000000], ?va1, ?vl1, ?vm1, ?cond1, ?cont1⟩)); (case cond1 => ((repeat' apply And.intro) <;> (try ((with_reducible show ToldM _ _ _ _ _ _); exact hV))); (all_goals first | trivial | (simp only [bA_len, bA_ren, go_sem, simprocAttr]; done) | (simp; done) | rfl)); (first | refine hK _ _ _ ?_ | (simp only [bA_len, bA_ren, go_sem, simprocAttr]; first | refine hK _ _ _ ?_ | refine ⟨rfl, hK _ _ _ ?_⟩)); clear hK K)
  refine walkGF (And.intro @bA_len (And.intro @bA_ren (And.intro hxl (And.intro hbo hle)))) ?_
  refine ⟨by first | exact .inr rfl | exact .inl rfl, ?_⟩; rw [Tryz.results152]; simp only [bA_ren, bA_len, resOk, resV, go_sem, simprocAttr]
  exact .keepW rfl
def bitsB (b : Int) : Nat → List UInt8
  | 0 => []
  | n + 1 => bitsB b n ++ [(b.toNat / 256 ^ n).toUInt8]
theorem bitsB_len (b : Int) : ∀ n, (bitsB b n).length = n
  | 0 => rfl
  | n + 1 => by rw [bitsB, List.length_append, bitsB_len b n]; rfl
set_option maxRecDepth 100000 in
set_option maxHeartbeats 800000 in
theorem pbits_told (l : List UInt8) (b : Int) (k : Nat) (hl : l.length ≤ 1000000000) (h1 : 0 ≤ b) (h2 : b < 18446744073709551616) (hk : k ≤ 8) : ToldM Tryz.prog 151 [.row 1000000 l.length, .c (.v (.int .u64 b)), .c (.v (.int .i64 (k : Int)))] [bB l] [some (bB (l ++ bitsB b k))] (.row 1000000 (l ++ bitsB b k).length) := by
  unfold bB
  refine VC.toldM ent_151 [] Tryz.func151 rfl Tryz.ntmps151 (by simp) (by simp only [ bA_len, bA_sc, ScM, zOk, inL, eq_self, used_is, sc_any, sc_c, sc_pp, sc_ref, sc_row, sc_agg, sc_tup, sc_fn, ScL, some_imp, List.forall_mem_map, Nat.le_refl, go_sem, simprocAttr]) (by simp only [ bA_len, bA_sc, ScM, zOk, inL, eq_self, used_is, sc_any, sc_c, sc_pp, sc_ref, sc_row, sc_agg, sc_tup, sc_fn, ScL, some_imp, List.forall_mem_map, Nat.le_refl, go_sem, simprocAttr]) (by simp only [ bA_len, bA_sc, ScM, zOk, inL, eq_self, used_is, sc_any, sc_c, sc_pp, sc_ref, sc_row, sc_agg, sc_tup, sc_fn, ScL, some_imp, List.forall_mem_map, Nat.le_refl, go_sem, simprocAttr]) (by simp only [ bA_len, bA_sc, ScM, zOk, inL, eq_self, used_is, sc_any, sc_c, sc_pp, sc_ref, sc_row, sc_agg, sc_tup, sc_fn, ScL, some_imp, List.forall_mem_map, Nat.le_refl, go_sem, simprocAttr]) (by simp) fun hb hbL => ?_
  clear hb hbL
  have hmx : min (max (k : Int) 0) 8 = (k : Int) := by omega
  refine walkGF (And.intro @bA_len hmx) ?_
  refine VC.loop (ι := {i : Nat // i ≤ k}) (fun q => [(0, .row 1000000 (l ++ bitsB b q.1).length), (1, .c (.v (.int .u64 b))), (10, .c (.v (.int .i64 (k : Int)))), (11, .c (.v (.int .i64 (q.1 : Int))))])
    (fun q => [(1000000, ⟨true, 5, 1, bA (l ++ bitsB b q.1)⟩)]) 400 (fun q => k - q.1) ⟨0, Nat.zero_le _⟩ ?_ ?_
  · simp only [bA_len, bA_sc, bitsB, List.append_nil, Weak, eq_self, used_is, sc_any, sc_c, sc_pp, sc_ref, sc_row, sc_agg, sc_fn, ScL, some_imp, List.forall_mem_map, go_sem, Int.reduceBEq, Int.reduceLE, Int.reduceLT, Int.reduceNeg, Nat.reduceAdd, Nat.reduceEqDiff, Nat.reduceLT, Nat.reduceLeDiff, Nat.reduceMul, Nat.reduceSub, reduceCtorEq, ↓reduceIte]
    try simp
  rintro ⟨i, hi⟩
  simp only []
  have hbl := bitsB_len b i
  obtain ⟨m, hm⟩ : ∃ m, m = l ++ bitsB b i := ⟨_, rfl⟩
  have hml : m.length = l.length + i := by rw [hm]; simp [hbl]
  have hmn : l ++ bitsB b (i + 1) = m ++ [(b.toNat / 256 ^ i).toUInt8] := by rw [hm, bitsB, List.append_assoc]
  rw [← hm]
  refine walkGF (@bA_len) ?_
  refine VC.cond (by rfl) (by trivial) (fun hc => ?_) (fun hc => ?_)
  · have hlt : i < k := by simp at hc; omega
    have hw : IntKind.i64.wrap ((i : Int) + 1) = (i : Int) + 1 := wrap64_id (by omega) (by omega)
    have hw8 : IntKind.i64.wrap (8 * (i : Int)) = ((8 * i : Nat) : Int) := by rw [wrap64_id (by omega) (by omega)]; omega
    have hsh : b.fdiv (2 ^ min (IntKind.u64.wrap ((8 * i : Nat) : Int)).toNat 64) = ((b.toNat / 256 ^ i : Nat) : Int) := by
      rw [IntWalk.u64_in _ ⟨by omega, by omega⟩, Int.toNat_natCast, Nat.min_eq_left (by omega), Int.fdiv_eq_ediv_of_nonneg _ (by exact Int.le_of_lt (Int.pow_pos (by decide)))]
      obtain ⟨c, rfl⟩ : ∃ c : Nat, b = (c : Int) := ⟨b.toNat, by omega⟩
      rw [show ((2 : Int) ^ (8 * i)) = ((256 ^ i : Nat) : Int) from by rw [Int.pow_mul]; simp, Int.toNat_natCast]
      rfl
    have hu8 : IntKind.u8.wrap ((b.toNat / 256 ^ i : Nat) : Int) = (((b.toNat / 256 ^ i).toUInt8).toNat : Int) := by
      rw [IntKind.wrap_u8]
      simp
    obtain ⟨r, hr⟩ : ∃ r, r = m ++ [(b.toNat / 256 ^ i).toUInt8] := ⟨_, rfl⟩
    have hbo : bA m ++ [[AV.c (.v (.int .u8 (((b.toNat / 256 ^ i).toUInt8).toNat : Int)))]] = bA r := by rw [hr]; exact bA_one m _
    have hle : m.length + 1 = r.length := by rw [hr]; simp
    rw [← hr] at hmn
    generalize b.toNat / 256 ^ i = z at hsh hu8 hbo
    refine walkGF (And.intro @bA_len (And.intro hw8 (And.intro hsh (And.intro hu8 (And.intro hbo (And.intro hle hw)))))) ?_
    refine .next ⟨i + 1, by omega⟩ ?_ (by simp only []; omega)
    simp only [bA_len, bA_sc, hmn, Weak, eq_self, used_is, sc_any, sc_c, sc_pp, sc_ref, sc_row, sc_agg, sc_fn, ScL, some_imp, List.forall_mem_map, go_sem, Int.reduceBEq, Int.reduceLE, Int.reduceLT, Int.reduceNeg, Nat.reduceAdd, Nat.reduceEqDiff, Nat.reduceLT, Nat.reduceLeDiff, Nat.reduceMul, Nat.reduceSub, reduceCtorEq, ↓reduceIte]
    exact ⟨cI (by omega), Nat.le_refl _⟩
  · have hie : i = k := by simp at hc; omega
    subst hie
    refine walkGF (@bA_len) ?_
    refine ⟨by first | exact .inr rfl | exact .inl rfl, ?_⟩; rw [Tryz.results151]; simp only [bA_ren, bA_len, hm, resOk, resV, go_sem, simprocAttr]
    exact .keepW rfl

def cutM (cuts : List Int) (c left : Nat) : Nat × Bool × Nat :=
  match cuts[c % cuts.length]? with
  | none => (left, false, c)
  | some n => (min left (n.natAbs % 9223372036854775808 % 4 + 1), decide (n < 0), c + 1)
def Enc := Nat → List UInt8 × Nat
def seqF : List Enc → Enc
  | [], c => ([], c)
  | f :: fs, c => ((f c).1 ++ (seqF fs (f c).2).1, (seqF fs (f c).2).2)
def headB (n : Nat) (sized : Bool) (len : Nat) : List UInt8 := if sized = true then vput (-(n : Int)) ++ vput (len : Int) else vput (n : Int)
def blkF (cuts : List Int) : Nat → List Enc → Enc
  | 0, _, c => (vput 0, c)
  | k + 1, [], c => (vput 0, c)
  | k + 1, f :: fs, c =>
    let q := cutM cuts c (fs.length + 1)
    let r := seqF ((f :: fs).take q.1) q.2.2
    let t := blkF cuts k ((f :: fs).drop q.1) r.2
    (headB q.1 q.2.1 r.1.length ++ (r.1 ++ t.1), t.2)
def keyF (y : List UInt8) (f : Enc) : Enc := fun c => ((vput (y.length : Int) ++ y) ++ (f c).1, (f c).2)
def leafM (nd : NT) (k n b : Int) (t : List UInt8) : List UInt8 :=
  if k = 2 then [if n = 0 then 0 else 1] else if k = 3 ∨ k = 4 ∨ k = 10 then vput n else if k = 5 then bitsB b 4 else if k = 6 then bitsB b 8
  else if k = 7 ∨ k = 8 then vput (t.length : Int) ++ t else if k = 14 then t else []
mutual
def encM (ns : List NT) (cuts : List Int) : Int → VT → Enc
  | a, .mk _ n b t xs ks => fun c => match ns[a.toNat]? with
    | none => ([], c)
    | some nd =>
      if nd.kind = 9 then seqF (encsM ns cuts (fun j => typeAt nd j) xs) c
      else if nd.kind = 11 then blkF cuts xs.length (encsM ns cuts (fun _ => nd.items) xs) c
      else if nd.kind = 12 then blkF cuts xs.length (List.zipWith keyF ks (encsM ns cuts (fun _ => nd.items) xs)) c
      else if nd.kind = 13 then (vput n ++ (seqF (encsM ns cuts (fun _ => branchAt nd n) xs) c).1, (seqF (encsM ns cuts (fun _ => branchAt nd n) xs) c).2)
      else (leafM nd nd.kind n b t, c)
def encsM (ns : List NT) (cuts : List Int) : (Nat → Int) → List VT → List Enc
  | _, [] => []
  | f, x :: xs => encM ns cuts (f 0) x :: encsM ns cuts (fun i => f (i + 1)) xs
end
theorem encs_at (ns : List NT) (cuts : List Int) : ∀ (xs : List VT) (f : Nat → Int) (i : Nat) (x : VT), xs[i]? = some x → (encsM ns cuts f xs)[i]? = some (encM ns cuts (f i) x)
  | [], f, i, x, h => by simp at h
  | y :: ys, f, 0, x, h => by
    obtain rfl := Option.some.inj h
    rw [encsM]
    rfl
  | y :: ys, f, i + 1, x, h => by
    rw [encsM, List.getElem?_cons_succ]
    exact encs_at ns cuts ys (fun i => f (i + 1)) i x (by simpa using h)
theorem encs_len (ns : List NT) (cuts : List Int) : ∀ (xs : List VT) (f : Nat → Int), (encsM ns cuts f xs).length = xs.length
  | [], f => by rw [encsM]; rfl
  | y :: ys, f => by rw [encsM, List.length_cons, encs_len ns cuts ys]; rfl
theorem cutM_pos (cuts : List Int) (c left : Nat) (h : 0 < left) : 0 < (cutM cuts c left).1 ∧ (cutM cuts c left).1 ≤ left ∧ c ≤ (cutM cuts c left).2.2 := by
  unfold cutM
  split
  · exact ⟨h, Nat.le_refl _, Nat.le_refl _⟩
  · exact ⟨by simp only []; omega, by simp only []; omega, by simp only []; omega⟩
def Up (f : Enc) : Prop := ∀ c, c ≤ (f c).2
theorem seqF_up : ∀ fs : List Enc, (∀ f ∈ fs, Up f) → Up (seqF fs)
  | [], _, c => Nat.le_refl _
  | f :: fs, h, c => by
    rw [seqF]
    exact Nat.le_trans (h f (by simp) c) (seqF_up fs (fun g hg => h g (by simp [hg])) _)
theorem blkF_up (cuts : List Int) : ∀ (k : Nat) (fs : List Enc), (∀ f ∈ fs, Up f) → Up (blkF cuts k fs)
  | 0, _, _, c => Nat.le_refl _
  | k + 1, [], _, c => Nat.le_refl _
  | k + 1, f :: fs, h, c => by
    rw [blkF]
    simp only []
    have h1 := (cutM_pos cuts c (fs.length + 1) (by omega)).2.2
    have h2 := seqF_up ((f :: fs).take (cutM cuts c (fs.length + 1)).1) (fun g hg => h g (List.mem_of_mem_take hg)) (cutM cuts c (fs.length + 1)).2.2
    have h3 := blkF_up cuts k ((f :: fs).drop (cutM cuts c (fs.length + 1)).1) (fun g hg => h g (List.mem_of_mem_drop hg)) (seqF ((f :: fs).take (cutM cuts c (fs.length + 1)).1) (cutM cuts c (fs.length + 1)).2.2).2
    omega
mutual
theorem encM_up (ns : List NT) (cuts : List Int) : ∀ (v : VT) (a : Int), Up (encM ns cuts a v)
  | .mk k n b t xs ks, a, c => by
    have h := encsM_up ns cuts xs
    rw [encM]
    split
    · exact Nat.le_refl _
    · split
      · exact seqF_up _ (h _) c
      · split
        · exact blkF_up cuts _ _ (h _) c
        · split
          · refine blkF_up cuts _ _ (fun f hf => ?_) c
            obtain ⟨i, hi⟩ := List.getElem?_of_mem hf
            rw [List.getElem?_zipWith] at hi
            split at hi
            · obtain rfl := Option.some.inj hi
              rename_i y g hy hg
              exact fun c => h _ g (List.mem_of_getElem? hg) c
            · simp at hi
          · split
            · exact seqF_up _ (h _) c
            · exact Nat.le_refl _
theorem encsM_up (ns : List NT) (cuts : List Int) : ∀ (xs : List VT) (f : Nat → Int), ∀ e ∈ encsM ns cuts f xs, Up e
  | [], f => by rw [encsM]; simp
  | x :: xs, f => by
    rw [encsM]
    intro e he
    rcases List.mem_cons.1 he with rfl | he
    · exact encM_up ns cuts x _
    · exact encsM_up ns cuts xs _ e he
end

def Rd (α : Type) := List UInt8 → Nat → Except Int (α × Nat)
def rret {α : Type} (x : α) : Rd α := fun _ p => .ok (x, p)
def rbad {α : Type} (e : Int) : Rd α := fun _ _ => .error e
def rbind {α β : Type} (f : Rd α) (g : α → Rd β) : Rd β := fun B p => match f B p with
  | .error e => .error e
  | .ok (x, q) => g x B q
theorem rbind_ok {α β : Type} {f : Rd α} {g : α → Rd β} {B : List UInt8} {p q : Nat} {x : α} (h : f B p = .ok (x, q)) : rbind f g B p = g x B q := by unfold rbind; rw [h]
theorem rbind_bad {α β : Type} {f : Rd α} {g : α → Rd β} {B : List UInt8} {p : Nat} {e : Int} (h : f B p = .error e) : rbind f g B p = .error e := by unfold rbind; rw [h]
theorem rbind_inv {α β : Type} {f : Rd α} {g : α → Rd β} {B : List UInt8} {p : Nat} {R : β × Nat} (h : rbind f g B p = .ok R) : ∃ x q, f B p = .ok (x, q) ∧ g x B q = .ok R := by
  unfold rbind at h
  split at h
  · simp at h
  · rename_i x q hq
    exact ⟨x, q, hq, h⟩
structure Fair {α : Type} (f : Rd α) : Prop where
  fwd : ∀ {B : List UInt8} {p q : Nat} {v : α}, p ≤ B.length → f B p = .ok (v, q) → p ≤ q ∧ q ≤ B.length
  ers : ∀ {B : List UInt8} {p : Nat} {e : Int}, f B p = .error e → e ≠ 0
  more : ∀ {B : List UInt8} (T : List UInt8) {p : Nat}, p ≤ B.length → f B p ≠ .error 10 → f (B ++ T) p = f B p
theorem fair_ret {α : Type} (x : α) : Fair (rret x) :=
  ⟨fun hp h => by unfold rret at h; injection h with h; injection h with _ h; omega, fun h => by simp [rret] at h, fun _ _ _ _ => rfl⟩
theorem fair_bad {α : Type} {e : Int} (he : e ≠ 0) : Fair (rbad (α := α) e) :=
  ⟨fun hp h => by simp [rbad] at h, fun h => by unfold rbad at h; injection h with h; exact h ▸ he, fun _ _ _ _ => rfl⟩
theorem fair_bind {α β : Type} {f : Rd α} {g : α → Rd β} (hf : Fair f) (hg : ∀ x, Fair (g x)) : Fair (rbind f g) := by
  refine ⟨fun {B p q v} hp h => ?_, fun {B p e} h => ?_, fun {B} T {p} hp h => ?_⟩
  · obtain ⟨x, r, h1, h2⟩ := rbind_inv h
    have h3 := hf.fwd hp h1
    have h4 := (hg x).fwd h3.2 h2
    omega
  · cases h1 : f B p with
    | error d =>
      rw [rbind_bad h1] at h
      injection h with h
      exact h ▸ hf.ers h1
    | ok r =>
      rw [rbind_ok (x := r.1) (q := r.2) h1] at h
      exact (hg _).ers h
  · cases h1 : f B p with
    | error d =>
      rw [rbind_bad h1] at h ⊢
      exact rbind_bad ((hf.more T hp (by rw [h1]; intro e; injection e with e; exact h (by rw [e]))).trans h1)
    | ok r =>
      rw [rbind_ok (x := r.1) (q := r.2) h1] at h ⊢
      have h2 := hf.more T hp (by rw [h1]; simp)
      rw [rbind_ok (x := r.1) (q := r.2) (h2.trans h1)]
      exact (hg _).more T (hf.fwd hp h1).2 h
def Back {α : Type} (f : Rd α) (l : List UInt8) (v : α) : Prop := ∀ A T : List UInt8, f (A ++ (l ++ T)) A.length = .ok (v, A.length + l.length)
theorem back_ret {α : Type} (x : α) : Back (rret x) [] x := fun A T => rfl
theorem back_bind {α β : Type} {f : Rd α} {g : α → Rd β} {l m : List UInt8} {x : α} {w : β} (hf : Back f l x) (hg : Back (g x) m w) : Back (rbind f g) (l ++ m) w := by
  intro A T
  have h1 := hf A (m ++ T)
  rw [← List.append_assoc l] at h1
  rw [rbind_ok h1]
  have h2 := hg (A ++ l) T
  rw [List.length_append] at h2
  rw [show A ++ (l ++ m ++ T) = A ++ l ++ (m ++ T) from by simp, h2, List.length_append, Nat.add_assoc]
theorem back_last {α β : Type} {f : Rd α} {x : α} {l : List UInt8} {g : α → Rd β} {w : β} (hf : Back f l x) (hg : g x = rret w) : Back (rbind f g) l w := by
  have := back_bind (g := g) hf (m := []) (w := w) (by rw [hg]; exact back_ret w)
  rwa [List.append_nil] at this
def rnext (n : Nat) : Rd (List UInt8) := fun B p => if n ≤ B.length - p then .ok ((B.drop p).take n, p + n) else .error 10
theorem fair_next (n : Nat) : Fair (rnext n) := by
  refine ⟨fun {B p q v} hp h => ?_, fun {B p e} h => ?_, fun {B} T {p} hp h => ?_⟩
  · unfold rnext at h
    split at h
    · injection h with h; injection h with _ h; omega
    · simp at h
  · unfold rnext at h
    split at h
    · simp at h
    · injection h with h; subst h; decide
  · unfold rnext at h ⊢
    split at h
    · rename_i h1
      rw [if_pos h1, if_pos (by rw [List.length_append]; omega), List.drop_append_of_le_length hp, List.take_append_of_le_length (by rw [List.length_drop]; exact h1)]
    · exact absurd rfl h
theorem back_next (l : List UInt8) : Back (rnext l.length) l l := by
  intro A T
  unfold rnext
  rw [if_pos (by simp), List.drop_left, List.take_left]
def vtk (most last : Nat) : List UInt8 → Nat → Nat → Except Int (Nat × Nat)
  | [], _, _ => .error 10
  | c :: cs, n, u =>
    if n + 1 = most ∧ last < c.toNat then .error 11 else if c.toNat = 0 ∧ 0 < n then .error 11
    else if c.toNat < 128 then .ok (u + c.toNat % 128 * 128 ^ n, n + 1) else vtk most last cs (n + 1) (u + c.toNat % 128 * 128 ^ n)
def zagN (u : Nat) : Int := if u % 2 = 0 then ((u / 2 : Nat) : Int) else -((u / 2 : Nat) : Int) - 1
def rvar (most last : Nat) : Rd Int := fun B p => match vtk most last (B.drop p) 0 0 with
  | .error e => .error e
  | .ok (u, n) => .ok (zagN u, p + n)
def rlong : Rd Int := rvar 10 1
def rint : Rd Int := rvar 5 15
theorem vtk_fwd (most last : Nat) : ∀ (l : List UInt8) (n u v k : Nat), vtk most last l n u = .ok (v, k) → n < k ∧ k ≤ n + l.length
  | [], n, u, v, k, h => by simp [vtk] at h
  | c :: cs, n, u, v, k, h => by
    rw [vtk] at h
    split at h
    · simp at h
    split at h
    · simp at h
    split at h
    · injection h with h; injection h with _ h; rw [List.length_cons]; omega
    · have := vtk_fwd most last cs _ _ v k h
      rw [List.length_cons]; omega
theorem vtk_ers (most last : Nat) : ∀ (l : List UInt8) (n u : Nat) (e : Int), vtk most last l n u = .error e → e ≠ 0
  | [], n, u, e, h => by rw [vtk] at h; injection h with h; subst h; decide
  | c :: cs, n, u, e, h => by
    rw [vtk] at h
    split at h
    · injection h with h; subst h; decide
    split at h
    · injection h with h; subst h; decide
    split at h
    · simp at h
    · exact vtk_ers most last cs _ _ e h
theorem vtk_more (most last : Nat) (T : List UInt8) : ∀ (l : List UInt8) (n u : Nat), vtk most last l n u ≠ .error 10 → vtk most last (l ++ T) n u = vtk most last l n u
  | [], n, u, h => absurd rfl h
  | c :: cs, n, u, h => by
    rw [List.cons_append, vtk, vtk]
    rw [vtk] at h
    split
    · rfl
    split
    · rfl
    split
    · rfl
    · rename_i h1 h2 h3
      rw [if_neg h1, if_neg h2, if_neg h3] at h
      exact vtk_more most last T cs _ _ h
theorem fair_var (most last : Nat) : Fair (rvar most last) := by
  refine ⟨fun {B p q v} hp h => ?_, fun {B p e} h => ?_, fun {B} T {p} hp h => ?_⟩
  · unfold rvar at h
    split at h
    · simp at h
    · rename_i u n hn
      injection h with h; injection h with _ h
      have := vtk_fwd _ _ _ _ _ _ _ hn
      rw [List.length_drop] at this
      omega
  · unfold rvar at h
    split at h
    · rename_i d hd
      injection h with h
      exact h ▸ vtk_ers _ _ _ _ _ _ hd
    · simp at h
  · have h1 : vtk most last (B.drop p) 0 0 ≠ .error 10 := fun h2 => h (by unfold rvar; rw [h2])
    unfold rvar
    rw [List.drop_append_of_le_length hp, vtk_more most last T _ _ _ h1]
theorem vtk_vint (most last : Nat) (hl : last < 128) (T : List UInt8) : ∀ (k w : Nat), w ≤ k → ∀ (n u : Nat), n < most → w * 128 ^ n < (last + 1) * 128 ^ (most - 1) → (0 < n → 0 < w) → vtk most last (vint w ++ T) n u = .ok (u + w * 128 ^ n, n + (vint w).length) := by
  intro k
  induction k with
  | zero =>
    intro w hw n u hn hb h0
    obtain rfl : w = 0 := by omega
    have hn0 : n = 0 := by
      rcases Nat.eq_zero_or_pos n with h | h
      · exact h
      · have := h0 h; omega
    subst hn0
    rw [vint_lt (by decide)]
    simp [vtk]
  | succ k ih =>
    intro w hw n u hn hb h0
    have hpow : 0 < 128 ^ n := Nat.pos_of_ne_zero (by simp)
    have hlast : n + 1 = most → w ≤ last := fun h => by
      subst h
      rw [Nat.add_sub_cancel] at hb
      have := Nat.lt_of_mul_lt_mul_right hb
      omega
    by_cases h1 : w < 128
    · have e : (w.toUInt8).toNat = w := by simp; omega
      rw [vint_lt h1]
      simp only [List.cons_append, List.nil_append, vtk, e, List.length_singleton]
      rw [if_neg (fun h => by have := hlast h.1; omega), if_neg (fun h => by have := h0 h.2; omega), if_pos h1, Nat.mod_eq_of_lt h1]
    · have e : ((w % 128 + 128).toUInt8).toNat = w % 128 + 128 := by simp; omega
      rw [vint_ge h1]
      simp only [List.cons_append, vtk, e, List.length_cons]
      rw [if_neg (fun h => by have := hlast h.1; omega), if_neg (fun h => by omega), if_neg (by omega)]
      have hd : w / 128 * 128 ^ (n + 1) ≤ w * 128 ^ n := by
        rw [Nat.pow_succ, Nat.mul_comm (128 ^ n), ← Nat.mul_assoc]
        exact Nat.mul_le_mul_right _ (Nat.div_mul_le_self w 128)
      rw [ih (w / 128) (by omega) (n + 1) _ (by
        rcases Nat.lt_or_ge (n + 1) most with h | h
        · exact h
        · have := hlast (by omega); omega) (Nat.lt_of_le_of_lt hd hb) (fun _ => by omega)]
      congr 2
      · rw [show (w % 128 + 128) % 128 = w % 128 from by omega, Nat.pow_succ, Nat.mul_comm (128 ^ n) 128, ← Nat.mul_assoc, Nat.add_assoc, ← Nat.add_mul]
        congr 2
        omega
      · omega
theorem zag_zig (n : Int) : zagN (zigN n) = n := by
  unfold zagN zigN
  split <;> split <;> omega
theorem back_var (most last : Nat) (hm : 0 < most) (hl : last < 128) (n : Int) (hn : zigN n < (last + 1) * 128 ^ (most - 1)) : Back (rvar most last) (vput n) n := by
  intro A T
  unfold rvar vput
  rw [List.drop_left, vtk_vint most last hl T _ _ (Nat.le_refl _) 0 0 hm (by simpa using hn) (fun h => absurd h (by decide))]
  simp [zag_zig]
theorem back_long {n : Int} (h1 : -9223372036854775808 ≤ n) (h2 : n ≤ 9223372036854775807) : Back rlong (vput n) n :=
  back_var 10 1 (by decide) (by decide) n (zig_lt n h1 h2)
theorem back_int {n : Int} (h1 : -2147483648 ≤ n) (h2 : n ≤ 2147483647) : Back rint (vput n) n :=
  back_var 5 15 (by decide) (by decide) n (by unfold zigN; split <;> omega)
theorem vtk_ok (most last : Nat) (hl : last < 128) : ∀ (l : List UInt8) (n u v k : Nat), n < most → vtk most last l n u = .ok (v, k) → ∃ w, v = u + w * 128 ^ n ∧ k = n + (vint w).length ∧ w * 128 ^ n < (last + 1) * 128 ^ (most - 1) ∧ (0 < n → 0 < w)
  | [], n, u, v, k, hn, h => by simp [vtk] at h
  | c :: cs, n, u, v, k, hn, h => by
    rw [vtk] at h
    split at h
    · simp at h
    rename_i h1
    split at h
    · simp at h
    rename_i h2
    split at h
    · rename_i h3
      injection h with h
      injection h with h4 h5
      refine ⟨c.toNat, by rw [← h4, Nat.mod_eq_of_lt h3], by rw [vint_lt h3]; simp; omega, ?_, fun hn0 => ?_⟩
      · rcases Nat.lt_or_ge (n + 1) most with h | h
        · calc c.toNat * 128 ^ n < 128 * 128 ^ n := Nat.mul_lt_mul_of_pos_right h3 (Nat.pos_of_ne_zero (by simp))
            _ = 128 ^ (n + 1) := by rw [Nat.pow_succ, Nat.mul_comm]
            _ ≤ 128 ^ (most - 1) := Nat.pow_le_pow_right (by decide) (by omega)
            _ ≤ (last + 1) * 128 ^ (most - 1) := Nat.le_mul_of_pos_left _ (by omega)
        · obtain rfl : most = n + 1 := by omega
          rw [Nat.add_sub_cancel]
          refine Nat.mul_lt_mul_of_pos_right ?_ (Nat.pos_of_ne_zero (by simp))
          have : ¬ last < c.toNat := fun h => h1 ⟨rfl, h⟩
          omega
      · have : ¬ c.toNat = 0 := fun h => h2 ⟨h, hn0⟩
        omega
    · rename_i h3
      have hn1 : n + 1 < most := by
        have : ¬ (n + 1 = most) := fun h => h1 ⟨h, by omega⟩
        omega
      obtain ⟨w, e1, e2, e3, e4⟩ := vtk_ok most last hl cs (n + 1) _ v k hn1 h
      have hc := c.toNat_lt
      have hw := e4 (by omega)
      have hd : (w * 128 + c.toNat % 128) / 128 = w := by omega
      have hm : (w * 128 + c.toNat % 128) % 128 = c.toNat % 128 := by omega
      have he : (w * 128 + c.toNat % 128) * 128 ^ n = w * 128 ^ (n + 1) + c.toNat % 128 * 128 ^ n := by rw [Nat.add_mul, Nat.pow_succ, Nat.mul_assoc, Nat.mul_comm 128]
      refine ⟨w * 128 + c.toNat % 128, by rw [e1, he]; omega, ?_, ?_, fun _ => by omega⟩
      · rw [vint_ge (by omega), hd, e2, List.length_cons]; omega
      · rw [he]
        have h5 : w * 128 ^ (n + 1) + 128 ^ (n + 1) ≤ (last + 1) * 128 ^ (most - 1) := by
          obtain ⟨z, hz⟩ : ∃ z, most - 1 = n + 1 + z := ⟨most - 1 - (n + 1), by omega⟩
          rw [hz, show (128 : Nat) ^ (n + 1 + z) = 128 ^ z * 128 ^ (n + 1) from by rw [Nat.add_comm, Nat.pow_add], ← Nat.mul_assoc] at e3 ⊢
          have := Nat.lt_of_mul_lt_mul_right e3
          calc w * 128 ^ (n + 1) + 128 ^ (n + 1) = (w + 1) * 128 ^ (n + 1) := by rw [Nat.add_mul, Nat.one_mul]
            _ ≤ (last + 1) * 128 ^ z * 128 ^ (n + 1) := Nat.mul_le_mul_right _ this
        have h6 : c.toNat % 128 * 128 ^ n < 128 ^ (n + 1) := by
          rw [Nat.pow_succ, Nat.mul_comm]
          exact Nat.mul_lt_mul_of_pos_left (Nat.mod_lt _ (by decide)) (Nat.pos_of_ne_zero (by simp))
        omega
/-! The readers of leaves. -/
def unbits : List UInt8 → Nat
  | [] => 0
  | c :: cs => c.toNat + 256 * unbits cs
theorem unbits_snoc (l : List UInt8) (c : UInt8) : unbits (l ++ [c]) = unbits l + c.toNat * 256 ^ l.length := by
  induction l with
  | nil => simp [unbits]
  | cons x xs ih =>
    rw [List.cons_append, unbits, unbits, ih, List.length_cons, Nat.pow_succ, Nat.mul_add, Nat.add_assoc]
    congr 2
    rw [← Nat.mul_assoc, Nat.mul_comm 256, Nat.mul_assoc, Nat.mul_comm 256]
def rbits (k : Nat) : Rd Int := rbind (rnext k) fun l => rret ((unbits l : Nat) : Int)
def rbool : Rd Int := rbind (rnext 1) fun l => if 1 < unbits l then rbad 11 else rret ((unbits l : Nat) : Int)
def rbytes : Rd (List UInt8) := rbind rlong fun n => if n < 0 then rbad 11 else if 20000 < n then rbad 15 else rnext n.toNat
def rtext : Rd (List UInt8) := rbind rbytes fun l => if isRight l = true then rret l else rbad 11
def rplace (f : Rd Int) (many : Nat) : Rd Int := rbind f fun n => if n < 0 ∨ (many : Int) ≤ n then rbad 11 else rret n
def rcount (have' : Nat) : Rd Nat := rbind rlong fun n =>
  if n < 0 then rbind rlong fun _ => if (300 : Int) - have' < -n then rbad 15 else rret (-n).toNat
  else if (300 : Int) - have' < n then rbad 15 else rret n.toNat
theorem fair_long : Fair rlong := fair_var 10 1
theorem fair_int : Fair rint := fair_var 5 15
theorem fair_bits (k : Nat) : Fair (rbits k) := fair_bind (fair_next k) fun _ => fair_ret _
theorem fair_if {α : Type} {c : Prop} [Decidable c] {f g : Rd α} (hf : Fair f) (hg : Fair g) : Fair (if c then f else g) := by split <;> assumption
theorem fair_bool : Fair rbool := fair_bind (fair_next 1) fun _ => fair_if (fair_bad (by decide)) (fair_ret _)
theorem fair_bytes : Fair rbytes := fair_bind fair_long fun _ => fair_if (fair_bad (by decide)) (fair_if (fair_bad (by decide)) (fair_next _))
theorem fair_text : Fair rtext := fair_bind fair_bytes fun _ => fair_if (fair_ret _) (fair_bad (by decide))
theorem fair_place {f : Rd Int} (hf : Fair f) (many : Nat) : Fair (rplace f many) := fair_bind hf fun _ => fair_if (fair_bad (by decide)) (fair_ret _)
theorem fair_count (k : Nat) : Fair (rcount k) := fair_bind fair_long fun _ => fair_if (fair_bind fair_long fun _ => fair_if (fair_bad (by decide)) (fair_ret _)) (fair_if (fair_bad (by decide)) (fair_ret _))
/-! Values. -/
def rrow (item : Rd (List (List UInt8) × VT)) : Nat → List VT → List (List UInt8) → Rd (List VT × List (List UInt8))
  | 0, xs, ks => rret (xs, ks)
  | m + 1, xs, ks => rbind item fun q => rrow item m (xs ++ [q.2]) (ks ++ q.1)
def rblks (item : Rd (List (List UInt8) × VT)) : Nat → List VT → List (List UInt8) → Rd (List VT × List (List UInt8))
  | 0, _, _ => rbad 15
  | k + 1, xs, ks => rbind (rcount xs.length) fun m => if m = 0 then rret (xs, ks) else rbind (rrow item m xs ks) fun q => rblks item k q.1 q.2
def ritem (b : Bool) (f : Rd VT) : Rd (List (List UInt8) × VT) := if b = true then rbind rtext fun y => rbind f fun v => rret ([y], v) else rbind f fun v => rret ([], v)
def rfields (f : Int → Rd VT) : List FT → List VT → Rd (List VT)
  | [], xs => rret xs
  | t :: ts, xs => rbind (f t.type) fun v => rfields f ts (xs ++ [v])
def rleaf (nd : NT) : Rd VT :=
  if nd.kind = 2 then rbind rbool fun n => rret (.mk nd.kind n 0 [] [] [])
  else if nd.kind = 3 then rbind rint fun n => rret (.mk nd.kind n 0 [] [] [])
  else if nd.kind = 4 then rbind rlong fun n => rret (.mk nd.kind n 0 [] [] [])
  else if nd.kind = 5 then rbind (rbits 4) fun b => rret (.mk nd.kind 0 b [] [] [])
  else if nd.kind = 6 then rbind (rbits 8) fun b => rret (.mk nd.kind 0 b [] [] [])
  else if nd.kind = 7 then rbind rbytes fun l => rret (.mk nd.kind 0 0 l [] [])
  else if nd.kind = 8 then rbind rtext fun l => rret (.mk nd.kind 0 0 l [] [])
  else if nd.kind = 14 then rbind (rnext nd.size.toNat) fun l => rret (.mk nd.kind 0 0 l [] [])
  else if nd.kind = 10 then rbind (rplace rint nd.symbols.length) fun n => rret (.mk nd.kind n 0 [] [] [])
  else rret (.mk nd.kind 0 0 [] [] [])
def rcomp (nd : NT) (f : Int → Rd VT) : Rd VT :=
  if nd.kind = 9 then rbind (rfields f nd.fields []) fun xs => rret (.mk nd.kind 0 0 [] xs [])
  else if nd.kind = 13 then rbind (rplace rlong nd.branches.length) fun n => rbind (f (branchAt nd n)) fun v => rret (.mk nd.kind n 0 [] [v] [])
  else rbind (rblks (ritem (nd.kind == 12) (f nd.items)) 301 [] []) fun q => rret (.mk nd.kind 0 0 [] q.1 q.2)
def isComp (k : Int) : Bool := k == 9 || k == 11 || k == 12 || k == 13
def decM (ns : List NT) : Nat → Int → Rd VT
  | 0, a => match ns[a.toNat]? with | none => rbad 2 | some nd => if isComp nd.kind = true then rbad 15 else rleaf nd
  | d + 1, a => match ns[a.toNat]? with | none => rbad 2 | some nd => if isComp nd.kind = true then rcomp nd (decM ns d) else rleaf nd
theorem fair_row {item : Rd (List (List UInt8) × VT)} (h : Fair item) : ∀ (m : Nat) (xs : List VT) (ks : List (List UInt8)), Fair (rrow item m xs ks)
  | 0, xs, ks => fair_ret _
  | m + 1, xs, ks => fair_bind h fun _ => fair_row h m _ _
theorem fair_blks {item : Rd (List (List UInt8) × VT)} (h : Fair item) : ∀ (k : Nat) (xs : List VT) (ks : List (List UInt8)), Fair (rblks item k xs ks)
  | 0, xs, ks => fair_bad (by decide)
  | k + 1, xs, ks => fair_bind (fair_count _) fun _ => fair_if (fair_ret _) (fair_bind (fair_row h _ _ _) fun _ => fair_blks h k _ _)
theorem fair_item (b : Bool) {f : Rd VT} (h : Fair f) : Fair (ritem b f) := fair_if (fair_bind fair_text fun _ => fair_bind h fun _ => fair_ret _) (fair_bind h fun _ => fair_ret _)
theorem fair_fields {f : Int → Rd VT} (h : ∀ a, Fair (f a)) : ∀ (ts : List FT) (xs : List VT), Fair (rfields f ts xs)
  | [], xs => fair_ret _
  | t :: ts, xs => fair_bind (h _) fun _ => fair_fields h ts _
theorem fair_leaf (nd : NT) : Fair (rleaf nd) :=
  fair_if (fair_bind fair_bool fun _ => fair_ret _) (fair_if (fair_bind fair_int fun _ => fair_ret _) (fair_if (fair_bind fair_long fun _ => fair_ret _) (fair_if (fair_bind (fair_bits 4) fun _ => fair_ret _) (fair_if (fair_bind (fair_bits 8) fun _ => fair_ret _)
    (fair_if (fair_bind fair_bytes fun _ => fair_ret _) (fair_if (fair_bind fair_text fun _ => fair_ret _) (fair_if (fair_bind (fair_next _) fun _ => fair_ret _) (fair_if (fair_bind (fair_place fair_int _) fun _ => fair_ret _) (fair_ret _)))))))))
theorem fair_comp (nd : NT) {f : Int → Rd VT} (h : ∀ a, Fair (f a)) : Fair (rcomp nd f) :=
  fair_if (fair_bind (fair_fields h _ _) fun _ => fair_ret _) (fair_if (fair_bind (fair_place fair_long _) fun _ => fair_bind (h _) fun _ => fair_ret _) (fair_bind (fair_blks (fair_item _ (h _)) _ _ _) fun _ => fair_ret _))
theorem fair_dec (ns : List NT) : ∀ (d : Nat) (a : Int), Fair (decM ns d a)
  | 0, a => by
    rw [decM]
    split
    · exact fair_bad (by decide)
    · exact fair_if (fair_bad (by decide)) (fair_leaf _)
  | d + 1, a => by
    rw [decM]
    split
    · exact fair_bad (by decide)
    · exact fair_if (fair_comp _ (fair_dec ns d)) (fair_leaf _)
theorem decM_leaf {ns : List NT} {a : Int} {nd : NT} (h : ns[a.toNat]? = some nd) (hk : isComp nd.kind = false) (d : Nat) : decM ns d a = rleaf nd := by
  cases d <;> rw [decM, h] <;> simp [hk]
theorem decM_zero {ns : List NT} {a : Int} {nd : NT} (h : ns[a.toNat]? = some nd) (hk : isComp nd.kind = true) : decM ns 0 a = rbad 15 := by
  rw [decM, h]
  simp [hk]
theorem decM_succ {ns : List NT} {a : Int} {nd : NT} (h : ns[a.toNat]? = some nd) (hk : isComp nd.kind = true) (d : Nat) : decM ns (d + 1) a = rcomp nd (decM ns d) := by
  rw [decM, h]
  simp [hk]

theorem and1 (u : Nat) (h : u < 18446744073709551616) : (BitVec.ofInt 64 (u : Int) &&& 1#64).toNat = u % 2 := by
  rw [BitVec.ofInt_natCast, BitVec.toNat_and, BitVec.toNat_ofNat, Nat.mod_eq_of_lt h, show (1#64).toNat = 1 from rfl, Nat.and_one_is_mod]
theorem zag_bits (u : Nat) (h : u < 18446744073709551616) : IntKind.i64.wrap ((BitVec.ofInt 64 (IntKind.i64.wrap ((u : Int).fdiv (2 ^ min 1 64))) ^^^ BitVec.ofInt 64 (IntKind.i64.wrap (0 - IntKind.i64.wrap (IntKind.u64.wrap ((BitVec.ofInt 64 (u : Int) &&& 1#64).toNat : Int))))).toNat : Int) = zagN u := by
  have e1 : IntKind.i64.wrap ((u : Int).fdiv (2 ^ min 1 64)) = ((u / 2 : Nat) : Int) := by
    rw [show (2 : Int) ^ min 1 64 = 2 from rfl, Int.fdiv_eq_ediv_of_nonneg _ (by decide), wrap64_id (by omega) (by omega)]
    omega
  have e2 : IntKind.u64.wrap ((u % 2 : Nat) : Int) = ((u % 2 : Nat) : Int) := by rw [IntKind.wrap_u64]; omega
  have e3 : IntKind.i64.wrap ((u % 2 : Nat) : Int) = ((u % 2 : Nat) : Int) := wrap64_id (by omega) (by omega)
  have e4 : IntKind.i64.wrap (0 - ((u % 2 : Nat) : Int)) = -((u % 2 : Nat) : Int) := by rw [wrap64_id (by omega) (by omega)]; omega
  rw [e1, and1 u h, e2, e3, e4]
  unfold zagN
  by_cases hu : u % 2 = 0
  · rw [hu, if_pos rfl, show -((0 : Nat) : Int) = 0 from rfl, show BitVec.ofInt 64 0 = 0#64 from rfl, BitVec.xor_zero, BitVec.ofInt_natCast, BitVec.toNat_ofNat, wrap64_id (by omega) (by omega)]
    omega
  · rw [show u % 2 = 1 from by omega, if_neg (by decide), show BitVec.ofInt 64 (-((1 : Nat) : Int)) = BitVec.allOnes 64 from by decide, BitVec.xor_allOnes, BitVec.toNat_not, BitVec.ofInt_natCast, BitVec.toNat_ofNat, IntKind.wrap_i64]
    have h2 : u / 2 < 9223372036854775808 := by omega
    generalize u / 2 = w at h2
    omega
set_option maxRecDepth 100000 in
set_option maxHeartbeats 400000 in
theorem zag_told (u : Nat) (h : u < 18446744073709551616) : Told Tryz.prog 247 [.c (.v (.int .u64 (u : Int)))] (.c (.v (.int .i64 (zagN u)))) := by
  have hz := zag_bits u h
  refine VC.told ent_247 Tryz.func247 rfl Tryz.ntmps247 (by simp) (by first | rfl | simp [AV.pureB, AV.pureL, pureL_c, pures]) (by first | rfl | simp [AV.pureB, AV.pureL, pureL_c, pures]) fun hb => ?_
  clear hb
  refine walkG ?_
  refine ⟨by first | exact .inr rfl | exact .inl rfl, ?_⟩; rw [Tryz.results247]; simp only [resOk, resV, go_sem, simprocAttr]
  exact frz_c (congrArg (fun z => PV.v (.int .i64 z)) hz)
theorem and127 (c : UInt8) : IntKind.u64.wrap (IntKind.u8.wrap ((BitVec.ofInt 8 (c.toNat : Int) &&& 127#8).toNat : Int)) = ((c.toNat % 128 : Nat) : Int) := by
  have key : ∀ x : Fin 256, ((BitVec.ofNat 8 x.val &&& 127#8).toNat) = x.val % 128 := by decide +kernel
  have := key ⟨c.toNat, c.toNat_lt⟩
  simp only [] at this
  rw [BitVec.ofInt_natCast, this, IntKind.wrap_u8, IntKind.wrap_u64]
  omega
theorem or_shift {u x k : Nat} (hu : u < 2 ^ k) (ht : u + x * 2 ^ k < 18446744073709551616) : IntKind.u64.wrap ((BitVec.ofInt 64 (u : Int) ||| BitVec.ofInt 64 ((x * 2 ^ k : Nat) : Int)).toNat : Int) = ((u + x * 2 ^ k : Nat) : Int) := by
  rw [BitVec.ofInt_natCast, BitVec.ofInt_natCast, BitVec.toNat_or, BitVec.toNat_ofNat, BitVec.toNat_ofNat, Nat.mod_eq_of_lt (by omega), Nat.mod_eq_of_lt (by omega), Nat.or_comm, ← Nat.shiftLeft_eq, ← Nat.shiftLeft_add_eq_or_of_lt hu, IntKind.wrap_u64, Nat.shiftLeft_eq]
  omega
theorem pow7 (n : Nat) : 128 ^ n = 2 ^ (7 * n) := by rw [Nat.pow_mul]
def vB (u sh most last n : Nat) : Blkd := ⟨false, 276, 5, [[.c (.v (.int .u64 (u : Int))), .c (.v (.int .u64 (sh : Int))), .c (.v (.int .i64 (most : Int))), .c (.v (.int .u8 (last : Int))), .c (.v (.int .i64 (n : Int)))]]⟩
def Wrong (most last n : Nat) (c : UInt8) : Prop := (n + 1 = most ∧ last < c.toNat) ∨ (c.toNat = 0 ∧ 0 < n)
set_option maxRecDepth 100000 in
set_option maxHeartbeats 800000 in
theorem feed_told (most last n u : Nat) (c : UInt8) (hn : n < most) (hm : most ≤ 10) :
    (Wrong most last n c → ToldM Tryz.prog 270 [.ref 1000000 1 0 0, .c (.v (.int .u8 (c.toNat : Int)))] [vB u (7 * n) most last n] [some (vB u (7 * n) most last (n + 1))] (.tup [.c (.v (.bool false)), .c (.v (.int .i64 11))])) ∧
    (¬ Wrong most last n c → u < 128 ^ n → u + c.toNat % 128 * 128 ^ n < 18446744073709551616 →
      ToldM Tryz.prog 270 [.ref 1000000 1 0 0, .c (.v (.int .u8 (c.toNat : Int)))] [vB u (7 * n) most last n] [some (vB (u + c.toNat % 128 * 128 ^ n) (7 * (n + 1)) most last (n + 1))] (.tup [.c (.v (.bool (decide (c.toNat < 128)))), .c (.v (.int .i64 0))])) := by
  have hw : IntKind.i64.wrap ((n : Int) + 1) = ((n + 1 : Nat) : Int) := by rw [wrap64_id (by omega) (by omega)]; omega
  have e1 : (((n + 1 : Nat) : Int) == (most : Int)) = decide (n + 1 = most) := by
    rw [Bool.eq_iff_iff]
    simp
    omega
  have e2 : decide ((c.toNat : Int) > (last : Int)) = decide (last < c.toNat) := by simp
  have e3 : ((c.toNat : Int) == 0) = decide (c.toNat = 0) := by
    rw [Bool.eq_iff_iff]
    simp
  have e4 : decide (((n + 1 : Nat) : Int) > 1) = decide (0 < n) := by
    rw [Bool.eq_iff_iff]
    simp
    omega
  have e5 : decide ((c.toNat : Int) < 128) = decide (c.toNat < 128) := by
    rw [Bool.eq_iff_iff]
    simp
    omega
  unfold Wrong vB
  constructor
  · intro hA
    by_cases h1 : n + 1 = most ∧ last < c.toNat
    · rw [decide_eq_true h1.1] at e1
      rw [decide_eq_true h1.2] at e2
      refine VC.toldM ent_270 [] Tryz.func270 rfl Tryz.ntmps270 (by simp) (by simp only [ScM, zOk, inL, eq_self, used_is, sc_any, sc_c, sc_pp, sc_ref, sc_row, sc_agg, sc_tup, sc_fn, ScL, some_imp, List.forall_mem_map, Nat.le_refl, go_sem, simprocAttr]) (by simp only [ScM, zOk, inL, eq_self, used_is, sc_any, sc_c, sc_pp, sc_ref, sc_row, sc_agg, sc_tup, sc_fn, ScL, some_imp, List.forall_mem_map, Nat.le_refl, go_sem, simprocAttr]) (by simp only [ScM, zOk, inL, eq_self, used_is, sc_any, sc_c, sc_pp, sc_ref, sc_row, sc_agg, sc_tup, sc_fn, ScL, some_imp, List.forall_mem_map, Nat.le_refl, go_sem, simprocAttr]) (by simp only [ScM, zOk, inL, eq_self, used_is, sc_any, sc_c, sc_pp, sc_ref, sc_row, sc_agg, sc_tup, sc_fn, ScL, some_imp, List.forall_mem_map, Nat.le_refl, go_sem, simprocAttr]) (by simp) fun hb hbL => ?_
      clear hb hbL
      refine walkBF (And.intro hw (And.intro e1 e2)) ?_
      refine ⟨by first | exact .inr rfl | exact .inl rfl, ?_⟩; rw [Tryz.results270]; simp only [resOk, resV, go_sem, simprocAttr]
      exact ⟨.c _, .c _⟩
    · have h2 : c.toNat = 0 ∧ 0 < n := hA.resolve_left h1
      rw [decide_eq_true h2.1] at e3
      rw [decide_eq_true h2.2] at e4
      have h0 : ¬ last < c.toNat := by omega
      rw [decide_eq_false h0] at e2
      by_cases h3 : n + 1 = most
      · rw [decide_eq_true h3] at e1
        refine VC.toldM ent_270 [] Tryz.func270 rfl Tryz.ntmps270 (by simp) (by simp only [ScM, zOk, inL, eq_self, used_is, sc_any, sc_c, sc_pp, sc_ref, sc_row, sc_agg, sc_tup, sc_fn, ScL, some_imp, List.forall_mem_map, Nat.le_refl, go_sem, simprocAttr]) (by simp only [ScM, zOk, inL, eq_self, used_is, sc_any, sc_c, sc_pp, sc_ref, sc_row, sc_agg, sc_tup, sc_fn, ScL, some_imp, List.forall_mem_map, Nat.le_refl, go_sem, simprocAttr]) (by simp only [ScM, zOk, inL, eq_self, used_is, sc_any, sc_c, sc_pp, sc_ref, sc_row, sc_agg, sc_tup, sc_fn, ScL, some_imp, List.forall_mem_map, Nat.le_refl, go_sem, simprocAttr]) (by simp only [ScM, zOk, inL, eq_self, used_is, sc_any, sc_c, sc_pp, sc_ref, sc_row, sc_agg, sc_tup, sc_fn, ScL, some_imp, List.forall_mem_map, Nat.le_refl, go_sem, simprocAttr]) (by simp) fun hb hbL => ?_
        clear hb hbL
        refine walkBF (And.intro hw (And.intro e1 (And.intro e2 (And.intro e3 e4)))) ?_
        refine ⟨by first | exact .inr rfl | exact .inl rfl, ?_⟩; rw [Tryz.results270]; simp only [resOk, resV, go_sem, simprocAttr]
        exact ⟨.c _, .c _⟩
      · rw [decide_eq_false h3] at e1
        refine VC.toldM ent_270 [] Tryz.func270 rfl Tryz.ntmps270 (by simp) (by simp only [ScM, zOk, inL, eq_self, used_is, sc_any, sc_c, sc_pp, sc_ref, sc_row, sc_agg, sc_tup, sc_fn, ScL, some_imp, List.forall_mem_map, Nat.le_refl, go_sem, simprocAttr]) (by simp only [ScM, zOk, inL, eq_self, used_is, sc_any, sc_c, sc_pp, sc_ref, sc_row, sc_agg, sc_tup, sc_fn, ScL, some_imp, List.forall_mem_map, Nat.le_refl, go_sem, simprocAttr]) (by simp only [ScM, zOk, inL, eq_self, used_is, sc_any, sc_c, sc_pp, sc_ref, sc_row, sc_agg, sc_tup, sc_fn, ScL, some_imp, List.forall_mem_map, Nat.le_refl, go_sem, simprocAttr]) (by simp only [ScM, zOk, inL, eq_self, used_is, sc_any, sc_c, sc_pp, sc_ref, sc_row, sc_agg, sc_tup, sc_fn, ScL, some_imp, List.forall_mem_map, Nat.le_refl, go_sem, simprocAttr]) (by simp) fun hb hbL => ?_
        clear hb hbL
        refine walkBF (And.intro hw (And.intro e1 (And.intro e3 e4))) ?_
        refine ⟨by first | exact .inr rfl | exact .inl rfl, ?_⟩; rw [Tryz.results270]; simp only [resOk, resV, go_sem, simprocAttr]
        exact ⟨.c _, .c _⟩
  · intro hA hu ht
    have hc := c.toNat_lt
    have hmin : min (7 * n) 64 = 7 * n := by omega
    have hsh : IntKind.u64.wrap (((c.toNat % 128 : Nat) : Int) * 2 ^ (7 * n)) = ((c.toNat % 128 * 2 ^ (7 * n) : Nat) : Int) := by
      rw [pow7] at ht
      rw [IntKind.wrap_u64, show ((c.toNat % 128 : Nat) : Int) * 2 ^ (7 * n) = ((c.toNat % 128 * 2 ^ (7 * n) : Nat) : Int) from by simp]
      omega
    have ha := and127 c
    have ho : IntKind.u64.wrap ((BitVec.ofInt IntKind.u64.bits (u : Int) ||| BitVec.ofInt IntKind.u64.bits ((c.toNat % 128 * 2 ^ (7 * n) : Nat) : Int)).toNat : Int) = ((u + c.toNat % 128 * 128 ^ n : Nat) : Int) := by
      rw [pow7] at hu ht ⊢
      exact or_shift hu ht
    generalize u + c.toNat % 128 * 128 ^ n = U at ho ht ⊢
    have hs7 : IntKind.u64.wrap (((7 * n : Nat) : Int) + 7) = ((7 * (n + 1) : Nat) : Int) := by rw [IntKind.wrap_u64]; omega
    generalize 7 * (n + 1) = s8 at hs7 ⊢
    generalize 7 * n = s7 at hs7 hmin hsh ho ⊢
    have hs7' : ((s7 : Int)).toNat = s7 := Int.toNat_natCast _
    replace ha : IntKind.u64.wrap (IntKind.u8.wrap ((BitVec.ofInt IntKind.u8.bits (c.toNat : Int) &&& BitVec.ofInt IntKind.u8.bits 127).toNat : Int)) = ((c.toNat % 128 : Nat) : Int) := ha
    (try simp only [go_sem, Int.reduceBEq, Int.reduceLE, Int.reduceLT, Int.reduceNeg, Nat.reduceAdd, Nat.reduceEqDiff, Nat.reduceLT, Nat.reduceLeDiff, Nat.reduceMul, Nat.reduceSub, reduceCtorEq, ↓reduceIte] at ha)
    (try simp only [go_sem, Int.reduceBEq, Int.reduceLE, Int.reduceLT, Int.reduceNeg, Nat.reduceAdd, Nat.reduceEqDiff, Nat.reduceLT, Nat.reduceLeDiff, Nat.reduceMul, Nat.reduceSub, reduceCtorEq, ↓reduceIte] at ho)
    generalize decide (c.toNat < 128) = D at e5
    generalize hx : c.toNat % 128 * 2 ^ s7 = X at hsh ho
    clear hx
    by_cases h1 : n + 1 = most
    · rw [decide_eq_true h1] at e1
      rw [decide_eq_false (fun h => hA (.inl ⟨h1, h⟩))] at e2
      by_cases h2 : c.toNat = 0
      · rw [decide_eq_true h2] at e3
        rw [decide_eq_false (fun h => hA (.inr ⟨h2, h⟩))] at e4
        clear h2 h1 hA
        refine VC.toldM ent_270 [] Tryz.func270 rfl Tryz.ntmps270 (by simp) (by simp only [ScM, zOk, inL, eq_self, used_is, sc_any, sc_c, sc_pp, sc_ref, sc_row, sc_agg, sc_tup, sc_fn, ScL, some_imp, List.forall_mem_map, Nat.le_refl, go_sem, simprocAttr]) (by simp only [ScM, zOk, inL, eq_self, used_is, sc_any, sc_c, sc_pp, sc_ref, sc_row, sc_agg, sc_tup, sc_fn, ScL, some_imp, List.forall_mem_map, Nat.le_refl, go_sem, simprocAttr]) (by simp only [ScM, zOk, inL, eq_self, used_is, sc_any, sc_c, sc_pp, sc_ref, sc_row, sc_agg, sc_tup, sc_fn, ScL, some_imp, List.forall_mem_map, Nat.le_refl, go_sem, simprocAttr]) (by simp only [ScM, zOk, inL, eq_self, used_is, sc_any, sc_c, sc_pp, sc_ref, sc_row, sc_agg, sc_tup, sc_fn, ScL, some_imp, List.forall_mem_map, Nat.le_refl, go_sem, simprocAttr]) (by simp) fun hb hbL => ?_
        clear hb hbL
        refine walkBF (And.intro hw (And.intro e1 (And.intro e2 (And.intro e3 (And.intro e4 (And.intro e5 (And.intro hmin (And.intro hsh (And.intro ha (And.intro ho hs7)))))))))) ?_
        refine ⟨by first | exact .inr rfl | exact .inl rfl, ?_⟩; rw [Tryz.results270]; simp only [resOk, resV, go_sem, simprocAttr]
        exact ⟨.c _, .c _⟩
      · rw [decide_eq_false h2] at e3
        clear h2 h1 hA
        refine VC.toldM ent_270 [] Tryz.func270 rfl Tryz.ntmps270 (by simp) (by simp only [ScM, zOk, inL, eq_self, used_is, sc_any, sc_c, sc_pp, sc_ref, sc_row, sc_agg, sc_tup, sc_fn, ScL, some_imp, List.forall_mem_map, Nat.le_refl, go_sem, simprocAttr]) (by simp only [ScM, zOk, inL, eq_self, used_is, sc_any, sc_c, sc_pp, sc_ref, sc_row, sc_agg, sc_tup, sc_fn, ScL, some_imp, List.forall_mem_map, Nat.le_refl, go_sem, simprocAttr]) (by simp only [ScM, zOk, inL, eq_self, used_is, sc_any, sc_c, sc_pp, sc_ref, sc_row, sc_agg, sc_tup, sc_fn, ScL, some_imp, List.forall_mem_map, Nat.le_refl, go_sem, simprocAttr]) (by simp only [ScM, zOk, inL, eq_self, used_is, sc_any, sc_c, sc_pp, sc_ref, sc_row, sc_agg, sc_tup, sc_fn, ScL, some_imp, List.forall_mem_map, Nat.le_refl, go_sem, simprocAttr]) (by simp) fun hb hbL => ?_
        clear hb hbL
        refine walkBF (And.intro hw (And.intro e1 (And.intro e2 (And.intro e3 (And.intro e5 (And.intro hmin (And.intro hsh (And.intro ha (And.intro ho hs7))))))))) ?_
        refine ⟨by first | exact .inr rfl | exact .inl rfl, ?_⟩; rw [Tryz.results270]; simp only [resOk, resV, go_sem, simprocAttr]
        exact ⟨.c _, .c _⟩
    · rw [decide_eq_false h1] at e1
      by_cases h2 : c.toNat = 0
      · rw [decide_eq_true h2] at e3
        rw [decide_eq_false (fun h => hA (.inr ⟨h2, h⟩))] at e4
        clear h2 h1 hA
        refine VC.toldM ent_270 [] Tryz.func270 rfl Tryz.ntmps270 (by simp) (by simp only [ScM, zOk, inL, eq_self, used_is, sc_any, sc_c, sc_pp, sc_ref, sc_row, sc_agg, sc_tup, sc_fn, ScL, some_imp, List.forall_mem_map, Nat.le_refl, go_sem, simprocAttr]) (by simp only [ScM, zOk, inL, eq_self, used_is, sc_any, sc_c, sc_pp, sc_ref, sc_row, sc_agg, sc_tup, sc_fn, ScL, some_imp, List.forall_mem_map, Nat.le_refl, go_sem, simprocAttr]) (by simp only [ScM, zOk, inL, eq_self, used_is, sc_any, sc_c, sc_pp, sc_ref, sc_row, sc_agg, sc_tup, sc_fn, ScL, some_imp, List.forall_mem_map, Nat.le_refl, go_sem, simprocAttr]) (by simp only [ScM, zOk, inL, eq_self, used_is, sc_any, sc_c, sc_pp, sc_ref, sc_row, sc_agg, sc_tup, sc_fn, ScL, some_imp, List.forall_mem_map, Nat.le_refl, go_sem, simprocAttr]) (by simp) fun hb hbL => ?_
        clear hb hbL
        refine walkBF (And.intro hw (And.intro e1 (And.intro e3 (And.intro e4 (And.intro e5 (And.intro hmin (And.intro hsh (And.intro ha (And.intro ho hs7))))))))) ?_
        refine ⟨by first | exact .inr rfl | exact .inl rfl, ?_⟩; rw [Tryz.results270]; simp only [resOk, resV, go_sem, simprocAttr]
        exact ⟨.c _, .c _⟩
      · rw [decide_eq_false h2] at e3
        clear h2 h1 hA
        refine VC.toldM ent_270 [] Tryz.func270 rfl Tryz.ntmps270 (by simp) (by simp only [ScM, zOk, inL, eq_self, used_is, sc_any, sc_c, sc_pp, sc_ref, sc_row, sc_agg, sc_tup, sc_fn, ScL, some_imp, List.forall_mem_map, Nat.le_refl, go_sem, simprocAttr]) (by simp only [ScM, zOk, inL, eq_self, used_is, sc_any, sc_c, sc_pp, sc_ref, sc_row, sc_agg, sc_tup, sc_fn, ScL, some_imp, List.forall_mem_map, Nat.le_refl, go_sem, simprocAttr]) (by simp only [ScM, zOk, inL, eq_self, used_is, sc_any, sc_c, sc_pp, sc_ref, sc_row, sc_agg, sc_tup, sc_fn, ScL, some_imp, List.forall_mem_map, Nat.le_refl, go_sem, simprocAttr]) (by simp only [ScM, zOk, inL, eq_self, used_is, sc_any, sc_c, sc_pp, sc_ref, sc_row, sc_agg, sc_tup, sc_fn, ScL, some_imp, List.forall_mem_map, Nat.le_refl, go_sem, simprocAttr]) (by simp) fun hb hbL => ?_
        clear hb hbL
        refine walkBF (And.intro hw (And.intro e1 (And.intro e3 (And.intro e5 (And.intro hmin (And.intro hsh (And.intro ha (And.intro ho hs7)))))))) ?_
        refine ⟨by first | exact .inr rfl | exact .inl rfl, ?_⟩; rw [Tryz.results270]; simp only [resOk, resV, go_sem, simprocAttr]
        exact ⟨.c _, .c _⟩
set_option maxRecDepth 100000 in
set_option maxHeartbeats 1600000 in
theorem vtake_told (most last : Nat) (hm0 : 0 < most) (hm : most ≤ 10) (hl : last < 128) (hb64 : (last + 1) * 128 ^ (most - 1) ≤ 18446744073709551616) (B : List UInt8) (hB : B.length ≤ 1000000) (p : Nat) (hp : p ≤ B.length) (U k e : Nat)
    (hR : (vtk most last (B.drop p) 0 0 = .ok (U, k) ∧ e = 0) ∨ (vtk most last (B.drop p) 0 0 = .error (e : Int) ∧ U = 0 ∧ k = 0)) :
    ToldM Tryz.prog 246 [.c (.sl 1 (bytePV B)), .c (.v (.int .i64 (p : Int))), .ref 1000000 1 0 0] [vB 0 0 most last 0] [none] (.tup [.c (.v (.int .u64 (U : Int))), .c (.v (.int .i64 ((p + k : Nat) : Int))), .c (.v (.int .i64 (e : Int)))]) := by
  have hbl : (bytePV B).length = B.length := by simp [bytePV]
  have hdr : ((bytePV B).take B.length).drop p = bytePV (B.drop p) := by rw [← hbl, List.take_length]; simp [bytePV, List.map_drop]
  have hdl : (bytePV (B.drop p)).length = (B.drop p).length := by simp [bytePV]
  have hdn : (B.drop p).length + p = B.length := by rw [List.length_drop]; omega
  have e1 : decide ((p : Int) < 0) = false := by simp
  have e2 : decide ((p : Int) > (B.length : Int)) = false := by simp; omega
  generalize B.drop p = D at hdr hdl hdn hR
  unfold vB
  refine VC.toldM ent_246 [] Tryz.func246 rfl Tryz.ntmps246 (by simp) (by simp only [ScM, zOk, inL, eq_self, used_is, sc_any, sc_c, sc_pp, sc_ref, sc_row, sc_agg, sc_tup, sc_fn, ScL, some_imp, List.forall_mem_map, Nat.le_refl, go_sem, simprocAttr]) (by simp only [ScM, zOk, inL, eq_self, used_is, sc_any, sc_c, sc_pp, sc_ref, sc_row, sc_agg, sc_tup, sc_fn, ScL, some_imp, List.forall_mem_map, Nat.le_refl, go_sem, simprocAttr]) (by simp only [ScM, zOk, inL, eq_self, used_is, sc_any, sc_c, sc_pp, sc_ref, sc_row, sc_agg, sc_tup, sc_fn, ScL, some_imp, List.forall_mem_map, Nat.le_refl, go_sem, simprocAttr]) (by simp only [ScM, zOk, inL, eq_self, used_is, sc_any, sc_c, sc_pp, sc_ref, sc_row, sc_agg, sc_tup, sc_fn, ScL, some_imp, List.forall_mem_map, Nat.le_refl, go_sem, simprocAttr]) (by simp) fun hb hbL => ?_
  clear hb hbL
  refine walkBF (And.intro e1 (And.intro e2 (And.intro hbl (And.intro hdr hdl)))) ?_
  refine VC.loop (ι := {q : Nat × Nat // q.1 ≤ D.length ∧ q.1 < most ∧ q.2 < 128 ^ q.1 ∧ vtk most last (D.drop q.1) q.1 q.2 = vtk most last D 0 0})
    (fun q => [(0, .c (.sl 1 (bytePV B))), (1, .c (.v (.int .i64 (p : Int)))), (2, .ref 1000000 1 0 0), (9, .fn (.func 270) [.ref 1000000 1 0 0] []), (27, .c (.sl 1 (bytePV D))), (28, .c (.v (.int .i64 (D.length : Int)))), (29, .c (.v (.int .i64 (q.1.1 : Int))))])
    (fun q => [(1000000, ⟨false, 276, 5, [[.c (.v (.int .u64 (q.1.2 : Int))), .c (.v (.int .u64 ((7 * q.1.1 : Nat) : Int))), .c (.v (.int .i64 (most : Int))), .c (.v (.int .u8 (last : Int))), .c (.v (.int .i64 (q.1.1 : Int)))]]⟩)]) 800 (fun q => D.length - q.1.1)
    ⟨(0, 0), Nat.zero_le _, hm0, by simp, rfl⟩ ?_ ?_
  · simp only [hdl, Weak, eq_self, used_is, sc_any, sc_c, sc_pp, sc_ref, sc_row, sc_agg, sc_fn, ScL, some_imp, List.forall_mem_map, go_sem, Int.reduceBEq, Int.reduceLE, Int.reduceLT, Int.reduceNeg, Nat.reduceAdd, Nat.reduceEqDiff, Nat.reduceLT, Nat.reduceLeDiff, Nat.reduceMul, Nat.reduceSub, reduceCtorEq, ↓reduceIte]
  rintro ⟨⟨i, u⟩, hi, him, hu, hq⟩
  simp only [] at hi him hu hq ⊢
  refine walkGF (hdl) ?_
  refine VC.cond (by rfl) (by trivial) (fun hc => ?_) (fun hc => ?_)
  · have hlt : i < D.length := by simp at hc; omega
    obtain ⟨c, hcx⟩ : ∃ c, D[i]? = some c := ⟨D[i], List.getElem?_eq_getElem hlt⟩
    have hcp : (bytePV D)[i]? = some [.v (.int .u8 (c.toNat : Int))] := by unfold bytePV; rw [List.getElem?_map, hcx]; rfl
    have hdi : D.drop i = c :: D.drop (i + 1) := by
      obtain ⟨h1, h2⟩ := List.getElem?_eq_some_iff.1 hcx
      rw [← h2]
      exact List.drop_eq_getElem_cons hlt
    rw [hdi, vtk] at hq
    obtain ⟨hF1, hF2⟩ := feed_told most last i u c him hm
    have hw1 : IntKind.i64.wrap ((i : Int) + 1) = ((i + 1 : Nat) : Int) := by rw [wrap64_id (by omega) (by omega)]; omega
    have hw2 : IntKind.i64.wrap ((p : Int) + (i : Int)) = ((p + i : Nat) : Int) := by rw [wrap64_id (by omega) (by omega)]; omega
    have hw3 : IntKind.i64.wrap (((p + i : Nat) : Int) + 1) = ((p + i + 1 : Nat) : Int) := by rw [wrap64_id (by omega) (by omega)]; omega
    by_cases hW : Wrong most last i c
    · have hF := hF1 hW
      have hE : e = 11 ∧ U = 0 ∧ k = 0 := by
        have : vtk most last D 0 0 = .error 11 := by
          rw [← hq]
          rcases hW with hW | hW
          · rw [if_pos hW]
          · by_cases h2 : i + 1 = most ∧ last < c.toNat
            · rw [if_pos h2]
            · rw [if_neg h2, if_pos hW]
        rw [this] at hR
        rcases hR with ⟨h, _⟩ | ⟨h, h2, h3⟩
        · simp at h
        · injection h with h
          exact ⟨by omega, h2, h3⟩
      obtain ⟨rfl, rfl, rfl⟩ := hE
      clear hF1 hF2 hq hR hW
      unfold vB at hF
      refine walkGF (And.intro hdl hcp) ?_
      ((refine AO.step fun K hK => ?_; simp only [go_sem, Int.reduceBEq, Int.reduceLE, Int.reduceLT, Int.reduceNeg, Nat.reduceAdd, Nat.reduceEqDiff, Nat.reduceLT, Nat.reduceLeDiff, Nat.reduceMul, Nat.reduceSub, reduceCtorEq, ↓reduceIte]; (first | refine gsel_go ?_ | skip)); refine .inr (.inr (.inl ⟨?vy1, [1000000], ?va1, ?vl1, ?vm1, ?cond1, ?cont1⟩)); (case cond1 => ((repeat' apply And.intro) <;> (try ((with_reducible show ToldM _ _ _ _ _ _); exact hF))); (all_goals first | trivial | (simp only [go_sem, simprocAttr]; done) | (simp; done) | rfl)); (first | refine hK _ _ _ ?_ | (simp only [go_sem, simprocAttr]; first | refine hK _ _ _ ?_ | refine ⟨rfl, hK _ _ _ ?_⟩)); clear hK K)
      refine walkB ?_
      refine ⟨by first | exact .inr rfl | exact .inl rfl, ?_⟩; rw [Tryz.results246]; simp only [resOk, resV, go_sem, simprocAttr]
      exact ⟨.c _, .c _, .c _⟩
    have hc8 := c.toNat_lt
    have hpw : 128 ^ (i + 1) = 128 * 128 ^ i := by rw [Nat.pow_succ, Nat.mul_comm]
    have hu1 : u + c.toNat % 128 * 128 ^ i < 128 ^ (i + 1) := by
      have h1 : c.toNat % 128 * 128 ^ i ≤ 127 * 128 ^ i := Nat.mul_le_mul_right _ (by omega)
      omega
    have hu2 : u + c.toNat % 128 * 128 ^ i < 18446744073709551616 := by
      refine Nat.lt_of_lt_of_le ?_ hb64
      rcases Nat.lt_or_ge (i + 1) most with h | h
      · calc u + c.toNat % 128 * 128 ^ i < 128 ^ (i + 1) := hu1
          _ ≤ 128 ^ (most - 1) := Nat.pow_le_pow_right (by decide) (by omega)
          _ ≤ (last + 1) * 128 ^ (most - 1) := Nat.le_mul_of_pos_left _ (by omega)
      · have hme : most - 1 = i := by omega
        have h1 : ¬ last < c.toNat := fun h2 => hW (.inl ⟨by omega, h2⟩)
        have h2 : c.toNat % 128 * 128 ^ i ≤ last * 128 ^ i := Nat.mul_le_mul_right _ (by omega)
        rw [hme, Nat.add_mul, Nat.one_mul]
        omega
    have hF := hF2 hW hu hu2
    rw [if_neg (fun h => hW (.inl h)), if_neg (fun h => hW (.inr h))] at hq
    by_cases h128 : c.toNat < 128
    · rw [if_pos h128] at hq
      rw [decide_eq_true h128] at hF
      rw [← hq] at hR
      have hE : e = 0 ∧ U = u + c.toNat % 128 * 128 ^ i ∧ k = i + 1 := by
        rcases hR with ⟨h, h2⟩ | ⟨h, _⟩
        · injection h with h
          injection h with h3 h4
          exact ⟨h2, h3.symm, h4.symm⟩
        · simp at h
      obtain ⟨rfl, rfl, rfl⟩ := hE
      clear hF1 hF2 hq hR hW hu1
      generalize u + c.toNat % 128 * 128 ^ i = U at hF hu2 ⊢
      unfold vB at hF
      refine walkGF (And.intro hdl hcp) ?_
      ((refine AO.step fun K hK => ?_; simp only [go_sem, Int.reduceBEq, Int.reduceLE, Int.reduceLT, Int.reduceNeg, Nat.reduceAdd, Nat.reduceEqDiff, Nat.reduceLT, Nat.reduceLeDiff, Nat.reduceMul, Nat.reduceSub, reduceCtorEq, ↓reduceIte]; (first | refine gsel_go ?_ | skip)); refine .inr (.inr (.inl ⟨?vy2, [1000000], ?va2, ?vl2, ?vm2, ?cond2, ?cont2⟩)); (case cond2 => ((repeat' apply And.intro) <;> (try ((with_reducible show ToldM _ _ _ _ _ _); exact hF))); (all_goals first | trivial | (simp only [go_sem, simprocAttr]; done) | (simp; done) | rfl)); (first | refine hK _ _ _ ?_ | (simp only [go_sem, simprocAttr]; first | refine hK _ _ _ ?_ | refine ⟨rfl, hK _ _ _ ?_⟩)); clear hK K)
      refine walkBF (And.intro hw2 hw3) ?_
      refine ⟨by first | exact .inr rfl | exact .inl rfl, ?_⟩; rw [Tryz.results246]; simp only [resOk, resV, go_sem, simprocAttr]
      exact ⟨.c _, .c _, .c _⟩
    · rw [if_neg h128] at hq
      rw [decide_eq_false h128] at hF
      have him1 : i + 1 < most := by
        have : ¬ (i + 1 = most) := fun h => hW (.inl ⟨h, by omega⟩)
        omega
      clear hF1 hF2 hW
      generalize u + c.toNat % 128 * 128 ^ i = V at hF hu1 hu2 hq
      unfold vB at hF
      generalize hs8 : 7 * (i + 1) = s8 at hF
      refine walkGF (And.intro hdl hcp) ?_
      ((refine AO.step fun K hK => ?_; simp only [go_sem, Int.reduceBEq, Int.reduceLE, Int.reduceLT, Int.reduceNeg, Nat.reduceAdd, Nat.reduceEqDiff, Nat.reduceLT, Nat.reduceLeDiff, Nat.reduceMul, Nat.reduceSub, reduceCtorEq, ↓reduceIte]; (first | refine gsel_go ?_ | skip)); refine .inr (.inr (.inl ⟨?vy3, [1000000], ?va3, ?vl3, ?vm3, ?cond3, ?cont3⟩)); (case cond3 => ((repeat' apply And.intro) <;> (try ((with_reducible show ToldM _ _ _ _ _ _); exact hF))); (all_goals first | trivial | (simp only [go_sem, simprocAttr]; done) | (simp; done) | rfl)); (first | refine hK _ _ _ ?_ | (simp only [go_sem, simprocAttr]; first | refine hK _ _ _ ?_ | refine ⟨rfl, hK _ _ _ ?_⟩)); clear hK K)
      refine walkBF (hw1) ?_
      refine .next ⟨(i + 1, V), hlt, him1, hu1, hq⟩ ?_ (by simp only []; omega)
      simp only [hdl, Weak, eq_self, used_is, sc_any, sc_c, sc_pp, sc_ref, sc_row, sc_agg, sc_fn, ScL, some_imp, List.forall_mem_map, go_sem, Int.reduceBEq, Int.reduceLE, Int.reduceLT, Int.reduceNeg, Nat.reduceAdd, Nat.reduceEqDiff, Nat.reduceLT, Nat.reduceLeDiff, Nat.reduceMul, Nat.reduceSub, reduceCtorEq, ↓reduceIte]
      rw [← hs8]
  · have hge : D.length ≤ i := by simp at hc; omega
    rw [List.drop_eq_nil_of_le hge, vtk] at hq
    rw [← hq] at hR
    have hE : e = 10 ∧ U = 0 ∧ k = 0 := by
      rcases hR with ⟨h, _⟩ | ⟨h, h2, h3⟩
      · simp at h
      · injection h with h
        exact ⟨by omega, h2, h3⟩
    obtain ⟨rfl, rfl, rfl⟩ := hE
    refine walkB ?_
    refine ⟨by first | exact .inr rfl | exact .inl rfl, ?_⟩; rw [Tryz.results246]; simp only [resOk, resV, go_sem, simprocAttr]
    exact ⟨.c _, .c _, .c _⟩
def varM (most last : Nat) (B : List UInt8) (p : Nat) : Int × Int × Int := match rvar most last B p with
  | .error e => (0, (p : Int), e)
  | .ok (n, q) => (n, (q : Int), 0)
theorem vtk_bound (most last : Nat) (hm0 : 0 < most) (hl : last < 128) (hb64 : (last + 1) * 128 ^ (most - 1) ≤ 18446744073709551616) {D : List UInt8} {U k : Nat} (h : vtk most last D 0 0 = .ok (U, k)) : U < 18446744073709551616 := by
  obtain ⟨w, e1, _, e3, _⟩ := vtk_ok most last hl D 0 0 U k hm0 h
  simp at e1 e3
  omega
theorem vtk_pos (most last : Nat) : ∀ (l : List UInt8) (n u : Nat) (e : Int), vtk most last l n u = .error e → 0 ≤ e
  | [], n, u, e, h => by rw [vtk] at h; injection h with h; subst h; decide
  | c :: cs, n, u, e, h => by
    rw [vtk] at h
    split at h
    · injection h with h; subst h; decide
    split at h
    · injection h with h; subst h; decide
    split at h
    · simp at h
    · exact vtk_pos most last cs _ _ e h
theorem vtake_any (most last : Nat) (hm0 : 0 < most) (hm : most ≤ 10) (hl : last < 128) (hb64 : (last + 1) * 128 ^ (most - 1) ≤ 18446744073709551616) (B : List UInt8) (hB : B.length ≤ 1000000) (p : Nat) (hp : p ≤ B.length) : ∃ U : Nat, U < 18446744073709551616 ∧ zagN U = (varM most last B p).1 ∧
    ToldM Tryz.prog 246 [.c (.sl 1 (bytePV B)), .c (.v (.int .i64 (p : Int))), .ref 1000000 1 0 0] [vB 0 0 most last 0] [none] (.tup [.c (.v (.int .u64 (U : Int))), .c (.v (.int .i64 (varM most last B p).2.1)), .c (.v (.int .i64 (varM most last B p).2.2))]) := by
  unfold varM rvar
  cases h : vtk most last (B.drop p) 0 0 with
  | error e =>
    have he := vtk_pos most last _ _ _ e h
    obtain ⟨e, rfl⟩ : ∃ k : Nat, e = (k : Int) := ⟨e.toNat, by omega⟩
    exact ⟨0, by decide, rfl, vtake_told most last hm0 hm hl hb64 B hB p hp 0 0 e (.inr ⟨h, rfl, rfl⟩)⟩
  | ok r =>
    exact ⟨r.1, vtk_bound most last hm0 hl hb64 h, rfl, vtake_told most last hm0 hm hl hb64 B hB p hp r.1 r.2 0 (.inl ⟨h, rfl⟩)⟩
set_option maxRecDepth 100000 in
set_option maxHeartbeats 800000 in
theorem vlong_told (B : List UInt8) (hB : B.length ≤ 1000000) (p : Nat) (hp : p ≤ B.length) : Told Tryz.prog 200 [.c (.sl 1 (bytePV B)), .c (.v (.int .i64 (p : Int)))] (.tup [.c (.v (.int .i64 (varM 10 1 B p).1)), .c (.v (.int .i64 (varM 10 1 B p).2.1)), .c (.v (.int .i64 (varM 10 1 B p).2.2))]) := by
  obtain ⟨U, hU, hz, hT⟩ := vtake_any 10 1 (by decide) (by decide) (by decide) (by decide) B hB p hp
  have hZ := zag_told U hU
  rw [hz] at hZ
  generalize varM 10 1 B p = R at hT hZ
  unfold vB at hT
  rw [show ((0 : Nat) : Int) = 0 from rfl, show ((10 : Nat) : Int) = 10 from rfl, show ((1 : Nat) : Int) = 1 from rfl] at hT
  refine VC.told ent_200 Tryz.func200 rfl Tryz.ntmps200 (by simp) (by first | rfl | simp [AV.pureB, AV.pureL, pureL_c, pures]) (by first | rfl | simp [AV.pureB, AV.pureL, pureL_c, pures]) fun hb => ?_
  clear hb
  refine walkG ?_
  ((refine AO.step fun K hK => ?_; simp only [go_sem, Int.reduceBEq, Int.reduceLE, Int.reduceLT, Int.reduceNeg, Nat.reduceAdd, Nat.reduceEqDiff, Nat.reduceLT, Nat.reduceLeDiff, Nat.reduceMul, Nat.reduceSub, reduceCtorEq, ↓reduceIte]; (first | refine gsel_go ?_ | skip)); refine .inr (.inr (.inl ⟨?vy4, [48], ?va4, ?vl4, ?vm4, ?cond4, ?cont4⟩)); (case cond4 => ((repeat' apply And.intro) <;> (try ((with_reducible show ToldM _ _ _ _ _ _); exact hT))); (all_goals first | trivial | (simp only [go_sem, simprocAttr]; done) | (simp; done) | rfl)); (first | refine hK _ _ _ ?_ | (simp only [go_sem, simprocAttr]; first | refine hK _ _ _ ?_ | refine ⟨rfl, hK _ _ _ ?_⟩)); clear hK K)
  refine walkG ?_
  refine walkC (hZ) ?_
  refine walkG ?_
  refine ⟨by first | exact .inr rfl | exact .inl rfl, ?_⟩; rw [Tryz.results200]; simp only [resOk, resV, go_sem, simprocAttr]
  exact ⟨.c _, .c _, .c _⟩
set_option maxRecDepth 100000 in
set_option maxHeartbeats 800000 in
theorem vint_told (B : List UInt8) (hB : B.length ≤ 1000000) (p : Nat) (hp : p ≤ B.length) : Told Tryz.prog 199 [.c (.sl 1 (bytePV B)), .c (.v (.int .i64 (p : Int)))] (.tup [.c (.v (.int .i64 (varM 5 15 B p).1)), .c (.v (.int .i64 (varM 5 15 B p).2.1)), .c (.v (.int .i64 (varM 5 15 B p).2.2))]) := by
  obtain ⟨U, hU, hz, hT⟩ := vtake_any 5 15 (by decide) (by decide) (by decide) (by decide) B hB p hp
  have hZ := zag_told U hU
  rw [hz] at hZ
  generalize varM 5 15 B p = R at hT hZ
  unfold vB at hT
  rw [show ((0 : Nat) : Int) = 0 from rfl, show ((5 : Nat) : Int) = 5 from rfl, show ((15 : Nat) : Int) = 15 from rfl] at hT
  refine VC.told ent_199 Tryz.func199 rfl Tryz.ntmps199 (by simp) (by first | rfl | simp [AV.pureB, AV.pureL, pureL_c, pures]) (by first | rfl | simp [AV.pureB, AV.pureL, pureL_c, pures]) fun hb => ?_
  clear hb
  refine walkG ?_
  ((refine AO.step fun K hK => ?_; simp only [go_sem, Int.reduceBEq, Int.reduceLE, Int.reduceLT, Int.reduceNeg, Nat.reduceAdd, Nat.reduceEqDiff, Nat.reduceLT, Nat.reduceLeDiff, Nat.reduceMul, Nat.reduceSub, reduceCtorEq, ↓reduceIte]; (first | refine gsel_go ?_ | skip)); refine .inr (.inr (.inl ⟨?vy5, [48], ?va5, ?vl5, ?vm5, ?cond5, ?cont5⟩)); (case cond5 => ((repeat' apply And.intro) <;> (try ((with_reducible show ToldM _ _ _ _ _ _); exact hT))); (all_goals first | trivial | (simp only [go_sem, simprocAttr]; done) | (simp; done) | rfl)); (first | refine hK _ _ _ ?_ | (simp only [go_sem, simprocAttr]; first | refine hK _ _ _ ?_ | refine ⟨rfl, hK _ _ _ ?_⟩)); clear hK K)
  refine walkG ?_
  refine walkC (hZ) ?_
  refine walkG ?_
  refine ⟨by first | exact .inr rfl | exact .inl rfl, ?_⟩; rw [Tryz.results199]; simp only [resOk, resV, go_sem, simprocAttr]
  exact ⟨.c _, .c _, .c _⟩
end
end Go.Proofs.YtllnlmchjljhlaaGreatDoor
