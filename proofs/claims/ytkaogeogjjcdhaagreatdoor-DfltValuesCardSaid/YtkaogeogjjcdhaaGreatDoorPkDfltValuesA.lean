/- Texts that lead to the law DfltValues, joined. -/
import Derived.Test.YtkaogeogjjcdhaaGreatDoorPkDfltValuesXAbB
import Derived.Scope
import Derived.Test.YtkaogeogjjcdhaaGreatDoorProg
import Derived.WalkKit
import Derived.WalkSpells
import Derived.WalkLawsBesides
import Derived.Handy
import Derived.Lib.Hide
import Derived.Laws.BytesArg
import Derived.Lib.SlBytesConst
import Derived.Test.YtkaogeogjjcdhaaGreatDoorPkDfltValuesXTy
import Derived.RangeFuncNested
import Derived.RangeFuncBound
import Derived.RangeFuncCalls
import Derived.RangeFuncLeaves
import Derived.RangeFuncBox
import Derived.Shelf.Abstract
import Derived.Shelf.RegionOpen
import Derived.OwnWalkIn
import Derived.TacticsInMore
import Derived.LoopNIn
import Derived.LoopIn
import Derived.Maps.AppendAt
import Derived.Sort.EveryDepth
import Derived.Test.YtkaogeogjjcdhaaGreatDoorPkDfltValuesXShelf
import Derived.Sort.OwnSorted
namespace Go.Proofs.YtkaogeogjjcdhaaGreatDoor
open Go.RowKit
set_option linter.unusedVariables false
set_option linter.unusedSimpArgs false
section
section
variable {P : Program} {N : Nat} {Q : Exit → ASt → Prop}
inductive GQ (Q : Exit → ASt → Prop) : Exit → ASt → Prop
  | normal {σ : ASt} (h : Q .normal σ) : GQ Q .normal σ
  | ret {σ : ASt} (h : Q .ret σ) : GQ Q .ret σ
  | exit {σ : ASt} {id : Nat} (h : Q (.exit id) σ) : GQ Q (.exit id) σ
theorem VC.scope {σ : ASt} {c : Code} (h : VC P N c σ (GQ Q)) : VC P N (.scope c) σ Q := ⟨fun C a W r => by
  refine wp_scope_straight (wp_mono (h.out C a W r) ?_)
  rintro e a' W' ⟨σ', hq, hr⟩
  cases hq with
  | normal h => exact ⟨σ', h, hr⟩
  | ret h => exact ⟨σ', h, hr⟩
  | exit h => exact ⟨σ', h, hr⟩⟩
theorem VC.label {σ : ASt} {l : Nat} (h : Q .normal σ) : VC P N (.label l) σ Q := ⟨fun C a W r => wp_label ⟨σ, h, r⟩⟩
instance p17 {c : Code} {σ : ASt} : Pass (VC P N (.scope c) σ Q) (VC P N c σ (GQ Q)) := ⟨VC.scope⟩
instance p18 {l : Nat} {σ : ASt} : Pass (VC P N (.label l) σ Q) (Q .normal σ) := ⟨VC.label⟩
instance p19 {σ : ASt} : Pass (GQ Q .normal σ) (Q .normal σ) := ⟨.normal⟩
instance p20 {σ : ASt} : Pass (GQ Q .ret σ) (Q .ret σ) := ⟨.ret⟩
instance p21 {σ : ASt} {id : Nat} : Pass (GQ Q (.exit id) σ) (Q (.exit id) σ) := ⟨.exit⟩
end
end

def BytesAt (w : World) (a : Option Addr) (b off : Nat) (l : List UInt8) : Prop :=
  (l ≠ [] → a = some ⟨b, off, none⟩) ∧ ∀ j, j < l.length → w.cell? ⟨b, off + j, none⟩ = some (.int .u8 ((l[j]?.getD 0).toNat : Int))
def str (l : List UInt8) : ByteArray := ⟨l.toArray⟩
theorem str_toList (l : List UInt8) : (str l).toList = l := by rw [ByteArray.toList_eq]; rfl
theorem str_size (l : List UInt8) : (str l).size = l.length := by simp [str, ByteArray.size]
theorem str_of (s : ByteArray) : str s.data.toList = s := by cases s; rfl
theorem BytesAt.keep {w w' : World} {a : Option Addr} {b off : Nat} {l : List UInt8} (h : BytesAt w a b off l) {B : Nat} (hb : Below B w w') (hlt : l ≠ [] → b < B) : BytesAt w' a b off l := by
  refine ⟨h.1, fun j hj => ?_⟩
  rw [← h.2 j hj]
  exact hb.cell (p := ⟨b, off + j, none⟩) (hlt (by intro e; subst e; simp at hj))
theorem BytesAt.lt {w : World} {a : Option Addr} {b off : Nat} {l : List UInt8} (h : BytesAt w a b off l) (hne : l ≠ []) : b < w.heap.size := by
  have := h.2 0 (List.length_pos_iff.2 hne)
  rcases Nat.lt_or_ge b w.heap.size with h | h
  · exact h
  · simp [World.cell?, Array.getElem?_eq_none h] at this
theorem BytesAt.below {w w' : World} {a : Option Addr} {b off : Nat} {l : List UInt8} (h : BytesAt w a b off l) (hb : Below w.heap.size w w') : BytesAt w' a b off l :=
  h.keep hb fun hne => h.lt hne

inductive JT where
  | mk (k : Int) (n : Int) (s : List UInt8) (ks : List (List UInt8)) (xs : List JT)
def idxS (key : List UInt8) (ks : List (List UInt8)) : Int := match ks.findIdx? (fun k => decide (key = k)) with | some i => (i : Int) | none => -1
theorem idxS_at {key : List UInt8} {ks : List (List UInt8)} {i : Nat} (h : ks[i]? = some key) (h0 : ∀ j, j < i → ks[j]? ≠ some key) : idxS key ks = (i : Int) := by
  unfold idxS
  have hi := (List.getElem?_eq_some_iff.1 h)
  have : ks.findIdx? (fun k => decide (key = k)) = some i := by
    rw [List.findIdx?_eq_some_iff_getElem]
    refine ⟨hi.1, by simp [hi.2], fun j hj => ?_⟩
    simp
    intro e
    exact h0 j hj (by rw [List.getElem?_eq_getElem (by have := hi.1; omega), e])
  rw [this]
theorem idxS_none {key : List UInt8} {ks : List (List UInt8)} (h0 : ∀ j, j < ks.length → ks[j]? ≠ some key) : idxS key ks = -1 := by
  unfold idxS
  have : ks.findIdx? (fun k => decide (key = k)) = none := by
    rw [List.findIdx?_eq_none_iff]
    intro x hx
    simp
    intro e
    obtain ⟨j, hj, hx⟩ := List.getElem_of_mem hx
    exact h0 j hj (by rw [List.getElem?_eq_getElem hj, hx, e])
  rw [this]

mutual
def JT.inr : JT → Prop
  | .mk k n s ks xs => (-9223372036854775808 ≤ n ∧ n ≤ 9223372036854775807) ∧ JT.inrL xs
def JT.inrL : List JT → Prop
  | [] => True
  | x :: xs => x.inr ∧ JT.inrL xs
end
theorem inrL_mem : ∀ {xs : List JT}, JT.inrL xs → ∀ x ∈ xs, x.inr
  | x :: xs, h, y, hy => by
    rcases List.mem_cons.1 hy with rfl | hy
    · exact h.1
    · exact inrL_mem h.2 y hy
theorem inrL_of : ∀ {xs : List JT}, (∀ x ∈ xs, x.inr) → JT.inrL xs
  | [], _ => trivial
  | x :: xs, h => ⟨h x (by simp), inrL_of fun y hy => h y (by simp [hy])⟩

def sPV (s : List UInt8) : List PV := [.v (.string (str s))]
theorem sPV_eq (s : List UInt8) : sPV s = [.v (.string (str s))] := rfl
theorem str_dl (l : List UInt8) : (str l).data.toList = l := by simp [str]
mutual
def JT.cells : JT → List PV
  | .mk k n s ks xs => [.v (.int .i64 k), .v (.int .i64 n), .v (.string (str s)), .sl 5 (JT.cellsL xs), .sl 1 (ks.map sPV)]
def JT.cellsL : List JT → List (List PV)
  | [] => []
  | x :: xs => x.cells :: JT.cellsL xs
end
theorem cellsL_map : ∀ (xs : List JT), JT.cellsL xs = xs.map JT.cells
  | [] => by simp [JT.cellsL]
  | x :: xs => by simp [JT.cellsL, cellsL_map xs]
def JT.av (t : JT) : AV := .agg (t.cells.map .c)
theorem JT.av_eq (t : JT) : t.av = .agg (t.cells.map .c) := rfl
mutual
def tdeep : JT → Nat
  | .mk k n s ks xs => if k = 5 ∨ k = 6 then tdeeps 1 xs else 0
def tdeeps : Nat → List JT → Nat
  | n, [] => n
  | n, x :: xs => tdeeps (max n (1 + tdeep x)) xs
end
theorem cells_mk (k n : Int) (s : List UInt8) (ks : List (List UInt8)) (xs : List JT) : (JT.mk k n s ks xs).cells = [.v (.int .i64 k), .v (.int .i64 n), .v (.string (str s)), .sl 5 (xs.map JT.cells), .sl 1 (ks.map sPV)] := by simp [JT.cells, cellsL_map]
theorem len_cells (t : JT) : t.cells.length = 5 := by cases t; simp [JT.cells]
theorem take_cells (t : JT) : t.cells.take 5 = t.cells := List.take_of_length_le (by rw [len_cells]; exact Nat.le_refl _)
theorem take_cellsC (t : JT) : (t.cells.map AV.c).take 5 = t.cells.map .c := List.take_of_length_le (by rw [List.length_map, len_cells]; exact Nat.le_refl _)

def iPV (n : Int) : List PV := [.v (.int .i64 n)]
structure FT where
  name : List UInt8
  aliases : List (List UInt8)
  type : Int
  has : Bool
  dflt : JT
def FT.cells (f : FT) : List PV := .v (.string (str f.name)) :: .sl 1 (f.aliases.map sPV) :: .v (.int .i64 f.type) :: .v (.bool f.has) :: f.dflt.cells
structure NT where
  kind : Int
  name : List UInt8
  aliases : List (List UInt8)
  fields : List FT
  symbols : List (List UInt8)
  has : Bool
  dflt : List UInt8
  size : Int
  items : Int
  branches : List Int
def NT.cells (n : NT) : List PV := [.v (.int .i64 n.kind), .v (.string (str n.name)), .sl 1 (n.aliases.map sPV), .sl 9 (n.fields.map FT.cells), .sl 1 (n.symbols.map sPV), .v (.bool n.has), .v (.string (str n.dflt)), .v (.int .i64 n.size), .v (.int .i64 n.items), .sl 1 (n.branches.map iPV)]
structure ST where
  nodes : List NT
  root : Int
def ST.cells (s : ST) : List PV := [.sl 10 (s.nodes.map NT.cells), .v (.int .i64 s.root)]
def FT.av (f : FT) : AV := .agg (f.cells.map .c)
def NT.av (n : NT) : AV := .agg (n.cells.map .c)
def ST.av (s : ST) : AV := .agg (s.cells.map .c)
theorem FT.av_eq (f : FT) : f.av = .agg (f.cells.map .c) := rfl
theorem NT.av_eq (n : NT) : n.av = .agg (n.cells.map .c) := rfl
theorem ST.av_eq (s : ST) : s.av = .agg (s.cells.map .c) := rfl
theorem iPV_eq (n : Int) : iPV n = [.v (.int .i64 n)] := rfl
theorem ncells_mk (n : NT) : n.cells = [.v (.int .i64 n.kind), .v (.string (str n.name)), .sl 1 (n.aliases.map sPV), .sl 9 (n.fields.map FT.cells), .sl 1 (n.symbols.map sPV), .v (.bool n.has), .v (.string (str n.dflt)), .v (.int .i64 n.size), .v (.int .i64 n.items), .sl 1 (n.branches.map iPV)] := rfl
theorem scells_mk (s : ST) : s.cells = [.sl 10 (s.nodes.map NT.cells), .v (.int .i64 s.root)] := rfl
theorem fcells_mk (f : FT) : f.cells = .v (.string (str f.name)) :: .sl 1 (f.aliases.map sPV) :: .v (.int .i64 f.type) :: .v (.bool f.has) :: f.dflt.cells := rfl
theorem len_fcells (f : FT) : f.cells.length = 9 := by simp [FT.cells, len_cells]
theorem len_ncells (n : NT) : n.cells.length = 10 := rfl
theorem len_scells (s : ST) : s.cells.length = 2 := rfl
theorem take_fcells (f : FT) : f.cells.take 9 = f.cells := List.take_of_length_le (by rw [len_fcells]; exact Nat.le_refl _)
theorem take_fcellsC (f : FT) : (f.cells.map AV.c).take 9 = f.cells.map .c := List.take_of_length_le (by rw [List.length_map, len_fcells]; exact Nat.le_refl _)
theorem take_ncells (n : NT) : n.cells.take 10 = n.cells := rfl
theorem take_ncellsC (n : NT) : (n.cells.map AV.c).take 10 = n.cells.map .c := rfl
theorem take_scells (s : ST) : s.cells.take 2 = s.cells := rfl
theorem take_scellsC (s : ST) : (s.cells.map AV.c).take 2 = s.cells.map .c := rfl
/-! The order of a schema's nodes. -/
def namedK (k : Int) : Bool := k == 9 || k == 10 || k == 14
def kidsN (n : NT) : List Int := if n.kind = 9 then n.fields.map (·.type) else if n.kind = 11 ∨ n.kind = 12 then [n.items] else if n.kind = 13 then n.branches else []
def kindAt (ns : List NT) (k : Nat) : Int := match ns[k]? with | some n => n.kind | none => 0
def walkK (ns : List NT) (f : Nat → Bool × Nat) : List Int → Nat → Bool × Nat
  | [], p => (true, p)
  | k :: ks, p => if k = (p : Int) then (if (f p).1 = true then walkK ns f ks (f p).2 else (false, (f p).2)) else if k < 0 ∨ k > (p : Int) ∨ namedK (kindAt ns k.toNat) = false then (false, p) else walkK ns f ks p
def walkM (ns : List NT) : Nat → Nat → Bool × Nat
  | 0, p => (false, p)
  | d + 1, p => match ns[p]? with | none => (false, p) | some n => walkK ns (walkM ns d) (kidsN n) (p + 1)
def orderedM (s : ST) : Bool := decide (0 < s.nodes.length) && (decide (s.nodes.length ≤ 200) && (decide (s.root = 0) && ((walkM s.nodes 33 0).1 && decide ((walkM s.nodes 33 0).2 = s.nodes.length))))
theorem walkK_le (ns : List NT) (f : Nat → Bool × Nat) (hf : ∀ p, p ≤ ns.length → p ≤ (f p).2 ∧ (f p).2 ≤ ns.length) : ∀ (ks : List Int) (p : Nat), p ≤ ns.length → p ≤ (walkK ns f ks p).2 ∧ (walkK ns f ks p).2 ≤ ns.length
  | [], p, h => ⟨Nat.le_refl _, h⟩
  | k :: ks, p, h => by
    rw [walkK]
    have h1 := hf p h
    split
    · split
      · have h2 := walkK_le ns f hf ks (f p).2 h1.2
        omega
      · exact h1
    · split
      · exact ⟨Nat.le_refl _, h⟩
      · exact walkK_le ns f hf ks p h
theorem walkM_le (ns : List NT) : ∀ (d p : Nat), p ≤ ns.length → p ≤ (walkM ns d p).2 ∧ (walkM ns d p).2 ≤ ns.length
  | 0, p, h => ⟨Nat.le_refl _, h⟩
  | d + 1, p, h => by
    rw [walkM]
    split
    · exact ⟨Nat.le_refl _, h⟩
    · rename_i n hn
      have hp : p < ns.length := (List.getElem?_eq_some_iff.1 hn).1
      have := walkK_le ns _ (walkM_le ns d) (kidsN n) (p + 1) hp
      omega
def Stand (ns : List NT) (a b : Nat) : Prop :=
  (∀ (i : Nat) (n : NT), a ≤ i → i < b → ns[i]? = some n → ∀ k ∈ kidsN n, 0 ≤ k ∧ k < (b : Int) ∧ (k ≤ (i : Int) → namedK (kindAt ns k.toNat) = true)) ∧ (∀ i : Nat, a < i → i < b → ∃ (j : Nat) (n : NT), a ≤ j ∧ j < i ∧ ns[j]? = some n ∧ (i : Int) ∈ kidsN n)
def Met (ns : List NT) (a : Nat) (done : List Int) (b : Nat) : Prop :=
  a < b ∧ (∀ k ∈ done, 0 ≤ k ∧ k < (b : Int) ∧ (k ≤ (a : Int) → namedK (kindAt ns k.toNat) = true)) ∧ (∀ (i : Nat) (n : NT), a < i → i < b → ns[i]? = some n → ∀ k ∈ kidsN n, 0 ≤ k ∧ k < (b : Int) ∧ (k ≤ (i : Int) → namedK (kindAt ns k.toNat) = true))
    ∧ (∀ i : Nat, a < i → i < b → (i : Int) ∈ done ∨ ∃ (j : Nat) (n : NT), a < j ∧ j < i ∧ ns[j]? = some n ∧ (i : Int) ∈ kidsN n)
theorem walkK_met (ns : List NT) (f : Nat → Bool × Nat) (hf : ∀ p q, f p = (true, q) → p < q ∧ Stand ns p q) (a : Nat) : ∀ (ks : List Int) (done : List Int) (p q : Nat), Met ns a done p → walkK ns f ks p = (true, q) → Met ns a (done ++ ks) q
  | [], done, p, q, h, hw => by
    rw [walkK] at hw
    obtain rfl : p = q := (Prod.mk.inj hw).2
    rwa [List.append_nil]
  | k :: ks, done, p, q, h, hw => by
    rw [walkK] at hw
    obtain ⟨h0, h1, h2, h3⟩ := h
    have hc : done ++ k :: ks = (done ++ [k]) ++ ks := by simp
    rw [hc]
    split at hw
    · rename_i hk
      split at hw
      · rename_i hb
        obtain ⟨hlt, hs⟩ := hf p (f p).2 (by rw [← hb])
        refine walkK_met ns f hf a ks (done ++ [k]) (f p).2 q ⟨by omega, ?_, ?_, ?_⟩ hw
        · intro k' hk'
          rcases List.mem_append.1 hk' with h | h
          · have := h1 k' h
            exact ⟨this.1, by omega, this.2.2⟩
          · obtain rfl := List.mem_singleton.1 h
            exact ⟨by omega, by omega, fun h => by omega⟩
        · intro i n hi1 hi2 hn k' hk'
          by_cases hip : i < p
          · have := h2 i n hi1 hip hn k' hk'
            exact ⟨this.1, by omega, this.2.2⟩
          · exact hs.1 i n (by omega) hi2 hn k' hk'
        · intro i hi1 hi2
          by_cases hip : i < p
          · rcases h3 i hi1 hip with h | h
            · exact .inl (List.mem_append.2 (.inl h))
            · exact .inr h
          · by_cases hie : i = p
            · exact .inl (List.mem_append.2 (.inr (by rw [hie, hk]; simp)))
            · obtain ⟨j, n, hj1, hj2, hn, hm⟩ := hs.2 i (by omega) hi2
              exact .inr ⟨j, n, by omega, hj2, hn, hm⟩
      · simp at hw
    · rename_i hk
      split at hw
      · simp at hw
      · rename_i hc2
        refine walkK_met ns f hf a ks (done ++ [k]) p q ⟨h0, ?_, h2, ?_⟩ hw
        · intro k' hk'
          rcases List.mem_append.1 hk' with h | h
          · exact h1 k' h
          · obtain rfl := List.mem_singleton.1 h
            have hnn : namedK (kindAt ns k'.toNat) = true := by
              cases hb : namedK (kindAt ns k'.toNat) with
              | true => rfl
              | false => exact absurd (.inr (.inr hb)) hc2
            have : ¬ (k' < 0) := fun h => hc2 (.inl h)
            have : ¬ (k' > (p : Int)) := fun h => hc2 (.inr (.inl h))
            exact ⟨by omega, by omega, fun _ => hnn⟩
        · intro i hi1 hi2
          rcases h3 i hi1 hi2 with h | h
          · exact .inl (List.mem_append.2 (.inl h))
          · exact .inr h
theorem walkM_stand (ns : List NT) : ∀ (d p q : Nat), walkM ns d p = (true, q) → p < q ∧ Stand ns p q
  | 0, p, q, h => by simp [walkM] at h
  | d + 1, p, q, h => by
    rw [walkM] at h
    split at h
    · simp at h
    · rename_i n hn
      have hm := walkK_met ns _ (walkM_stand ns d) p (kidsN n) [] (p + 1) q ⟨by omega, by simp, fun i n h1 h2 => by omega, fun i h1 h2 => by omega⟩ h
      rw [List.nil_append] at hm
      obtain ⟨h0, h1, h2, h3⟩ := hm
      refine ⟨h0, ?_, ?_⟩
      · intro i n' hi1 hi2 hn' k hk
        by_cases hi : i = p
        · subst hi
          rw [hn] at hn'
          obtain rfl := Option.some.inj hn'
          exact h1 k hk
        · exact h2 i n' (by omega) hi2 hn' k hk
      · intro i hi1 hi2
        rcases h3 i hi1 hi2 with h | ⟨j, n', hj1, hj2, hn', hm⟩
        · exact ⟨p, n, by omega, hi1, hn, h⟩
        · exact ⟨j, n', by omega, hj2, hn', hm⟩
theorem ordered_stand {s : ST} (h : orderedM s = true) : Stand s.nodes 0 s.nodes.length := by
  unfold orderedM at h
  simp only [Bool.and_eq_true, decide_eq_true_eq] at h
  obtain ⟨_, _, _, h1, h2⟩ := h
  exact (walkM_stand s.nodes 33 0 _ (by rw [← h1, ← h2])).2
section

def byteAt (l : List UInt8) (i : Nat) : UInt8 := l[i]?.getD 0
def ufirst (c : UInt8) : Nat := if c.toNat < 128 then 1 else if c.toNat < 194 then 0 else if c.toNat < 224 then 2 else if c.toNat < 240 then 3 else if c.toNat < 245 then 4 else 0
def ulo (a : UInt8) : Nat := if a.toNat = 224 then 160 else if a.toNat = 240 then 144 else 128
def uhi (a : UInt8) : Nat := if a.toNat = 237 then 159 else if a.toNat = 244 then 143 else 191
def usec (a b : UInt8) : Bool := decide (ulo a ≤ b.toNat ∧ b.toNat ≤ uhi a)
def ucont (b : UInt8) : Bool := decide (128 ≤ b.toNat ∧ b.toNat < 192)
def ustep (l : List UInt8) (p i : Nat) : Nat := if p + i < l.length then (if ucont (byteAt l (p + i)) = true ∧ (i = 1 → usec (byteAt l p) (byteAt l (p + i)) = true) then 0 else 11) else 10
def ustat (l : List UInt8) (p : Nat) : Nat → Nat
  | 0 => 0
  | k + 1 => if ustat l p k = 0 then ustep l p (k + 1) else ustat l p k
def uerr (l : List UInt8) (p : Nat) : Nat := if p < l.length then (if ufirst (byteAt l p) = 0 then 11 else ustat l p (ufirst (byteAt l p) - 1)) else 10
def ulen (l : List UInt8) (p : Nat) : Nat := ufirst (byteAt l p)
def ufv (c : UInt8) : Nat := if c.toNat < 128 then c.toNat else if c.toNat < 194 then 0 else if c.toNat < 224 then c.toNat % 32 else if c.toNat < 240 then c.toNat % 16 else if c.toNat < 245 then c.toNat % 8 else 0
def uval (l : List UInt8) (p : Nat) : Nat → Nat
  | 0 => ufv (byteAt l p)
  | k + 1 => uval l p k * 64 + (byteAt l (p + (k + 1))).toNat % 64
theorem ustat_mono {l : List UInt8} {p k : Nat} (h : ustat l p k ≠ 0) : ∀ j, ustat l p (k + j) = ustat l p k := by
  intro j
  induction j with
  | zero => rfl
  | succ j ih => rw [show k + (j + 1) = (k + j) + 1 from by omega]; simp only [ustat]; rw [ih, if_neg h]
theorem ustat_bad {l : List UInt8} {p i n : Nat} (hi : 1 ≤ i) (hin : i < n) (h0 : ustat l p (i - 1) = 0) (h : ustep l p i ≠ 0) : ustat l p (n - 1) = ustep l p i := by
  have h1 : ustat l p i = ustep l p i := by
    cases i with
    | zero => omega
    | succ i => simp only [ustat]; rw [if_pos (by simpa using h0)]
  have := ustat_mono (l := l) (p := p) (k := i) (by rw [h1]; exact h) (n - 1 - i)
  rw [h1] at this
  rwa [show i + (n - 1 - i) = n - 1 from by omega] at this
theorem ustat_next {l : List UInt8} {p k : Nat} (h0 : ustat l p k = 0) (h : ustep l p (k + 1) = 0) : ustat l p (k + 1) = 0 := by
  simp only [ustat]; rw [if_pos h0, h]
variable {l : List UInt8} {p : Nat}
theorem ulen_bound (h : uerr l p = 0) : 0 < ulen l p ∧ p + ulen l p ≤ l.length := by
  unfold uerr at h
  split at h
  · rename_i hp
    split at h
    · simp at h
    · rename_i hf
      refine ⟨by unfold ulen; omega, ?_⟩
      unfold ulen
      have key : ∀ k, ustat l p k = 0 → p + k < l.length := by
        intro k
        induction k with
        | zero => intro _; omega
        | succ k ih =>
          intro hk
          simp only [ustat] at hk
          split at hk
          · unfold ustep at hk
            split at hk
            · omega
            · simp at hk
          · rename_i h1; exact absurd hk h1
      have := key _ h
      omega
  · simp at h
def uCnt (l : List UInt8) (p k : Nat) : Nat × Nat :=
  if h : p < l.length then (if h2 : uerr l p = 0 ∧ 0 < ulen l p then uCnt l (p + ulen l p) (k + 1) else (0, 11)) else (k, 0)
termination_by l.length - p
theorem uCnt_end {l : List UInt8} {p k : Nat} (h : ¬ p < l.length) : uCnt l p k = (k, 0) := by rw [uCnt, dif_neg h]
theorem uCnt_bad {l : List UInt8} {p k : Nat} (h : p < l.length) (h2 : uerr l p ≠ 0) : uCnt l p k = (0, 11) := by rw [uCnt, dif_pos h, dif_neg (fun x => h2 x.1)]
theorem uCnt_next {l : List UInt8} {p k : Nat} (h : p < l.length) (h2 : uerr l p = 0) : uCnt l p k = uCnt l (p + ulen l p) (k + 1) := by rw [uCnt, dif_pos h, dif_pos ⟨h2, (ulen_bound h2).1⟩]
def isRight (l : List UInt8) : Bool := decide ((uCnt l 0 0).2 = 0)
end

inductive VT where
  | mk (k : Int) (n : Int) (b : Int) (s : List UInt8) (xs : List VT) (ks : List (List UInt8))
mutual
def VT.cells : VT → List PV
  | .mk k n b s xs ks => [.v (.int .i64 k), .v (.int .i64 n), .v (.int .u64 b), .sl 1 (bytePV s), .sl 6 (VT.cellsL xs), .sl 1 (ks.map sPV)]
def VT.cellsL : List VT → List (List PV)
  | [] => []
  | x :: xs => x.cells :: VT.cellsL xs
end
theorem vcellsL_map : ∀ (xs : List VT), VT.cellsL xs = xs.map VT.cells
  | [] => by simp [VT.cellsL]
  | x :: xs => by simp [VT.cellsL, vcellsL_map xs]
def VT.av (v : VT) : AV := .agg (v.cells.map .c)
theorem VT.av_eq (v : VT) : v.av = .agg (v.cells.map .c) := rfl
theorem vcells_mk (k n b : Int) (s : List UInt8) (xs : List VT) (ks : List (List UInt8)) : (VT.mk k n b s xs ks).cells = [.v (.int .i64 k), .v (.int .i64 n), .v (.int .u64 b), .sl 1 (bytePV s), .sl 6 (xs.map VT.cells), .sl 1 (ks.map sPV)] := by simp [VT.cells, vcellsL_map]
theorem len_vcells (v : VT) : v.cells.length = 6 := by cases v; simp [VT.cells]
theorem take_vcells (v : VT) : v.cells.take 6 = v.cells := List.take_of_length_le (by rw [len_vcells]; exact Nat.le_refl _)
theorem take_vcellsC (v : VT) : (v.cells.map AV.c).take 6 = v.cells.map .c := List.take_of_length_le (by rw [List.length_map, len_vcells]; exact Nat.le_refl _)
theorem bytePV_len (l : List UInt8) : (bytePV l).length = l.length := by simp [bytePV]
mutual
def VT.sm (N : Nat) : VT → Prop
  | .mk k n b s xs ks => (0 ≤ b ∧ b < 18446744073709551616) ∧ s.length ≤ N ∧ ks.length ≤ N ∧ (∀ y ∈ ks, y.length ≤ N) ∧ xs.length ≤ N ∧ VT.smL N xs
def VT.smL (N : Nat) : List VT → Prop
  | [] => True
  | x :: xs => x.sm N ∧ VT.smL N xs
end
theorem vsmL_mem {N : Nat} : ∀ {xs : List VT}, VT.smL N xs → ∀ x ∈ xs, x.sm N
  | x :: xs, h, y, hy => by
    rcases List.mem_cons.1 hy with rfl | hy
    · exact h.1
    · exact vsmL_mem h.2 y hy
mutual
theorem vsm_le {N M : Nat} (h : N ≤ M) : ∀ v : VT, v.sm N → v.sm M
  | .mk k n b s xs ks => fun ⟨h0, h1, h2, h3, h4, h5⟩ => ⟨h0, by omega, by omega, fun y hy => Nat.le_trans (h3 y hy) h, by omega, vsmL_le h xs h5⟩
theorem vsmL_le {N M : Nat} (h : N ≤ M) : ∀ xs : List VT, VT.smL N xs → VT.smL M xs
  | [] => fun _ => trivial
  | x :: xs => fun ⟨h1, h2⟩ => ⟨vsm_le h x h1, vsmL_le h xs h2⟩
end
mutual
def VT.inr : VT → Prop
  | .mk k n b s xs ks => (0 ≤ b ∧ b < 18446744073709551616) ∧ VT.inrL xs
def VT.inrL : List VT → Prop
  | [] => True
  | x :: xs => x.inr ∧ VT.inrL xs
end
/-! Which values are ones of a node. -/
def VT.kind : VT → Int | .mk k _ _ _ _ _ => k
def VT.int : VT → Int | .mk _ n _ _ _ _ => n
def VT.items : VT → List VT | .mk _ _ _ _ xs _ => xs
def vbare (k n b : Int) (s : List UInt8) (m : Nat) (ks : List (List UInt8)) : Bool :=
  ((k == 2 || k == 3 || k == 4 || k == 10 || k == 13) || n == 0) && (((k == 5 || k == 6) || b == 0) && (((k == 7 || k == 8 || k == 14) || s.isEmpty) && (((k == 9 || k == 11 || k == 12 || k == 13) || m == 0) && (k == 12 || ks.isEmpty))))
def keyM (y : List UInt8) : Bool := decide (y.length ≤ 20000) && isRight y
def headM (nd : NT) (k n b : Int) (s : List UInt8) (m : Nat) (ks : List (List UInt8)) : Bool :=
  (k == nd.kind && (vbare k n b s m ks && decide (s.length ≤ 20000))) && (
    if k = 2 then n == 0 || n == 1 else if k = 3 then decide (-2147483648 ≤ n) && decide (n ≤ 2147483647) else if k = 5 then decide (b < 4294967296) else if k = 8 then isRight s
    else if k = 14 then (s.length : Int) == nd.size else if k = 10 then decide (0 ≤ n) && decide (n < (nd.symbols.length : Int)) else if k = 9 then m == nd.fields.length && decide (m ≤ 300)
    else if k = 12 then (ks.length == m && ks.all keyM) && decide (m ≤ 300) else if k = 11 then decide (m ≤ 300) else if k = 13 then decide (0 ≤ n) && (decide (n < (nd.branches.length : Int)) && m == 1) else true)
def typeAt (nd : NT) (i : Nat) : Int := match nd.fields[i]? with | some f => f.type | none => -1
def branchAt (nd : NT) (i : Int) : Int := match nd.branches[i.toNat]? with | some k => k | none => -1
def itemAt (nd : NT) (n : Int) (i : Nat) : Int := if nd.kind = 9 then typeAt nd i else if nd.kind = 13 then branchAt nd n else nd.items
mutual
def isM (ns : List NT) : Int → VT → Bool
  | a, .mk k n b s xs ks => match ns[a.toNat]? with | none => false | some nd => headM nd k n b s xs.length ks && eachM ns (itemAt nd n) xs
def eachM (ns : List NT) : (Nat → Int) → List VT → Bool
  | _, [] => true
  | f, x :: xs => isM ns (f 0) x && eachM ns (fun i => f (i + 1)) xs
end
theorem eachM_iff (ns : List NT) : ∀ (f : Nat → Int) (xs : List VT), eachM ns f xs = true ↔ ∀ (i : Nat) (x : VT), xs[i]? = some x → isM ns (f i) x = true
  | f, [] => by simp [eachM]
  | f, x :: xs => by
    rw [eachM, Bool.and_eq_true, eachM_iff ns _ xs]
    constructor
    · rintro ⟨h1, h2⟩ i y hy
      match i with
      | 0 => obtain rfl := Option.some.inj hy; exact h1
      | i + 1 => exact h2 i y hy
    · intro h
      exact ⟨h 0 x rfl, fun i y hy => h (i + 1) y hy⟩
theorem eachM_false {ns : List NT} {f : Nat → Int} {xs : List VT} {i : Nat} {x : VT} (h : xs[i]? = some x) (hx : isM ns (f i) x = false) : eachM ns f xs = false := by
  cases he : eachM ns f xs with
  | false => rfl
  | true =>
    have := (eachM_iff ns f xs).1 he i x h
    rw [hx] at this
    simp at this
theorem isM_eq {ns : List NT} {a : Int} {nd : NT} (h : ns[a.toNat]? = some nd) (k n b : Int) (s : List UInt8) (xs : List VT) (ks : List (List UInt8)) : isM ns a (.mk k n b s xs ks) = (headM nd k n b s xs.length ks && eachM ns (itemAt nd n) xs) := by rw [isM, h]
noncomputable def conM (s : ST) (a : Int) (v : VT) (right : Bool) : Bool := decide (0 ≤ a) && (decide (a < (s.nodes.length : Int)) && (right && isM s.nodes a v))
mutual
def vdeep : VT → Nat
  | .mk k n b s xs ks => if k = 9 ∨ k = 11 ∨ k = 12 ∨ k = 13 then vdeeps 1 xs else 0
def vdeeps : Nat → List VT → Nat
  | n, [] => n
  | n, x :: xs => vdeeps (max n (1 + vdeep x)) xs
end
theorem vdeeps_snoc : ∀ (xs : List VT) (x : VT) (n : Nat), vdeeps n (xs ++ [x]) = max (vdeeps n xs) (1 + vdeep x)
  | [], x, n => by simp [vdeeps]
  | y :: xs, x, n => by simp only [List.cons_append, vdeeps]; exact vdeeps_snoc xs x _
theorem vdeeps_le : ∀ (xs : List VT) (n : Nat), n ≤ vdeeps n xs ∧ ∀ x ∈ xs, vdeep x + 1 ≤ vdeeps n xs
  | [], n => ⟨Nat.le_refl _, by simp⟩
  | y :: xs, n => by
    obtain ⟨h1, h2⟩ := vdeeps_le xs (max n (1 + vdeep y))
    simp only [vdeeps]
    refine ⟨by omega, fun x hx => ?_⟩
    rcases List.mem_cons.1 hx with rfl | hx
    · omega
    · exact h2 x hx
section
attribute [local go_sem] opx opE ev okx gcond bnd okO AV.get AV.okb cAV upd_at putd_some putd_none wrs_nil wrs_cons look_nil look_cons st argT_at bpick_and bpick_or bpick_true bpick_false binV binI binS binVOk binOk isShift binSOk unV unVOk loadV loadP cellsA zeroA Blkd.len setE grown moreA moreR moreOk eqRes pv fillA fillE putSeg AV.cellish AV.pureL AV.pureB lentL_is ex_some AV.ren AV.renL renL_c Blkd.ren rho wrM renN lentOk rhoE keepM endOk tyA_2 tyA_3 tyA_4 tyA_5 tyA_6 tyA_7 tyA_8 tyA_9 tyA_10 tyA_11 tyA_12 tyA_13 tyA_14 tyA_15 tyA_16 tyA_17 tyA_18 tyA_19 tyA_21 tyA_22 tyA_23 tyA_24 tyA_29 tyA_30 tyA_31 tyA_32 tyA_33 tyA_34 tyA_35 tyA_36 tyA_37 tyA_38 tyA_39 tyA_40 tyA_41 tyA_42 tyA_43 tyA_48 tyA_89 tyA_93 tyA_107 tyA_108 tyA_109 tyA_113 tyA_114 tyA_115 tyA_116 tyA_117 tyA_119 tyA_120 tyA_121 tyA_122 tyA_131 tyA_134 tyA_135 tyA_136 tyA_137 tyA_138 tyA_154 tyA_156 tyA_157 tyA_158 tyA_159 tyA_170 tyA_180 tyA_181 tyA_182 tyA_196 tyA_202 tyA_208 tyA_209 tyA_210 tyA_211 tyA_212 tyA_213 tyA_229 tyA_230 tyA_231 tyA_241 tyA_264 tyA_268 tyA_293 tyA_294 tyA_295 tyA_311 tyA_313 tyA_321 tyA_326 tyA_334 tyA_338 tyA_340 tyA_343 tyA_344 tyA_345 tyA_346 tyA_347 tyA_348 tyA_349 tyA_351 tyA_352 Option.map_some Option.map_none Option.getD_some Option.getD_none Option.bind_some Option.bind_none List.getElem?_cons_zero List.getElem?_cons_succ List.getElem?_nil List.getElem?_toArray List.length_cons List.length_nil List.length_map List.forall_mem_map List.map_cons List.map_nil List.drop_zero List.drop_succ_cons List.drop_nil List.take_zero List.take_succ_cons List.take_nil List.mem_cons List.not_mem_nil or_false forall_eq_or_imp forall_eq List.set_cons_zero List.set_cons_succ List.cons_append List.nil_append List.append_nil List.foldl_cons List.foldl_nil List.replicate_succ List.replicate_zero List.all_cons List.all_nil if_true if_false Bool.false_eq_true ne_eq not_false_eq_true not_true_eq_false true_and and_true and_self true_implies imp_self implies_true forall_const beq_self_eq_true Bool.and_true Bool.true_and Bool.and_false Bool.false_and Bool.or_true Bool.true_or Bool.or_false Bool.false_or Bool.not_true Bool.not_false Bool.not_eq_eq_eq_not intKindOf Value.oneCell' Int.toNat_natCast beq_true beq_false Bool.not_eq_true false_implies false_or true_or or_true Nat.zero_add Nat.add_zero decide_true decide_false Int.cast_ofNat_Int Int.toNat_zero Int.toNat_one eq_self

set_option maxRecDepth 100000 in
set_option maxHeartbeats 400000 in
theorem ufirst_told0 {x : UInt8} (h0 : x.toNat < 128) : ∃ c : Int, Told Tryz.prog 285 [.c (.v (.int .u8 (x.toNat : Int)))] (.tup [.c (.v (.int .i64 (ufirst x : Int))), .c (.v (.int .i32 c))]) := by
  have e0 : ((x.toNat : Int) < 128) = True := by simp; omega
  have hu : ufirst x = 1 := by unfold ufirst; repeat' split <;> try omega
  rw [hu]
  apply Exists.intro
  case h =>
  refine VC.told ent_285 Tryz.func285 rfl Tryz.ntmps285 (by simp) (by rfl) (by rfl) fun hb => ?_
  clear hb
  refine walkGF (e0) ?_
  refine VC.condT (by rfl) (by trivial) ?_
  refine walkG ?_
  refine ⟨.inr rfl, ?_⟩
  rw [Tryz.results285]
  simp only [resOk, resV, go_sem, Int.reduceBEq, Int.reduceLE, Int.reduceLT, Int.reduceNeg, Nat.reduceAdd, Nat.reduceEqDiff, Nat.reduceLT, Nat.reduceLeDiff, Nat.reduceMul, Nat.reduceSub, reduceCtorEq, ↓reduceIte]
  exact ⟨.c _, .c _⟩
set_option maxRecDepth 100000 in
set_option maxHeartbeats 400000 in
theorem ufirst_told1 {x : UInt8} (h0 : ¬ x.toNat < 128) (h1 : x.toNat < 194) : ∃ c : Int, Told Tryz.prog 285 [.c (.v (.int .u8 (x.toNat : Int)))] (.tup [.c (.v (.int .i64 (ufirst x : Int))), .c (.v (.int .i32 c))]) := by
  have e0 : ((x.toNat : Int) < 128) = False := by simp; omega
  have e1 : ((x.toNat : Int) < 194) = True := by simp; omega
  have hu : ufirst x = 0 := by unfold ufirst; repeat' split <;> try omega
  rw [hu]
  apply Exists.intro
  case h =>
  refine VC.told ent_285 Tryz.func285 rfl Tryz.ntmps285 (by simp) (by rfl) (by rfl) fun hb => ?_
  clear hb
  refine walkGF (e0) ?_
  refine VC.condF (by rfl) (by trivial) ?_
  refine walkGF (e1) ?_
  refine VC.condT (by rfl) (by trivial) ?_
  refine walkG ?_
  refine ⟨.inr rfl, ?_⟩
  rw [Tryz.results285]
  simp only [resOk, resV, go_sem, Int.reduceBEq, Int.reduceLE, Int.reduceLT, Int.reduceNeg, Nat.reduceAdd, Nat.reduceEqDiff, Nat.reduceLT, Nat.reduceLeDiff, Nat.reduceMul, Nat.reduceSub, reduceCtorEq, ↓reduceIte]
  exact ⟨.c _, .c _⟩
set_option maxRecDepth 100000 in
set_option maxHeartbeats 400000 in
theorem ufirst_told2 {x : UInt8} (h0 : ¬ x.toNat < 128) (h1 : ¬ x.toNat < 194) (h2 : x.toNat < 224) : ∃ c : Int, Told Tryz.prog 285 [.c (.v (.int .u8 (x.toNat : Int)))] (.tup [.c (.v (.int .i64 (ufirst x : Int))), .c (.v (.int .i32 c))]) := by
  have e0 : ((x.toNat : Int) < 128) = False := by simp; omega
  have e1 : ((x.toNat : Int) < 194) = False := by simp; omega
  have e2 : ((x.toNat : Int) < 224) = True := by simp; omega
  have hu : ufirst x = 2 := by unfold ufirst; repeat' split <;> try omega
  rw [hu]
  apply Exists.intro
  case h =>
  refine VC.told ent_285 Tryz.func285 rfl Tryz.ntmps285 (by simp) (by rfl) (by rfl) fun hb => ?_
  clear hb
  refine walkGF (e0) ?_
  refine VC.condF (by rfl) (by trivial) ?_
  refine walkGF (e1) ?_
  refine VC.condF (by rfl) (by trivial) ?_
  refine walkGF (e2) ?_
  refine VC.condT (by rfl) (by trivial) ?_
  refine walkG ?_
  refine ⟨.inr rfl, ?_⟩
  rw [Tryz.results285]
  simp only [resOk, resV, go_sem, Int.reduceBEq, Int.reduceLE, Int.reduceLT, Int.reduceNeg, Nat.reduceAdd, Nat.reduceEqDiff, Nat.reduceLT, Nat.reduceLeDiff, Nat.reduceMul, Nat.reduceSub, reduceCtorEq, ↓reduceIte]
  exact ⟨.c _, .c _⟩
set_option maxRecDepth 100000 in
set_option maxHeartbeats 400000 in
theorem ufirst_told3 {x : UInt8} (h0 : ¬ x.toNat < 128) (h1 : ¬ x.toNat < 194) (h2 : ¬ x.toNat < 224) (h3 : x.toNat < 240) : ∃ c : Int, Told Tryz.prog 285 [.c (.v (.int .u8 (x.toNat : Int)))] (.tup [.c (.v (.int .i64 (ufirst x : Int))), .c (.v (.int .i32 c))]) := by
  have e0 : ((x.toNat : Int) < 128) = False := by simp; omega
  have e1 : ((x.toNat : Int) < 194) = False := by simp; omega
  have e2 : ((x.toNat : Int) < 224) = False := by simp; omega
  have e3 : ((x.toNat : Int) < 240) = True := by simp; omega
  have hu : ufirst x = 3 := by unfold ufirst; repeat' split <;> try omega
  rw [hu]
  apply Exists.intro
  case h =>
  refine VC.told ent_285 Tryz.func285 rfl Tryz.ntmps285 (by simp) (by rfl) (by rfl) fun hb => ?_
  clear hb
  refine walkGF (e0) ?_
  refine VC.condF (by rfl) (by trivial) ?_
  refine walkGF (e1) ?_
  refine VC.condF (by rfl) (by trivial) ?_
  refine walkGF (e2) ?_
  refine VC.condF (by rfl) (by trivial) ?_
  refine walkGF (e3) ?_
  refine VC.condT (by rfl) (by trivial) ?_
  refine walkG ?_
  refine ⟨.inr rfl, ?_⟩
  rw [Tryz.results285]
  simp only [resOk, resV, go_sem, Int.reduceBEq, Int.reduceLE, Int.reduceLT, Int.reduceNeg, Nat.reduceAdd, Nat.reduceEqDiff, Nat.reduceLT, Nat.reduceLeDiff, Nat.reduceMul, Nat.reduceSub, reduceCtorEq, ↓reduceIte]
  exact ⟨.c _, .c _⟩
set_option maxRecDepth 100000 in
set_option maxHeartbeats 400000 in
theorem ufirst_told4 {x : UInt8} (h0 : ¬ x.toNat < 128) (h1 : ¬ x.toNat < 194) (h2 : ¬ x.toNat < 224) (h3 : ¬ x.toNat < 240) (h4 : x.toNat < 245) : ∃ c : Int, Told Tryz.prog 285 [.c (.v (.int .u8 (x.toNat : Int)))] (.tup [.c (.v (.int .i64 (ufirst x : Int))), .c (.v (.int .i32 c))]) := by
  have e0 : ((x.toNat : Int) < 128) = False := by simp; omega
  have e1 : ((x.toNat : Int) < 194) = False := by simp; omega
  have e2 : ((x.toNat : Int) < 224) = False := by simp; omega
  have e3 : ((x.toNat : Int) < 240) = False := by simp; omega
  have e4 : ((x.toNat : Int) < 245) = True := by simp; omega
  have hu : ufirst x = 4 := by unfold ufirst; repeat' split <;> try omega
  rw [hu]
  apply Exists.intro
  case h =>
  refine VC.told ent_285 Tryz.func285 rfl Tryz.ntmps285 (by simp) (by rfl) (by rfl) fun hb => ?_
  clear hb
  refine walkGF (e0) ?_
  refine VC.condF (by rfl) (by trivial) ?_
  refine walkGF (e1) ?_
  refine VC.condF (by rfl) (by trivial) ?_
  refine walkGF (e2) ?_
  refine VC.condF (by rfl) (by trivial) ?_
  refine walkGF (e3) ?_
  refine VC.condF (by rfl) (by trivial) ?_
  refine walkGF (e4) ?_
  refine VC.condT (by rfl) (by trivial) ?_
  refine walkG ?_
  refine ⟨.inr rfl, ?_⟩
  rw [Tryz.results285]
  simp only [resOk, resV, go_sem, Int.reduceBEq, Int.reduceLE, Int.reduceLT, Int.reduceNeg, Nat.reduceAdd, Nat.reduceEqDiff, Nat.reduceLT, Nat.reduceLeDiff, Nat.reduceMul, Nat.reduceSub, reduceCtorEq, ↓reduceIte]
  exact ⟨.c _, .c _⟩
set_option maxRecDepth 100000 in
set_option maxHeartbeats 400000 in
theorem ufirst_told5 {x : UInt8} (h0 : ¬ x.toNat < 128) (h1 : ¬ x.toNat < 194) (h2 : ¬ x.toNat < 224) (h3 : ¬ x.toNat < 240) (h4 : ¬ x.toNat < 245) : ∃ c : Int, Told Tryz.prog 285 [.c (.v (.int .u8 (x.toNat : Int)))] (.tup [.c (.v (.int .i64 (ufirst x : Int))), .c (.v (.int .i32 c))]) := by
  have e0 : ((x.toNat : Int) < 128) = False := by simp; omega
  have e1 : ((x.toNat : Int) < 194) = False := by simp; omega
  have e2 : ((x.toNat : Int) < 224) = False := by simp; omega
  have e3 : ((x.toNat : Int) < 240) = False := by simp; omega
  have e4 : ((x.toNat : Int) < 245) = False := by simp; omega
  have hu : ufirst x = 0 := by unfold ufirst; repeat' split <;> try omega
  rw [hu]
  apply Exists.intro
  case h =>
  refine VC.told ent_285 Tryz.func285 rfl Tryz.ntmps285 (by simp) (by rfl) (by rfl) fun hb => ?_
  clear hb
  refine walkGF (e0) ?_
  refine VC.condF (by rfl) (by trivial) ?_
  refine walkGF (e1) ?_
  refine VC.condF (by rfl) (by trivial) ?_
  refine walkGF (e2) ?_
  refine VC.condF (by rfl) (by trivial) ?_
  refine walkGF (e3) ?_
  refine VC.condF (by rfl) (by trivial) ?_
  refine walkGF (e4) ?_
  refine VC.condF (by rfl) (by trivial) ?_
  refine walkG ?_
  refine ⟨.inr rfl, ?_⟩
  rw [Tryz.results285]
  simp only [resOk, resV, go_sem, Int.reduceBEq, Int.reduceLE, Int.reduceLT, Int.reduceNeg, Nat.reduceAdd, Nat.reduceEqDiff, Nat.reduceLT, Nat.reduceLeDiff, Nat.reduceMul, Nat.reduceSub, reduceCtorEq, ↓reduceIte]
  exact ⟨.c _, .c _⟩
theorem ufirst_told (x : UInt8) : ∃ c : Int, Told Tryz.prog 285 [.c (.v (.int .u8 (x.toNat : Int)))] (.tup [.c (.v (.int .i64 (ufirst x : Int))), .c (.v (.int .i32 c))]) := by
  by_cases h0 : x.toNat < 128
  · exact ufirst_told0 h0
  by_cases h1 : x.toNat < 194
  · exact ufirst_told1 h0 h1
  by_cases h2 : x.toNat < 224
  · exact ufirst_told2 h0 h1 h2
  by_cases h3 : x.toNat < 240
  · exact ufirst_told3 h0 h1 h2 h3
  by_cases h4 : x.toNat < 245
  · exact ufirst_told4 h0 h1 h2 h3 h4
  · exact ufirst_told5 h0 h1 h2 h3 h4

set_option maxRecDepth 100000 in
set_option maxHeartbeats 400000 in
theorem usec_told0 {x y : UInt8} (h0 : x.toNat = 224) : Told Tryz.prog 286 [.c (.v (.int .u8 (x.toNat : Int))), .c (.v (.int .u8 (y.toNat : Int)))] (.c (.v (.bool (usec x y)))) := by
  have e0 : ((x.toNat : Int) == 224) = true := by simp; omega
  have hu : usec x y = decide (160 ≤ y.toNat ∧ y.toNat ≤ 191) := by
    unfold usec ulo uhi
    congr 1
    repeat' split
    all_goals first | rfl | omega
  rw [hu]
  refine VC.told ent_286 Tryz.func286 rfl Tryz.ntmps286 (by simp) (by rfl) (by rfl) fun hb => ?_
  clear hb
  refine walkGF (e0) ?_
  refine VC.condT (by rfl) (by trivial) ?_
  refine walkG ?_
  refine ⟨.inr rfl, ?_⟩
  rw [Tryz.results286]
  simp only [resOk, resV, go_sem, Int.reduceBEq, Int.reduceLE, Int.reduceLT, Int.reduceNeg, Nat.reduceAdd, Nat.reduceEqDiff, Nat.reduceLT, Nat.reduceLeDiff, Nat.reduceMul, Nat.reduceSub, reduceCtorEq, ↓reduceIte]
  refine frz_c ?_
  congr 2
  rw [Bool.eq_iff_iff]
  simp
  omega
set_option maxRecDepth 100000 in
set_option maxHeartbeats 400000 in
theorem usec_told1 {x y : UInt8} (h0 : x.toNat ≠ 224) (h1 : x.toNat = 237) : Told Tryz.prog 286 [.c (.v (.int .u8 (x.toNat : Int))), .c (.v (.int .u8 (y.toNat : Int)))] (.c (.v (.bool (usec x y)))) := by
  have e0 : ((x.toNat : Int) == 224) = false := by simp; omega
  have e1 : ((x.toNat : Int) == 237) = true := by simp; omega
  have hu : usec x y = decide (128 ≤ y.toNat ∧ y.toNat ≤ 159) := by
    unfold usec ulo uhi
    congr 1
    repeat' split
    all_goals first | rfl | omega
  rw [hu]
  refine VC.told ent_286 Tryz.func286 rfl Tryz.ntmps286 (by simp) (by rfl) (by rfl) fun hb => ?_
  clear hb
  refine walkGF (e0) ?_
  refine VC.condF (by rfl) (by trivial) ?_
  refine walkGF (e1) ?_
  refine VC.condT (by rfl) (by trivial) ?_
  refine walkG ?_
  refine ⟨.inr rfl, ?_⟩
  rw [Tryz.results286]
  simp only [resOk, resV, go_sem, Int.reduceBEq, Int.reduceLE, Int.reduceLT, Int.reduceNeg, Nat.reduceAdd, Nat.reduceEqDiff, Nat.reduceLT, Nat.reduceLeDiff, Nat.reduceMul, Nat.reduceSub, reduceCtorEq, ↓reduceIte]
  refine frz_c ?_
  congr 2
  rw [Bool.eq_iff_iff]
  simp
  omega
set_option maxRecDepth 100000 in
set_option maxHeartbeats 400000 in
theorem usec_told2 {x y : UInt8} (h0 : x.toNat ≠ 224) (h1 : x.toNat ≠ 237) (h2 : x.toNat = 240) : Told Tryz.prog 286 [.c (.v (.int .u8 (x.toNat : Int))), .c (.v (.int .u8 (y.toNat : Int)))] (.c (.v (.bool (usec x y)))) := by
  have e0 : ((x.toNat : Int) == 224) = false := by simp; omega
  have e1 : ((x.toNat : Int) == 237) = false := by simp; omega
  have e2 : ((x.toNat : Int) == 240) = true := by simp; omega
  have hu : usec x y = decide (144 ≤ y.toNat ∧ y.toNat ≤ 191) := by
    unfold usec ulo uhi
    congr 1
    repeat' split
    all_goals first | rfl | omega
  rw [hu]
  refine VC.told ent_286 Tryz.func286 rfl Tryz.ntmps286 (by simp) (by rfl) (by rfl) fun hb => ?_
  clear hb
  refine walkGF (e0) ?_
  refine VC.condF (by rfl) (by trivial) ?_
  refine walkGF (e1) ?_
  refine VC.condF (by rfl) (by trivial) ?_
  refine walkGF (e2) ?_
  refine VC.condT (by rfl) (by trivial) ?_
  refine walkG ?_
  refine ⟨.inr rfl, ?_⟩
  rw [Tryz.results286]
  simp only [resOk, resV, go_sem, Int.reduceBEq, Int.reduceLE, Int.reduceLT, Int.reduceNeg, Nat.reduceAdd, Nat.reduceEqDiff, Nat.reduceLT, Nat.reduceLeDiff, Nat.reduceMul, Nat.reduceSub, reduceCtorEq, ↓reduceIte]
  refine frz_c ?_
  congr 2
  rw [Bool.eq_iff_iff]
  simp
  omega
set_option maxRecDepth 100000 in
set_option maxHeartbeats 400000 in
theorem usec_told3 {x y : UInt8} (h0 : x.toNat ≠ 224) (h1 : x.toNat ≠ 237) (h2 : x.toNat ≠ 240) (h3 : x.toNat = 244) : Told Tryz.prog 286 [.c (.v (.int .u8 (x.toNat : Int))), .c (.v (.int .u8 (y.toNat : Int)))] (.c (.v (.bool (usec x y)))) := by
  have e0 : ((x.toNat : Int) == 224) = false := by simp; omega
  have e1 : ((x.toNat : Int) == 237) = false := by simp; omega
  have e2 : ((x.toNat : Int) == 240) = false := by simp; omega
  have e3 : ((x.toNat : Int) == 244) = true := by simp; omega
  have hu : usec x y = decide (128 ≤ y.toNat ∧ y.toNat ≤ 143) := by
    unfold usec ulo uhi
    congr 1
    repeat' split
    all_goals first | rfl | omega
  rw [hu]
  refine VC.told ent_286 Tryz.func286 rfl Tryz.ntmps286 (by simp) (by rfl) (by rfl) fun hb => ?_
  clear hb
  refine walkGF (e0) ?_
  refine VC.condF (by rfl) (by trivial) ?_
  refine walkGF (e1) ?_
  refine VC.condF (by rfl) (by trivial) ?_
  refine walkGF (e2) ?_
  refine VC.condF (by rfl) (by trivial) ?_
  refine walkGF (e3) ?_
  refine VC.condT (by rfl) (by trivial) ?_
  refine walkG ?_
  refine ⟨.inr rfl, ?_⟩
  rw [Tryz.results286]
  simp only [resOk, resV, go_sem, Int.reduceBEq, Int.reduceLE, Int.reduceLT, Int.reduceNeg, Nat.reduceAdd, Nat.reduceEqDiff, Nat.reduceLT, Nat.reduceLeDiff, Nat.reduceMul, Nat.reduceSub, reduceCtorEq, ↓reduceIte]
  refine frz_c ?_
  congr 2
  rw [Bool.eq_iff_iff]
  simp
  omega
set_option maxRecDepth 100000 in
set_option maxHeartbeats 400000 in
theorem usec_told4 {x y : UInt8} (h0 : x.toNat ≠ 224) (h1 : x.toNat ≠ 237) (h2 : x.toNat ≠ 240) (h3 : x.toNat ≠ 244) : Told Tryz.prog 286 [.c (.v (.int .u8 (x.toNat : Int))), .c (.v (.int .u8 (y.toNat : Int)))] (.c (.v (.bool (usec x y)))) := by
  have e0 : ((x.toNat : Int) == 224) = false := by simp; omega
  have e1 : ((x.toNat : Int) == 237) = false := by simp; omega
  have e2 : ((x.toNat : Int) == 240) = false := by simp; omega
  have e3 : ((x.toNat : Int) == 244) = false := by simp; omega
  have hu : usec x y = decide (128 ≤ y.toNat ∧ y.toNat ≤ 191) := by
    unfold usec ulo uhi
    congr 1
    repeat' split
    all_goals first | rfl | omega
  rw [hu]
  refine VC.told ent_286 Tryz.func286 rfl Tryz.ntmps286 (by simp) (by rfl) (by rfl) fun hb => ?_
  clear hb
  refine walkGF (e0) ?_
  refine VC.condF (by rfl) (by trivial) ?_
  refine walkGF (e1) ?_
  refine VC.condF (by rfl) (by trivial) ?_
  refine walkGF (e2) ?_
  refine VC.condF (by rfl) (by trivial) ?_
  refine walkGF (e3) ?_
  refine VC.condF (by rfl) (by trivial) ?_
  refine walkG ?_
  refine ⟨.inr rfl, ?_⟩
  rw [Tryz.results286]
  simp only [resOk, resV, go_sem, Int.reduceBEq, Int.reduceLE, Int.reduceLT, Int.reduceNeg, Nat.reduceAdd, Nat.reduceEqDiff, Nat.reduceLT, Nat.reduceLeDiff, Nat.reduceMul, Nat.reduceSub, reduceCtorEq, ↓reduceIte]
  refine frz_c ?_
  congr 2
  rw [Bool.eq_iff_iff]
  simp
  omega
theorem usec_told (x y : UInt8) : Told Tryz.prog 286 [.c (.v (.int .u8 (x.toNat : Int))), .c (.v (.int .u8 (y.toNat : Int)))] (.c (.v (.bool (usec x y)))) := by
  by_cases h0 : x.toNat = 224
  · exact usec_told0 h0
  by_cases h1 : x.toNat = 237
  · exact usec_told1 h0 h1
  by_cases h2 : x.toNat = 240
  · exact usec_told2 h0 h1 h2
  by_cases h3 : x.toNat = 244
  · exact usec_told3 h0 h1 h2 h3
  · exact usec_told4 h0 h1 h2 h3

theorem cont_bits : ∀ x : Nat, x < 256 → ((IntKind.u8.wrap ((BitVec.ofInt IntKind.u8.bits ((x : Nat) : Int) &&& BitVec.ofInt IntKind.u8.bits 192).toNat : Int)) != 128) = !decide (128 ≤ x ∧ x < 192) := by decide +kernel
theorem cont_bit (x : UInt8) : ((IntKind.u8.wrap ((BitVec.ofInt IntKind.u8.bits (x.toNat : Int) &&& BitVec.ofInt IntKind.u8.bits 192).toNat : Int)) != 128) = !ucont x := cont_bits x.toNat x.toNat_lt
theorem pv_at {l : List UInt8} {i : Nat} (h : i < l.length) : (bytePV l)[i]? = some [.v (.int .u8 ((byteAt l i).toNat : Int))] := by
  unfold bytePV byteAt
  rw [List.getElem?_map, List.getElem?_eq_getElem h]
  rfl
def unext (l : List UInt8) (p : Nat) : Nat := if uerr l p = 0 then p + ulen l p else p
set_option maxRecDepth 100000 in
set_option maxHeartbeats 800000 in
theorem utake_told (l : List UInt8) (p : Nat) (hp : p ≤ l.length) (hbig : l.length ≤ 9223372036854775000) : Told Tryz.prog 257 [.c (.sl 1 (bytePV l)), .c (.v (.int .i64 (p : Int)))] (.tup [.any, .c (.v (.int .i64 (unext l p : Int))), .c (.v (.int .i64 (uerr l p : Int)))]) := by
  have hlen : (bytePV l).length = l.length := by simp [bytePV]
  refine VC.told ent_257 Tryz.func257 rfl Tryz.ntmps257 (by simp) (by rfl) (by rfl) fun hb => ?_
  clear hb
  have e1 : ((p : Int) < 0) = False := eq_false (by omega)
  have e2 : ((p : Int) > (l.length : Int)) = False := eq_false (by omega)
  refine walkGF (And.intro e1 (And.intro e2 hlen)) ?_
  refine VC.condF (by rfl) (by trivial) ?_
  refine walkGF (hlen) ?_
  refine VC.cond (by rfl) (by trivial) (fun hc => ?_) (fun hc => ?_)
  · have he : p = l.length := by simp at hc; omega
    have hu : uerr l p = 10 := by unfold uerr; rw [if_neg (by omega)]
    have hn : unext l p = p := by unfold unext; rw [if_neg (by omega)]
    rw [hu, hn]
    refine walkG ?_
    refine ⟨.inr rfl, ?_⟩
    rw [Tryz.results257]
    simp only [resOk, resV, go_sem, Int.reduceBEq, Int.reduceLE, Int.reduceLT, Int.reduceNeg, Nat.reduceAdd, Nat.reduceEqDiff, Nat.reduceLT, Nat.reduceLeDiff, Nat.reduceMul, Nat.reduceSub, reduceCtorEq, ↓reduceIte]
    exact ⟨.any _, .c _, .c _⟩
  have hlt : p < l.length := by simp at hc; omega
  clear hc
  obtain ⟨c0, hfirst⟩ := ufirst_told (byteAt l p)
  have hat := pv_at hlt
  refine walkGF (And.intro hlen hat) ?_
  (refine AO.step fun K hK => ?_; simp only [go_sem, Int.reduceBEq, Int.reduceLE, Int.reduceLT, Int.reduceNeg, Nat.reduceAdd, Nat.reduceEqDiff, Nat.reduceLT, Nat.reduceLeDiff, Nat.reduceMul, Nat.reduceSub, reduceCtorEq, ↓reduceIte, hat]; (first | refine gsel_go ?_ | skip))
  refine .inl ⟨_, hfirst, hK _ _ _ ?_⟩
  clear hK K hfirst
  refine walkG ?_
  refine VC.cond (by rfl) (by trivial) (fun hc => ?_) (fun hc => ?_)
  · have hf : ufirst (byteAt l p) = 0 := by simp at hc; omega
    have hu : uerr l p = 11 := by unfold uerr; rw [if_pos hlt, if_pos hf]
    have hn : unext l p = p := by unfold unext; rw [if_neg (by omega)]
    rw [hu, hn]
    refine walkG ?_
    refine ⟨.inr rfl, ?_⟩
    rw [Tryz.results257]
    simp only [resOk, resV, go_sem, Int.reduceBEq, Int.reduceLE, Int.reduceLT, Int.reduceNeg, Nat.reduceAdd, Nat.reduceEqDiff, Nat.reduceLT, Nat.reduceLeDiff, Nat.reduceMul, Nat.reduceSub, reduceCtorEq, ↓reduceIte]
    exact ⟨.any _, .c _, .c _⟩
  have hf : ufirst (byteAt l p) ≠ 0 := by simp at hc; omega
  clear hc
  have hue : uerr l p = ustat l p (ufirst (byteAt l p) - 1) := by unfold uerr; rw [if_pos hlt, if_neg hf]
  have hf4 : ufirst (byteAt l p) ≤ 4 := by unfold ufirst; repeat' split <;> try omega
  obtain ⟨n, hn⟩ : ∃ n, n = ufirst (byteAt l p) := ⟨_, rfl⟩
  have hul : ulen l p = n := hn.symm
  rw [← hn] at hf hf4 hue
  refine walkGF (hn.symm) ?_
  refine VC.loop (ι := {q : Nat × Int // 1 ≤ q.1 ∧ q.1 ≤ n ∧ ustat l p (q.1 - 1) = 0}) (fun q => [(0, .c (.sl 1 (bytePV l))), (1, .c (.v (.int .i64 (p : Int)))), (4, .c (.v (.int .i32 q.1.2))), (7, .c (.v (.int .i64 (n : Int)))), (8, .c (.v (.int .i64 (q.1.1 : Int))))])
    (fun _ => []) 0 (fun q => n - q.1.1) ⟨(1, c0), Nat.le_refl _, by simp only []; omega, rfl⟩ ?_ ?_
  · simp only [← hn, Weak, eq_self, used_is, sc_any, sc_c, sc_pp, sc_ref, sc_row, sc_agg, sc_fn, ScL, some_imp, List.forall_mem_map, go_sem, Int.reduceBEq, Int.reduceLE, Int.reduceLT, Int.reduceNeg, Nat.reduceAdd, Nat.reduceEqDiff, Nat.reduceLT, Nat.reduceLeDiff, Nat.reduceMul, Nat.reduceSub, reduceCtorEq, ↓reduceIte]
    all_goals first | rfl | exact cI (by omega)
  rintro ⟨⟨i, c⟩, hi1, hi2, hst⟩
  simp only [] at hi1 hi2 hst ⊢
  refine walkG ?_
  refine VC.cond (by rfl) (by trivial) (fun hc => ?_) (fun hc => ?_)
  · have hin : i < n := by simp at hc; omega
    clear hc
    have hw1 : IntKind.i64.wrap ((p : Int) + (i : Int)) = (p : Int) + (i : Int) := wrap64_id (by omega) (by omega)
    have hw2 : IntKind.i64.wrap ((i : Int) + 1) = (i : Int) + 1 := wrap64_id (by omega) (by omega)
    refine walkGF (And.intro hlen hw1) ?_
    refine VC.cond (by rfl) (by trivial) (fun hc => ?_) (fun hc => ?_)
    · have hpi : p + i = l.length := by simp at hc; omega
      have hsp : ustep l p i = 10 := by unfold ustep; rw [if_neg (by omega)]
      have hu : uerr l p = 10 := by rw [hue, ustat_bad hi1 hin hst (by omega), hsp]
      have hnx : unext l p = p := by unfold unext; rw [if_neg (by omega)]
      rw [hu, hnx]
      refine walkG ?_
      refine ⟨.inr rfl, ?_⟩
      rw [Tryz.results257]
      simp only [resOk, resV, go_sem, Int.reduceBEq, Int.reduceLE, Int.reduceLT, Int.reduceNeg, Nat.reduceAdd, Nat.reduceEqDiff, Nat.reduceLT, Nat.reduceLeDiff, Nat.reduceMul, Nat.reduceSub, reduceCtorEq, ↓reduceIte]
      exact ⟨.any _, .c _, .c _⟩
    have hpi : p + i < l.length := by
      have : p + i ≠ l.length := by simp at hc; omega
      have hall : p + i ≤ l.length := by
        have h0 := hst
        cases hi : i with
        | zero => omega
        | succ k =>
          rw [hi] at h0
          cases k with
          | zero => omega
          | succ k =>
            simp only [Nat.add_sub_cancel, ustat] at h0
            split at h0
            · unfold ustep at h0
              split at h0
              · omega
              · simp at h0
            · rename_i h1; exact absurd h0 h1
      omega
    clear hc
    have hat2 := pv_at hpi
    have hti : ((p : Int) + (i : Int)).toNat = p + i := by omega
    have hsec := usec_told (byteAt l p) (byteAt l (p + i))
    have hcb := cont_bit (byteAt l (p + i))
    (try simp only [go_sem, Int.reduceBEq, Int.reduceLE, Int.reduceLT, Int.reduceNeg, Nat.reduceAdd, Nat.reduceEqDiff, Nat.reduceLT, Nat.reduceLeDiff, Nat.reduceMul, Nat.reduceSub, reduceCtorEq, ↓reduceIte] at hcb)
    refine walkGF (And.intro hlen (And.intro hw1 (And.intro hti (And.intro hat2 (And.intro hat hcb))))) ?_
    (refine AO.step fun K hK => ?_; simp only [go_sem, Int.reduceBEq, Int.reduceLE, Int.reduceLT, Int.reduceNeg, Nat.reduceAdd, Nat.reduceEqDiff, Nat.reduceLT, Nat.reduceLeDiff, Nat.reduceMul, Nat.reduceSub, reduceCtorEq, ↓reduceIte, hat, hcb]; (first | refine gsel_go ?_ | skip))
    refine .inl ⟨_, fun _ => hsec, hK _ _ _ ?_⟩
    clear hK K hsec
    refine walkG ?_
    refine VC.cond (by rfl) (by trivial) (fun hc => ?_) (fun hc => ?_)
    · have hsp : ustep l p i = 11 := by
        unfold ustep
        rw [if_pos hpi, if_neg]
        simp at hc
        rintro ⟨g1, g2⟩
        rcases hc with hc | hc
        · simp [hc] at g1
        · have := g2 (by omega)
          simp_all
      have hu : uerr l p = 11 := by rw [hue, ustat_bad hi1 hin hst (by omega), hsp]
      have hnx : unext l p = p := by unfold unext; rw [if_neg (by omega)]
      rw [hu, hnx]
      refine walkG ?_
      refine ⟨.inr rfl, ?_⟩
      rw [Tryz.results257]
      simp only [resOk, resV, go_sem, Int.reduceBEq, Int.reduceLE, Int.reduceLT, Int.reduceNeg, Nat.reduceAdd, Nat.reduceEqDiff, Nat.reduceLT, Nat.reduceLeDiff, Nat.reduceMul, Nat.reduceSub, reduceCtorEq, ↓reduceIte]
      exact ⟨.any _, .c _, .c _⟩
    · have hsp : ustep l p i = 0 := by
        unfold ustep
        rw [if_pos hpi, if_pos]
        simp at hc
        refine ⟨hc.1, fun h1 => ?_⟩
        exact hc.2 (by omega)
      have hst2 : ustat l p i = 0 := by
        cases hi : i with
        | zero => omega
        | succ k =>
          rw [hi] at hst hsp
          exact ustat_next (by simpa using hst) hsp
      clear hc
      refine walkGF (hw2) ?_
      apply RQ.next ⟨(i + 1, _), by simp only []; omega, by simp only []; omega, by simpa using hst2⟩
      · simp only [Weak, eq_self, used_is, sc_any, sc_c, sc_pp, sc_ref, sc_row, sc_agg, sc_fn, ScL, some_imp, List.forall_mem_map, go_sem, Int.reduceBEq, Int.reduceLE, Int.reduceLT, Int.reduceNeg, Nat.reduceAdd, Nat.reduceEqDiff, Nat.reduceLT, Nat.reduceLeDiff, Nat.reduceMul, Nat.reduceSub, reduceCtorEq, ↓reduceIte]
        exact ⟨rfl, cI (by omega)⟩
      · simp only []; omega
  · have hin : i = n := by simp at hc; omega
    subst hin
    have hu : uerr l p = 0 := by rw [hue, hst]
    have hnx : unext l p = p + i := by unfold unext; rw [if_pos hu, hul]
    have hbd := ulen_bound hu
    have hw1 : IntKind.i64.wrap ((p : Int) + (i : Int)) = ((p + i : Nat) : Int) := by rw [wrap64_id (by omega) (by omega)]; omega
    rw [hu, hnx]
    refine walkGF (hw1) ?_
    refine ⟨.inr rfl, ?_⟩
    rw [Tryz.results257]
    simp only [resOk, resV, go_sem, Int.reduceBEq, Int.reduceLE, Int.reduceLT, Int.reduceNeg, Nat.reduceAdd, Nat.reduceEqDiff, Nat.reduceLT, Nat.reduceLeDiff, Nat.reduceMul, Nat.reduceSub, reduceCtorEq, ↓reduceIte]
    exact ⟨.any _, .c _, .c _⟩

set_option maxRecDepth 100000 in
set_option maxHeartbeats 800000 in
theorem ucount_told (l : List UInt8) (hbig : l.length ≤ 9223372036854775000) : Told Tryz.prog 239 [.c (.sl 1 (bytePV l))] (.tup [.c (.v (.int .i64 ((uCnt l 0 0).1 : Int))), .c (.v (.int .i64 ((uCnt l 0 0).2 : Int)))]) := by
  have hlen : (bytePV l).length = l.length := by simp [bytePV]
  refine VC.told ent_239 Tryz.func239 rfl Tryz.ntmps239 (by simp) (by first | rfl | simp [AV.pureB, AV.pureL, pureL_c, pures]) (by first | rfl | simp [AV.pureB, AV.pureL, pureL_c, pures]) fun hb => ?_
  clear hb
  obtain ⟨V, hV⟩ : ∃ V, V = uCnt l 0 0 := ⟨_, rfl⟩
  rw [← hV]
  refine walkG ?_
  refine VC.loop (ι := {q : Nat × Nat // q.1 ≤ l.length ∧ q.2 ≤ q.1 ∧ uCnt l q.1 q.2 = V}) (fun q => [(0, .c (.sl 1 (bytePV l))), (4, .c (.v (.int .i64 (q.1.2 : Int)))), (5, .c (.v (.int .i64 (q.1.1 : Int))))]) (fun _ => []) 0 (fun q => l.length - q.1.1) ⟨(0, 0), Nat.zero_le _, Nat.le_refl _, hV.symm⟩ ?_ ?_
  · simp only [Weak, eq_self, used_is, sc_any, sc_c, sc_pp, sc_ref, sc_row, sc_agg, sc_fn, ScL, some_imp, List.forall_mem_map, go_sem, Int.reduceBEq, Int.reduceLE, Int.reduceLT, Int.reduceNeg, Nat.reduceAdd, Nat.reduceEqDiff, Nat.reduceLT, Nat.reduceLeDiff, Nat.reduceMul, Nat.reduceSub, reduceCtorEq, ↓reduceIte]
    all_goals rfl
  rintro ⟨⟨p, k⟩, hp, hk, hu⟩
  simp only [] at hp hk hu ⊢
  refine walkGF (hlen) ?_
  refine VC.cond (by rfl) (by trivial) (fun hc => ?_) (fun hc => ?_)
  · have hlt : p < l.length := by simp at hc; omega
    have ht := utake_told l p hp hbig
    have hw : IntKind.i64.wrap ((k : Int) + 1) = (k : Int) + 1 := wrap64_id (by omega) (by omega)
    refine walkGF (hlen) ?_
    refine walkC (ht) ?_
    refine walkG ?_
    refine VC.cond (by rfl) (by trivial) (fun he => ?_) (fun he => ?_)
    · have h2 : uerr l p ≠ 0 := by simpa using he
      rw [uCnt_bad hlt h2] at hu
      subst hu
      refine walkG ?_
      refine ⟨by first | exact .inr rfl | exact .inl rfl, ?_⟩; rw [Tryz.results239]; simp only [resOk, resV, go_sem, Int.reduceBEq, Int.reduceLE, Int.reduceLT, Int.reduceNeg, Nat.reduceAdd, Nat.reduceEqDiff, Nat.reduceLT, Nat.reduceLeDiff, Nat.reduceMul, Nat.reduceSub, reduceCtorEq, ↓reduceIte]
      exact ⟨.c _, .c _⟩
    · have h2 : uerr l p = 0 := by simpa using he
      obtain ⟨h3, h4⟩ := ulen_bound h2
      have hn : unext l p = p + ulen l p := by unfold unext; rw [if_pos h2]
      rw [uCnt_next hlt h2] at hu
      refine walkGF (And.intro hw hn) ?_
      refine .next ⟨(p + ulen l p, k + 1), h4, by simp only []; omega, hu⟩ ?_ (by simp only []; omega)
      simp only [Weak, eq_self, used_is, sc_any, sc_c, sc_pp, sc_ref, sc_row, sc_agg, sc_fn, ScL, some_imp, List.forall_mem_map, go_sem, Int.reduceBEq, Int.reduceLE, Int.reduceLT, Int.reduceNeg, Nat.reduceAdd, Nat.reduceEqDiff, Nat.reduceLT, Nat.reduceLeDiff, Nat.reduceMul, Nat.reduceSub, reduceCtorEq, ↓reduceIte]
      exact cI (by omega)
  · have hge : ¬ p < l.length := by simp at hc; omega
    rw [uCnt_end hge] at hu
    subst hu
    refine walkG ?_
    refine ⟨by first | exact .inr rfl | exact .inl rfl, ?_⟩; rw [Tryz.results239]; simp only [resOk, resV, go_sem, Int.reduceBEq, Int.reduceLE, Int.reduceLT, Int.reduceNeg, Nat.reduceAdd, Nat.reduceEqDiff, Nat.reduceLT, Nat.reduceLeDiff, Nat.reduceMul, Nat.reduceSub, reduceCtorEq, ↓reduceIte]
    exact ⟨.c _, .c _⟩
set_option maxRecDepth 100000 in
set_option maxHeartbeats 400000 in
theorem uright_told (l : List UInt8) (hbig : l.length ≤ 9223372036854775000) : Told Tryz.prog 163 [.c (.sl 1 (bytePV l))] (.c (.v (.bool (isRight l)))) := by
  have h := ucount_told l hbig
  refine VC.told ent_163 Tryz.func163 rfl Tryz.ntmps163 (by simp) (by first | rfl | simp [AV.pureB, AV.pureL, pureL_c, pures]) (by first | rfl | simp [AV.pureB, AV.pureL, pureL_c, pures]) fun hb => ?_
  clear hb
  refine walkG ?_
  refine walkC (h) ?_
  refine walkG ?_
  refine ⟨by first | exact .inr rfl | exact .inl rfl, ?_⟩; rw [Tryz.results163]; simp only [resOk, resV, go_sem, Int.reduceBEq, Int.reduceLE, Int.reduceLT, Int.reduceNeg, Nat.reduceAdd, Nat.reduceEqDiff, Nat.reduceLT, Nat.reduceLeDiff, Nat.reduceMul, Nat.reduceSub, reduceCtorEq, ↓reduceIte]
  exact frz_c (by unfold isRight; congr 2; rw [Bool.eq_iff_iff]; simp)
end

def idxP {α : Type} (p : α → Bool) (l : List α) : Int := match l.findIdx? p with | some i => (i : Int) | none => -1
theorem idxP_at {α : Type} {p : α → Bool} {l : List α} {i : Nat} {x : α} (h : l[i]? = some x) (hx : p x = true) (h0 : ∀ j y, j < i → l[j]? = some y → p y = false) : idxP p l = (i : Int) := by
  unfold idxP
  obtain ⟨hlt, he⟩ := List.getElem?_eq_some_iff.1 h
  have : l.findIdx? p = some i := by
    rw [List.findIdx?_eq_some_iff_getElem]
    refine ⟨hlt, by rw [he]; exact hx, fun j hj => ?_⟩
    have := h0 j _ hj (List.getElem?_eq_getElem (by omega))
    simp [this]
  rw [this]
theorem idxP_none {α : Type} {p : α → Bool} {l : List α} (h0 : ∀ j y, j < l.length → l[j]? = some y → p y = false) : idxP p l = -1 := by
  unfold idxP
  have : l.findIdx? p = none := by
    rw [List.findIdx?_eq_none_iff]
    intro x hx
    obtain ⟨j, hj, he⟩ := List.getElem_of_mem hx
    exact h0 j x hj (by rw [List.getElem?_eq_getElem hj, he])
  rw [this]
theorem idxP_any {α : Type} (p : α → Bool) (l : List α) : decide (idxP p l ≥ 0) = l.any p := by
  unfold idxP
  cases h : l.findIdx? p with
  | some i =>
    have := (List.findIdx?_eq_some_iff_getElem.1 h)
    obtain ⟨h1, h2, _⟩ := this
    have h3 : l.any p = true := List.any_eq_true.2 ⟨l[i], List.getElem_mem _, h2⟩
    rw [h3]
    simp
  | none =>
    rw [List.findIdx?_eq_none_iff] at h
    have h3 : l.any p = false := List.any_eq_false.2 fun x hx => by simpa using h x hx
    rw [h3]
    rfl
theorem sc_pureL {used : Nat → Prop} {h : Nat → Option Blkd} {l : List AV} (hp : AV.pureL l = true) : (∀ x ∈ l, Sc used h x) = True := eq_true fun x hx => (pure_ofL l hp x hx).sc
theorem pureL_app (l m : List AV) : AV.pureL (l ++ m) = (AV.pureL l && AV.pureL m) := by
  induction l with
  | nil => simp [AV.pureL]
  | cons x l ih => simp [AV.pureL, ih, Bool.and_assoc]
section
attribute [local go_sem] opx opE ev okx gcond bnd okO AV.get AV.okb cAV upd_at putd_some putd_none wrs_nil wrs_cons look_nil look_cons st argT_at bpick_and bpick_or bpick_true bpick_false binV binI binS binVOk binOk isShift binSOk unV unVOk loadV loadP cellsA zeroA Blkd.len setE grown moreA moreR moreOk eqRes pv fillA fillE putSeg AV.cellish AV.pureL AV.pureB lentL_is ex_some AV.ren AV.renL renL_c Blkd.ren rho wrM renN lentOk rhoE keepM endOk tyA_2 tyA_3 tyA_4 tyA_5 tyA_6 tyA_7 tyA_8 tyA_9 tyA_10 tyA_11 tyA_12 tyA_13 tyA_14 tyA_15 tyA_16 tyA_17 tyA_18 tyA_19 tyA_21 tyA_22 tyA_23 tyA_24 tyA_29 tyA_30 tyA_31 tyA_32 tyA_33 tyA_34 tyA_35 tyA_36 tyA_37 tyA_38 tyA_39 tyA_40 tyA_41 tyA_42 tyA_43 tyA_48 tyA_89 tyA_93 tyA_107 tyA_108 tyA_109 tyA_113 tyA_114 tyA_115 tyA_116 tyA_117 tyA_119 tyA_120 tyA_121 tyA_122 tyA_131 tyA_134 tyA_135 tyA_136 tyA_137 tyA_138 tyA_154 tyA_156 tyA_157 tyA_158 tyA_159 tyA_170 tyA_180 tyA_181 tyA_182 tyA_196 tyA_202 tyA_208 tyA_209 tyA_210 tyA_211 tyA_212 tyA_213 tyA_229 tyA_230 tyA_231 tyA_241 tyA_264 tyA_268 tyA_293 tyA_294 tyA_295 tyA_311 tyA_313 tyA_321 tyA_326 tyA_334 tyA_338 tyA_340 tyA_343 tyA_344 tyA_345 tyA_346 tyA_347 tyA_348 tyA_349 tyA_351 tyA_352 Option.map_some Option.map_none Option.getD_some Option.getD_none Option.bind_some Option.bind_none List.getElem?_cons_zero List.getElem?_cons_succ List.getElem?_nil List.getElem?_toArray List.length_cons List.length_nil List.length_map List.forall_mem_map List.map_cons List.map_nil List.drop_zero List.drop_succ_cons List.drop_nil List.take_zero List.take_succ_cons List.take_nil List.mem_cons List.not_mem_nil or_false forall_eq_or_imp forall_eq List.set_cons_zero List.set_cons_succ List.cons_append List.nil_append List.append_nil List.foldl_cons List.foldl_nil List.replicate_succ List.replicate_zero List.all_cons List.all_nil if_true if_false Bool.false_eq_true ne_eq not_false_eq_true not_true_eq_false true_and and_true and_self true_implies imp_self implies_true forall_const beq_self_eq_true Bool.and_true Bool.true_and Bool.and_false Bool.false_and Bool.or_true Bool.true_or Bool.or_false Bool.false_or Bool.not_true Bool.not_false Bool.not_eq_eq_eq_not intKindOf Value.oneCell' Int.toNat_natCast beq_true beq_false Bool.not_eq_true false_implies false_or true_or or_true Nat.zero_add Nat.add_zero decide_true decide_false Int.cast_ofNat_Int Int.toNat_zero Int.toNat_one eq_self

set_option maxRecDepth 100000 in
set_option maxHeartbeats 400000 in
theorem ixfS_told {g : FuncId} {fs cs : List AV} (hp : AV.pureL fs = true) (hp' : AV.pureL cs = true) (l : List (List UInt8)) (p : List UInt8 → Bool) (hk : ∀ x ∈ l, Told Tryz.prog g (fs ++ ([.c (.v (.string (str x)))] ++ cs)) (.c (.v (.bool (p x))))) :
    Told Tryz.prog 256 [.c (.sl 1 (l.map sPV)), .fn (.func g) fs cs] (.c (.v (.int .i64 (idxP p l)))) := by
  refine VC.told ent_256 Tryz.func256 rfl Tryz.ntmps256 (by simp) (by simp [AV.pureB, AV.pureL, hp, hp']) rfl fun hb => ?_
  simp only [List.mem_cons, List.not_mem_nil, or_false, forall_eq_or_imp, forall_eq, abd_c, pbd_sl, List.length_map] at hb
  have h1 := hb.1.1
  clear hb
  refine walkG ?_
  refine VC.loop (ι := {i : Nat // i ≤ l.length ∧ ∀ j x, j < i → l[j]? = some x → p x = false}) (fun i => [(0, .c (.sl 1 (l.map sPV))), (1, .fn (.func g) fs cs), (7, .c (.v (.int .i64 l.length))), (8, .c (.v (.int .i64 i.1)))]) (fun _ => []) 0 (fun i => l.length - i.1) ⟨0, Nat.zero_le _, by intro j x hj; omega⟩ ?_ ?_
  · simp only [sc_pureL hp, sc_pureL hp', Weak, eq_self, used_is, sc_any, sc_c, sc_pp, sc_ref, sc_row, sc_agg, sc_fn, ScL, some_imp, List.forall_mem_map, go_sem, Int.reduceBEq, Int.reduceLE, Int.reduceLT, Int.reduceNeg, Nat.reduceAdd, Nat.reduceEqDiff, Nat.reduceLT, Nat.reduceLeDiff, Nat.reduceMul, Nat.reduceSub, reduceCtorEq, ↓reduceIte]
    all_goals rfl
  rintro ⟨i, hi, ht⟩
  refine walkG ?_
  refine VC.cond (by rfl) (by trivial) (fun hc => ?_) (fun hc => ?_)
  · simp only [decide_eq_true_eq] at hc
    obtain ⟨x, hx⟩ : ∃ x, l[i]? = some x := ⟨l[i]'(by omega), List.getElem?_eq_getElem _⟩
    have hw : IntKind.i64.wrap ((i : Int) + 1) = (i : Int) + 1 := wrap64_id (by omega) (by omega)
    have hkx := hk x (List.mem_of_getElem? hx)
    (repeat (first | refine pass ?_ | refine VC.region (by rfl) (by rfl) ?_ | (refine AO.step fun K hK => ?_; simp only [List.getElem?_map, hx, sPV, go_sem, Int.reduceBEq, Int.reduceLE, Int.reduceLT, Int.reduceNeg, Nat.reduceAdd, Nat.reduceEqDiff, Nat.reduceLT, Nat.reduceLeDiff, Nat.reduceMul, Nat.reduceSub, reduceCtorEq, ↓reduceIte]; (first | refine gsel_skip ?_ | refine gsel_go ?_ | skip); (first | refine hK _ _ _ ?_ | refine ⟨by first | omega | exact ⟨_, rfl, rfl⟩ | exact fun _ => ⟨_, rfl, rfl⟩ | (intro h; simp only [List.getElem?_map, hx, sPV, h, true_and]; omega) | (clear hK; intro h; simp_all <;> omega), hK _ _ _ ?_⟩); clear hK K) | refine VC.draw mixP (by rfl) (by rfl) ?_ | refine ⟨okd_of (by kernel_rfl), ?_⟩ | refine BQ.other (by decide) ?_ | refine VC.seq ?_ | refine AO.nil ?_ | refine VC.block ?_))
    ((refine AO.step fun K hK => ?_; simp only [go_sem, Int.reduceBEq, Int.reduceLE, Int.reduceLT, Int.reduceNeg, Nat.reduceAdd, Nat.reduceEqDiff, Nat.reduceLT, Nat.reduceLeDiff, Nat.reduceMul, Nat.reduceSub, reduceCtorEq, ↓reduceIte, sPV, hp, hp', pureL_app, pureL_c, List.append_assoc]; (first | refine gsel_go ?_ | skip)); refine .inl ⟨_, hkx, hK _ _ _ ?_⟩; clear hK K)
    refine walkG ?_
    refine VC.cond (by rfl) (by trivial) (fun hpx => ?_) (fun hpx => ?_)
    · have hr := idxP_at hx hpx ht
      refine walkG ?_
      refine ⟨by first | exact .inr rfl | exact .inl rfl, ?_⟩; rw [Tryz.results256]; simp only [resOk, resV, go_sem, Int.reduceBEq, Int.reduceLE, Int.reduceLT, Int.reduceNeg, Nat.reduceAdd, Nat.reduceEqDiff, Nat.reduceLT, Nat.reduceLeDiff, Nat.reduceMul, Nat.reduceSub, reduceCtorEq, ↓reduceIte]
      rw [hr]
      exact .c _
    · refine walkGF (hw) ?_
      refine .next ⟨i + 1, by omega, fun j y hj hy => ?_⟩ ?_ (by simp only []; omega)
      · rcases Nat.lt_or_ge j i with h | h
        · exact ht j y h hy
        · obtain rfl : j = i := by omega
          rw [hx] at hy
          obtain rfl := Option.some.inj hy
          exact hpx
      simp only [sc_pureL hp, sc_pureL hp', Weak, eq_self, used_is, sc_any, sc_c, sc_pp, sc_ref, sc_row, sc_agg, sc_fn, ScL, some_imp, List.forall_mem_map, go_sem, Int.reduceBEq, Int.reduceLE, Int.reduceLT, Int.reduceNeg, Nat.reduceAdd, Nat.reduceEqDiff, Nat.reduceLT, Nat.reduceLeDiff, Nat.reduceMul, Nat.reduceSub, reduceCtorEq, ↓reduceIte]
      exact cI (by omega)
  · simp only [decide_eq_false_iff_not] at hc
    obtain rfl : i = l.length := by omega
    have hr := idxP_none ht
    refine walkG ?_
    refine ⟨by first | exact .inr rfl | exact .inl rfl, ?_⟩; rw [Tryz.results256]; simp only [resOk, resV, go_sem, Int.reduceBEq, Int.reduceLE, Int.reduceLT, Int.reduceNeg, Nat.reduceAdd, Nat.reduceEqDiff, Nat.reduceLT, Nat.reduceLeDiff, Nat.reduceMul, Nat.reduceSub, reduceCtorEq, ↓reduceIte]
    rw [hr]
    exact .c _
set_option maxRecDepth 100000 in
set_option maxHeartbeats 400000 in
theorem cnfS_told {g : FuncId} {fs cs : List AV} (hp : AV.pureL fs = true) (hp' : AV.pureL cs = true) (l : List (List UInt8)) (p : List UInt8 → Bool) (hk : ∀ x ∈ l, Told Tryz.prog g (fs ++ ([.c (.v (.string (str x)))] ++ cs)) (.c (.v (.bool (p x))))) :
    Told Tryz.prog 205 [.c (.sl 1 (l.map sPV)), .fn (.func g) fs cs] (.c (.v (.bool (l.any p)))) := by
  have hi := ixfS_told hp hp' l p hk
  refine VC.told ent_205 Tryz.func205 rfl Tryz.ntmps205 (by simp) (by simp [AV.pureB, AV.pureL, hp, hp']) rfl fun hb => ?_
  clear hb
  refine walkG ?_
  refine walkCF (And.intro hp hp') (hi) ?_
  refine walkG ?_
  refine ⟨by first | exact .inr rfl | exact .inl rfl, ?_⟩; rw [Tryz.results205]; simp only [resOk, resV, go_sem, Int.reduceBEq, Int.reduceLE, Int.reduceLT, Int.reduceNeg, Nat.reduceAdd, Nat.reduceEqDiff, Nat.reduceLT, Nat.reduceLeDiff, Nat.reduceMul, Nat.reduceSub, reduceCtorEq, ↓reduceIte]
  exact frz_c (by rw [idxP_any])

theorem vbare_eq (k n b : Int) (s : List UInt8) (m : Nat) (ks : List (List UInt8)) : vbare k n b s m ks =
    (!(if (k == 2 || k == 3 || k == 4 || k == 10 || k == 13) = true then false else (n != 0)) && (!(if (k == 5 || k == 6) = true then false else (b != 0)) && (!(if (k == 7 || k == 8 || k == 14) = true then false else decide ((s.length : Int) > 0)) &&
    (!(if (k == 9 || k == 11 || k == 12 || k == 13) = true then false else decide ((m : Int) > 0)) && !(if (k == 12) = true then false else decide ((ks.length : Int) > 0)))))) := by
  have e1 : ∀ {α : Type} (l : List α), l.isEmpty = !decide ((l.length : Int) > 0) := fun l => by
    cases l with
    | nil => rfl
    | cons x l => simp
  have e2 : (m == 0) = !decide ((m : Int) > 0) := by cases m <;> simp
  unfold vbare
  rw [e1 s, e1 ks, e2]
  congr 1
  · cases (k == 2 || k == 3 || k == 4 || k == 10 || k == 13) <;> simp [bne]
  congr 1
  · cases (k == 5 || k == 6) <;> simp [bne]
  congr 1
  · cases (k == 7 || k == 8 || k == 14) <;> simp
  congr 1
  · cases (k == 9 || k == 11 || k == 12 || k == 13) <;> simp
  · cases (k == 12) <;> simp
set_option maxRecDepth 100000 in
set_option maxHeartbeats 1600000 in
theorem vbare_told (k n b : Int) (s : List UInt8) (xs : List VT) (ks : List (List UInt8)) : Told Tryz.prog 162 [(VT.mk k n b s xs ks).av] (.c (.v (.bool (vbare k n b s xs.length ks)))) := by
  obtain ⟨V, hV⟩ : ∃ V, V = vbare k n b s xs.length ks := ⟨_, rfl⟩
  rw [← hV]
  rw [vbare_eq] at hV
  rw [VT.av_eq, vcells_mk]
  refine VC.told ent_162 Tryz.func162 rfl Tryz.ntmps162 (by simp) (by first | rfl | simp [AV.pureB, AV.pureL, pureL_c, pures]) (by first | rfl | simp [AV.pureB, AV.pureL, pureL_c, pures]) fun hb => ?_
  clear hb
  refine walkGF (@bytePV_len) ?_
  obtain ⟨p1, hp1⟩ : ∃ p : Bool, p = (n != 0) := ⟨_, rfl⟩
  obtain ⟨p2, hp2⟩ : ∃ p : Bool, p = (b != 0) := ⟨_, rfl⟩
  obtain ⟨p3, hp3⟩ : ∃ p : Bool, p = decide ((s.length : Int) > 0) := ⟨_, rfl⟩
  obtain ⟨p4, hp4⟩ : ∃ p : Bool, p = decide ((xs.length : Int) > 0) := ⟨_, rfl⟩
  obtain ⟨p5, hp5⟩ : ∃ p : Bool, p = decide ((ks.length : Int) > 0) := ⟨_, rfl⟩
  rw [← hp1, ← hp2, ← hp3, ← hp4, ← hp5] at hV ⊢
  clear hp1 hp2 hp3 hp4 hp5
  rcases (by omega : k = 2 ∨ k = 3 ∨ k = 4 ∨ k = 5 ∨ k = 6 ∨ k = 7 ∨ k = 8 ∨ k = 9 ∨ k = 10 ∨ k = 11 ∨ k = 12 ∨ k = 13 ∨ k = 14 ∨ (k ≠ 2 ∧ k ≠ 3 ∧ k ≠ 4 ∧ k ≠ 5 ∧ k ≠ 6 ∧ k ≠ 7 ∧ k ≠ 8 ∧ k ≠ 9 ∧ k ≠ 10 ∧ k ≠ 11 ∧ k ≠ 12 ∧ k ≠ 13 ∧ k ≠ 14)) with rfl | rfl | rfl | rfl | rfl | rfl | rfl | rfl | rfl | rfl | rfl | rfl | rfl | hne
  rotate_left 13
  · obtain ⟨h2, h3, h4, h5, h6, h7, h8, h9, h10, h11, h12, h13, h14⟩ := hne
    have e2 : (k == 2) = false := by simpa using h2
    have e3 : (k == 3) = false := by simpa using h3
    have e4 : (k == 4) = false := by simpa using h4
    have e5 : (k == 5) = false := by simpa using h5
    have e6 : (k == 6) = false := by simpa using h6
    have e7 : (k == 7) = false := by simpa using h7
    have e8 : (k == 8) = false := by simpa using h8
    have e9 : (k == 9) = false := by simpa using h9
    have e10 : (k == 10) = false := by simpa using h10
    have e11 : (k == 11) = false := by simpa using h11
    have e12 : (k == 12) = false := by simpa using h12
    have e13 : (k == 13) = false := by simpa using h13
    have e14 : (k == 14) = false := by simpa using h14
    simp only [e2, e3, e4, e5, e6, e7, e8, e9, e10, e11, e12, e13, e14, Bool.false_or, Bool.false_eq_true, if_false] at hV
    rw [e2]
    refine walkBF (And.intro e2 (And.intro e3 (And.intro e4 (And.intro e5 (And.intro e6 (And.intro e7 (And.intro e8 (And.intro e9 (And.intro e10 (And.intro e11 (And.intro e12 (And.intro e13 e14)))))))))))) ?_
    refine ⟨by first | exact .inr rfl | exact .inl rfl, ?_⟩; rw [Tryz.results162]; simp only [resOk, resV, go_sem, Int.reduceBEq, Int.reduceLE, Int.reduceLT, Int.reduceNeg, Nat.reduceAdd, Nat.reduceEqDiff, Nat.reduceLT, Nat.reduceLeDiff, Nat.reduceMul, Nat.reduceSub, reduceCtorEq, ↓reduceIte]
    refine frz_c ?_
    rw [hV]
    simp [Bool.and_assoc]
  all_goals
    simp only [Int.reduceBEq, Bool.false_or, Bool.or_false, Bool.true_or, Bool.or_true, Bool.false_eq_true, if_false, if_true, Bool.not_false, Bool.true_and, Bool.and_true] at hV
    refine walkB ?_
    refine ⟨by first | exact .inr rfl | exact .inl rfl, ?_⟩; rw [Tryz.results162]; simp only [resOk, resV, go_sem, Int.reduceBEq, Int.reduceLE, Int.reduceLT, Int.reduceNeg, Nat.reduceAdd, Nat.reduceEqDiff, Nat.reduceLT, Nat.reduceLeDiff, Nat.reduceMul, Nat.reduceSub, reduceCtorEq, ↓reduceIte]
    refine frz_c ?_
    rw [hV]
    try simp [Bool.and_assoc]
set_option maxRecDepth 100000 in
set_option maxHeartbeats 400000 in
theorem key1_told (y : List UInt8) (hl : y.length ≤ 1000000) : Told Tryz.prog 240 [.c (.v (.string (str y)))] (.c (.v (.bool (!keyM y)))) := by
  have hR := uright_told y (by omega)
  have e : (!keyM y) = (decide ((y.length : Int) > 20000) || !isRight y) := by
    unfold keyM
    rw [Bool.not_and]
    congr 1
    rw [← decide_not]
    exact decide_eq_decide.2 (by omega)
  rw [e]
  clear e
  have hbs : bytePV (str y).data.toList = bytePV y := by rw [str_dl]
  refine VC.told ent_240 Tryz.func240 rfl Tryz.ntmps240 (by simp) (by first | rfl | simp [AV.pureB, AV.pureL, pureL_c, pures]) (by first | rfl | simp [AV.pureB, AV.pureL, pureL_c, pures]) fun hb => ?_
  clear hb
  refine walkGF (And.intro @str_size hbs) ?_
  refine walkDF (hbs) (hR) ?_
  refine walkG ?_
  refine ⟨by first | exact .inr rfl | exact .inl rfl, ?_⟩; rw [Tryz.results240]; simp only [resOk, resV, go_sem, Int.reduceBEq, Int.reduceLE, Int.reduceLT, Int.reduceNeg, Nat.reduceAdd, Nat.reduceEqDiff, Nat.reduceLT, Nat.reduceLeDiff, Nat.reduceMul, Nat.reduceSub, reduceCtorEq, ↓reduceIte]
  exact .c _
theorem any_not (ks : List (List UInt8)) : (!ks.any fun y => !keyM y) = ks.all keyM := by
  induction ks with
  | nil => rfl
  | cons y ks ih => simp only [List.any_cons, List.all_cons, Bool.not_or, Bool.not_not, ih]
set_option maxRecDepth 100000 in
set_option maxHeartbeats 400000 in
theorem vkeyed_told (ks : List (List UInt8)) (hk : ∀ y ∈ ks, y.length ≤ 1000000) : Told Tryz.prog 166 [.c (.sl 1 (ks.map sPV))] (.c (.v (.bool (ks.all keyM)))) := by
  have hC := cnfS_told (g := 240) (fs := []) (cs := []) rfl rfl ks (fun y => !keyM y) fun y hy => key1_told y (hk y hy)
  rw [← any_not]
  generalize (ks.any fun y => !keyM y) = B at hC ⊢
  refine VC.told ent_166 Tryz.func166 rfl Tryz.ntmps166 (by simp) (by first | rfl | simp [AV.pureB, AV.pureL, pureL_c, pures]) (by first | rfl | simp [AV.pureB, AV.pureL, pureL_c, pures]) fun hb => ?_
  clear hb
  refine walkG ?_
  refine walkC (hC) ?_
  refine walkG ?_
  refine ⟨by first | exact .inr rfl | exact .inl rfl, ?_⟩; rw [Tryz.results166]; simp only [resOk, resV, go_sem, Int.reduceBEq, Int.reduceLE, Int.reduceLT, Int.reduceNeg, Nat.reduceAdd, Nat.reduceEqDiff, Nat.reduceLT, Nat.reduceLeDiff, Nat.reduceMul, Nat.reduceSub, reduceCtorEq, ↓reduceIte]
  exact .c _
end
section
open Go.RowKit Go.Shelf
attribute [local go_sem] Oper.semAt_some
def upTo {α : Type} (f : Nat → α) (k : Nat) : List α := (List.range k).map f
theorem upTo_succ {α : Type} (f : Nat → α) (k : Nat) : upTo f (k + 1) = upTo f k ++ [f k] := by simp [upTo, List.range_succ]
theorem upTo_length {α : Type} (f : Nat → α) (k : Nat) : (upTo f k).length = k := by simp [upTo]
theorem upTo_all {α : Type} [Inhabited α] (zs : List α) (d : α) : upTo (fun j => zs[j]?.getD d) zs.length = zs := by
  apply List.ext_getElem
  · simp [upTo]
  · intro i h1 h2
    simp [upTo, h2]
set_option maxRecDepth 100000 in
set_option maxHeartbeats 2000000 in
theorem values1_in (F : Fence) (n : Nat) (h7 : F.fn 281) (hro : F.round = none) (hn : 1 ≤ n) (l Bs o n₀ b off len cap : Nat) (zs : List (List UInt8)) (hreach : len * 16 ≤ 140737488351232) (hb : b < n₀) (J Jx : List (List UInt8) → World → Prop)
    (hY : ∀ pre x W, J pre W → pre.length < len → YieldAt F (n - 1) Tryz.prog l #[.string (str x)] W fun e W' =>
      (e = .returned (.bool true) ∧ J (pre ++ [x]) W' ∧ Below n₀ W W') ∨ (e = .returned (.bool false) ∧ Jx (pre ++ [x]) W'))
    (W : World) (hBs : W.cell? ⟨Bs, o, none⟩ = some (.slice (some ⟨b, off, none⟩) len cap)) (hc : ∀ j, j < len → W.cell? ⟨b, off + j, none⟩ = some (.string (str (zs[j]?.getD [])))) (h0 : J [] W) :
    CallsIn F n Tryz.prog 281 #[.func (.yield l) #[] #[], .pointer (some ⟨Bs, o, none⟩)] W fun e W' => (∃ v, e = .returned v) ∧
      ((∃ ys, ys = upTo (fun j => zs[j]?.getD []) len ∧ J ys W') ∨ (∃ pre, (∃ k, k ≤ len ∧ pre = upTo (fun j => zs[j]?.getD []) k) ∧ Jx pre W')) := by
  refine callsIn_of_wp Tryz.func281 rfl h7 ?_ hro
  simp only [Tryz.ntmps281, List.size_toArray, List.length_cons, List.length_nil, Nat.reduceAdd, Nat.reduceSub, Array.replicate_succ, Array.replicate_zero, List.push_toArray, List.append_toArray, List.nil_append, List.cons_append]
  gi_wp2
  gi_loopw [7] (fun i wr => ∃ k : Nat, k ≤ len ∧ i = .int .i64 k ∧ J (upTo (fun j => zs[j]?.getD []) k) wr ∧ Below n₀ W wr)
    (fun i _ => len - (intOf i).toNat)
  case atStart => exact ⟨0, Nat.zero_le _, rfl, h0, Below.refl _ _⟩
  case round =>
    obtain ⟨k, hk, rfl, hJs, hnx⟩ := hrel
    have hcx : k < len → wr.cell? ⟨b, off + k, none⟩ = some (.string (str (zs[k]?.getD []))) := fun h => (hnx.cell (p := ⟨b, off + k, none⟩) hb).trans (hc k h)
    by_cases hlt : k < len
    · obtain ⟨fn, tmps, assign, body, hy, hR⟩ := hY _ (zs[k]?.getD []) wr hJs (by rw [upTo_length]; exact hlt)
      have hcx' := hcx hlt
      gi_wp2
      refine hR.mono ?_
      rintro e W3 (⟨rfl, hJ3, hk3⟩ | ⟨rfl, hJx3⟩)
      · gi_wp2
        go_roundw
        case rel => exact ⟨k + 1, by omega, by simp, by rw [upTo_succ]; exact hJ3, hnx.trans hk3⟩
        case measure => simp [intOf]; omega
      · gi_wp2
        refine bodyPost_ret (results_none rfl _ _ _) rfl ?_
        exact ⟨⟨_, rfl⟩, .inr ⟨_, ⟨k + 1, by omega, (upTo_succ _ _).symm⟩, hJx3⟩⟩
    · obtain rfl : k = len := by omega
      gi_wp2
      go_end0
      exact ⟨⟨_, rfl⟩, .inl ⟨_, rfl, hJs⟩⟩
set_option maxRecDepth 100000 in
set_option maxHeartbeats 1000000 in
theorem values1_nil_in (F : Fence) (n : Nat) (h7 : F.fn 281) (hro : F.round = none) (l Bs o : Nat) (J : List (List UInt8) → World → Prop) (W : World) (a : Option Addr) (c : Nat) (hBs : W.cell? ⟨Bs, o, none⟩ = some (.slice a 0 c)) (h0 : J [] W) :
    CallsIn F n Tryz.prog 281 #[.func (.yield l) #[] #[], .pointer (some ⟨Bs, o, none⟩)] W fun e W' => (∃ v, e = .returned v) ∧ J [] W' := by
  refine callsIn_of_wp Tryz.func281 rfl h7 ?_ hro
  simp only [Tryz.ntmps281, List.size_toArray, List.length_cons, List.length_nil, Nat.reduceAdd, Nat.reduceSub, Array.replicate_succ, Array.replicate_zero, List.push_toArray, List.append_toArray, List.nil_append, List.cons_append]
  gi_wp2
  gi_loopw [7] (fun i wr => i = .int .i64 0 ∧ J [] wr) (fun _ _ => 0)
  case atStart => exact ⟨rfl, h0⟩
  case round =>
    obtain ⟨rfl, hJs⟩ := hrel
    gi_wp2
    go_end0
    exact ⟨⟨_, rfl⟩, hJs⟩
theorem upTo_take (zs : List (List UInt8)) {k : Nat} (hk : k ≤ zs.length) : upTo (fun j => zs[j]?.getD []) k = zs.take k := by
  apply List.ext_getElem
  · simp [upTo, hk]
  · intro i h1 h2
    have : i < zs.length := by simp [upTo] at h1; omega
    simp [upTo, this]
def Strs (n₀ : Nat) (W : World) (sv : Value) (zs : List (List UInt8)) : Prop :=
  ∃ a cap, sv = .slice a zs.length cap ∧ (zs ≠ [] → ∃ b off, a = some ⟨b, off, none⟩ ∧ b < n₀ ∧ ∀ j, j < zs.length → W.cell? ⟨b, off + j, none⟩ = some (.string (str (zs[j]?.getD []))))
theorem Strs.below {n₀ : Nat} {A B : World} (h : Below n₀ A B) {sv : Value} {zs : List (List UInt8)} : Strs n₀ A sv zs → Strs n₀ B sv zs
  | ⟨a, cap, e, hc⟩ => ⟨a, cap, e, fun hn => by
    obtain ⟨b, off, h1, h2, h3⟩ := hc hn
    exact ⟨b, off, h1, h2, fun j hj => (h.cell (p := ⟨b, off + j, none⟩) h2).trans (h3 j hj)⟩⟩
theorem values_stops (F : Fence) (n : Nat) (h7 : F.fn 281) (hro : F.round = none) (hn : 1 ≤ n) (Bs o n₀ : Nat) (sv : Value) (zs : List (List UInt8)) (hreach : zs.length * 16 ≤ 140737488351232) (w : World) (hBs : Bs < w.heap.size) (hn₀ : n₀ ≤ w.heap.size)
    (hc : w.cell? ⟨Bs, o, none⟩ = some sv) (hI : Strs n₀ w sv zs) :
    SeqStopsK F n Tryz.prog 281 #[.pointer (some ⟨Bs, o, none⟩)] (fun x : List UInt8 => #[Value.string (str x)]) (Below n₀) (fun ys => ys = zs) (fun pre => pre <+: zs) zs.length w := fun l J Jx W hW _ _ hY h0 => by
  have hc' := (hW.cell (p := ⟨Bs, o, none⟩) hBs).trans hc
  obtain ⟨a, cap, rfl, hcs⟩ := hI.below (hW.mono hn₀)
  by_cases hz : zs = []
  · subst hz
    exact (values1_nil_in F n h7 hro l Bs o J W a cap hc' h0).mono fun e W' ⟨he, hj⟩ => ⟨he, .inl ⟨_, rfl, hj⟩⟩
  · obtain ⟨b, off, rfl, hb, hcs⟩ := hcs hz
    refine (values1_in F n h7 hro hn l Bs o n₀ b off zs.length cap zs hreach hb J Jx hY W hc' hcs h0).mono ?_
    rintro e W' ⟨he, ⟨ys, rfl, hj⟩ | ⟨pre, ⟨k, hk, rfl⟩, hj⟩⟩
    · exact ⟨he, .inl ⟨_, upTo_all zs _, hj⟩⟩
    · exact ⟨he, .inr ⟨_, by rw [upTo_take zs hk]; exact List.take_prefix _ _, hj⟩⟩
def sV (s : List UInt8) : Value := .string (str s)
theorem sinfo : (Tryz.prog.info? 9).map (fun i => (i.zero, i.size, i.bytes)) = some (some (.string ⟨#[]⟩), 1, 16) := by kernel_rfl
set_option maxRecDepth 100000 in
set_option maxHeartbeats 2000000 in
theorem appendSeq_in (F : Fence) (n : Nat) (h3 : F.fn 298) (h7 : F.fn 281) (hro : F.round = none) (hn : 3 ≤ n) (Bs o : Nat) (sv : Value) (zs : List (List UInt8)) (hlen : zs.length ≤ maxLen) (hbytes : zs.length * 16 ≤ 140737488351232) (w : World) (hBs : Bs < w.heap.size)
    (hc : w.cell? ⟨Bs, o, none⟩ = some sv) (hI : Strs w.heap.size w sv zs) :
    CallsIn F n Tryz.prog 298 #[.slice none 0 0, .func (.func 281) #[] #[.pointer (some ⟨Bs, o, none⟩)]] w fun e W' => ∃ v, e = .returned v ∧ W'.ownsRow w.heap.size 9 1 v zs.length (zs.map sV) ∧ Below w.heap.size w W' := by
  have h1 : 1 ≤ n := by omega
  obtain ⟨i0, hi, hz0, hz1, hz2⟩ := info_parts sinfo
  refine callsIn_of_wp_marks Tryz.func298 rfl h3 ?_ hro
  simp only [Tryz.ntmps298, List.size_toArray, List.length_cons, List.length_nil, Nat.reduceAdd, Nat.reduceSub, Array.replicate_succ, Array.replicate_zero, List.push_toArray, List.append_toArray, List.nil_append, List.cons_append]
  gi_wp2
  have bO := Boxed.new w 29 (.slice none 0 0)
  have hB0 : Below w.heap.size w (w.alloc (.cells #[.slice none 0 0] 29)) := (Below.refl _ w).alloc (Nat.le_refl _) _
  refine wpIn_rangeFunc_ownG hro h1 (gf := 281) (lb := #[.pointer (some ⟨Bs, o, none⟩)]) rfl h7 (enters_of Tryz.func281 (by kernel_rfl) rfl)
    (values_stops F (n - 1) h7 hro (by omega) Bs o w.heap.size sv zs hbytes _ (by simp; omega) (by simp) ((hB0.cell (p := ⟨Bs, o, none⟩) hBs).trans hc) (hI.below hB0)) belowK_t (belowK_b (by simp)) (Below.refl _ _) (fun _ => rfl)
    (fun pre W => (∃ v, Boxed W w.heap.size 29 v ∧ W.ownsRow w.heap.size 9 1 v pre.length (pre.map sV) ∧ (v = .slice none 0 0 ↔ pre = [])) ∧ Below w.heap.size w W)
    (fun _ _ _ => False)
    (OwnFrom.and (Own.from (holdsRow_own w.heap.size w.heap.size 29 9 1 (fun pre => pre.length) (fun pre => pre.map sV) (fun pre v => v = .slice none 0 0 ↔ pre = [])) _) (ownFrom_below (Nat.le_refl _) (by simp)))
    (fun _ _ _ _ _ hs _ _ => hs)
    ⟨⟨_, bO, World.ownsRow_nil _ _ _ _, by simp⟩, hB0⟩
    (fun x => { tmps := #[.slice none 0 0, .func (.func 281) #[] #[.pointer (some ⟨Bs, o, none⟩)], .pointer (some ⟨w.heap.size, 0, none⟩), undef, .slice none 0 0, .string (str x), .func (.func 281) #[] #[.pointer (some ⟨Bs, o, none⟩)], .string (str x), undef, undef, undef, undef, undef], defers := [] }) ?assign ?body ?done ?stop
  case assign =>
    intro l x W K hK
    gi_wp2
    exact hK
  case body =>
    rintro l pre x W ⟨⟨v, hv, hrow, hnil⟩, hB⟩ hlt
    have hc := hv.cell
    gi_wp2_with (gi_at_builtin; refine wpListIn_append_own _ rfl _ _ 29 rfl w.heap.size 9 i0 (.string ⟨#[]⟩) 1 16 Tryz.underlying29 hi hz0 hz1 hz2 rfl (by decide) _ _ _ rfl (hrow.alloc _) ⟨W.heap.size, 0, none⟩ 1 1 [.string (str x)] rfl rfl (cell_one_new _ _ _) (by simp [Value.oneCell']) (by omega) (by omega) (by have := hB.size; simp; omega) ?_; intro v' w1 hown' hgrow _; obtain ⟨g', cap', rfl⟩ := ownsRow_succ hown'; obtain ⟨hv1, hv2, hr2, hk2, hb2⟩ := hv.appended (by decide) hrow hB.size (Nat.le_refl _) hown' hgrow; have hc1 := hv1.cell; have hf1 := hv1.frozen)
    exact ⟨hk2.from _, hb2, ⟨_, hv2, by simpa [sV] using hr2, by simp⟩, hB.trans hb2⟩
  case done =>
    rintro D ys W hD rfl ⟨⟨v, hv, hrow, hnil⟩, hB⟩ hK
    have hc := hv.cell
    gi_wp2
    refine ⟨by simp, .inl ⟨_, _, rfl, run_takeDeferred hK, ?_⟩⟩
    exact ⟨_, results_tmp rfl _ _ _, v, rfl, ownsRow_putObj hrow _ hK rfl, hB.trans (belowK_b (w := w) (Nat.le_refl _) W D _ _ (by simp at hD; omega) hK rfl rfl)⟩
  case stop =>
    rintro D c pre W _ _ h _
    exact h.elim
theorem appendSeq_plain (Bs o : Nat) (sv : Value) (zs : List (List UInt8)) (hlen : zs.length ≤ maxLen) (hbytes : zs.length * 16 ≤ 140737488351232) (w : World) (hBs : Bs < w.heap.size)
    (hc : w.cell? ⟨Bs, o, none⟩ = some sv) (hI : Strs w.heap.size w sv zs) :
    Calls Tryz.prog 298 #[.slice none 0 0, .func (.func 281) #[] #[.pointer (some ⟨Bs, o, none⟩)]] w fun e W' => ∃ v, e = .returned v ∧ W'.ownsRow w.heap.size 9 1 v zs.length (zs.map sV) ∧ Below w.heap.size w W' :=
  calls_of_every_depth (L := [298, 281]) (n := 3) fun D => appendSeq_in _ 3 (by simp [Fence.list]) (by simp [Fence.list]) rfl (Nat.le_refl _) Bs o sv zs hlen hbytes w hBs hc hI
end
section
open Go.RowKit Go.Sort
def sA (l : List (List UInt8)) : List (List AV) := l.map fun s => [AV.c (.v (.string (str s)))]
def sB (l : List (List UInt8)) : Blkd := ⟨true, 9, 1, sA l⟩
theorem sA_len (l : List (List UInt8)) : (sA l).length = l.length := by simp [sA]
theorem sA_ren (ρ : Nat → Nat) (l : List (List UInt8)) : (sA l).map (AV.renL ρ) = sA l := by
  induction l with
  | nil => rfl
  | cons x l ih => show AV.renL ρ _ :: (sA l).map _ = _; rw [ih]; rfl
theorem sA_sc {used : Nat → Prop} {h : Nat → Option Blkd} (l : List (List UInt8)) : (∀ e ∈ sA l, ∀ x ∈ e, Sc used h x) = True := eq_true fun e he x hx => by
  obtain ⟨b, _, rfl⟩ := List.mem_map.1 he
  simp at hx
  subst hx
  exact .c
theorem sA_flat (l : List (List UInt8)) : (sA l).flatten = l.map fun s => AV.c (.v (.string (str s))) := by
  induction l with
  | nil => rfl
  | cons x l ih => show _ ++ (sA l).flatten = _; rw [ih]; rfl
theorem own_of_brep {W : World} {ro : Nat → Prop} {φ : Nat → Value} {h : Nat → Option Blkd} {j : Nat} {l : List (List UInt8)} (hB : BRep W ro φ h j (sB l)) : W.ownsRow 0 9 1 (φ j) l.length (l.map sV) := by
  obtain ⟨h1, h2, vs, h3, h4⟩ := hB
  rw [if_pos (show (sB l).row = true from rfl)] at h4
  have hvs : vs = l.map sV := by
    have h5 : RepL W ro φ h (l.map fun s => AV.c (.v (.string (str s)))) vs := by rw [← sA_flat]; exact h3
    apply List.ext_getElem?
    intro k
    by_cases hk : k < l.length
    · have hkv : k < vs.length := by rw [h5.1]; simpa using hk
      have := h5.2 k _ _ (by rw [List.getElem?_map, List.getElem?_eq_getElem hk]; rfl) (List.getElem?_eq_getElem hkv)
      rw [List.getElem?_eq_getElem hkv, rep_prim this, List.getElem?_map, List.getElem?_eq_getElem hk]
      rfl
    · rw [List.getElem?_eq_none (by rw [h5.1]; simpa using hk), List.getElem?_eq_none (by simpa using hk)]
  subst hvs
  have : (sB l).len = l.length := sA_len l
  rw [this] at h4
  exact h4
theorem brep_of_own {W : World} {ro : Nat → Prop} {φ : Nat → Value} {h : Nat → Option Blkd} {j : Nat} {l : List (List UInt8)} (ho : W.ownsRow 0 9 1 (φ j) l.length (l.map sV)) : BRep W ro φ h j (sB l) := by
  refine ⟨fun i e he => ?_, fun e he x hx => ?_, l.map sV, ?_, ?_⟩
  · obtain ⟨s, _, rfl⟩ := List.mem_map.1 (List.mem_of_getElem? he)
    rfl
  · obtain ⟨s, _, rfl⟩ := List.mem_map.1 he
    simp at hx
    subst hx
    rfl
  · show RepL W ro φ h (sA l).flatten _
    rw [sA_flat]
    refine ⟨by simp, fun k x v hx hv => ?_⟩
    rw [List.getElem?_map] at hx hv
    obtain ⟨s, h1, rfl⟩ := Option.map_eq_some_iff.1 hx
    rw [h1] at hv
    obtain rfl := Option.some.inj hv
    exact .c (.v rfl)
  · rw [if_pos (show (sB l).row = true from rfl)]
    have : (sB l).len = l.length := sA_len l
    rw [this]
    exact ho
theorem hok_one {W : World} {ro : Nat → Prop} {φ : Nat → Value} {B : Blkd} (hB : BRep W ro φ (LentL [some B]) 1000000 B) (ho : ∀ b, blkOf (φ 1000000) = some b → ¬ ro b) : HOk W ro φ (LentL [some B]) := by
  have key : ∀ j B1, LentL [some B] j = some B1 → j = 1000000 ∧ B1 = B := by
    intro j B1 hj
    obtain ⟨h1, h2⟩ := lentL_some hj
    have h3 := (List.getElem?_eq_some_iff.1 h2).1
    simp at h3
    obtain rfl : j = 1000000 := by omega
    simp at h2
    exact ⟨rfl, h2.symm⟩
  refine ⟨fun j B1 hj => ?_, fun j k B1 B2 b hj hk hne => ?_, fun j B1 b hj hb => ?_⟩
  · obtain ⟨rfl, rfl⟩ := key j B1 hj
    exact hB
  · exact absurd ((key j B1 hj).1.trans (key k B2 hk).1.symm) hne
  · obtain ⟨rfl, rfl⟩ := key j B1 hj
    exact ho b hb
theorem row_arg {W : World} {ro : Nat → Prop} {φ : Nat → Value} {B : Blkd} {vs : List Value} {n : Nat} (hn : B.len = n) (hl : RepL W ro φ (LentL ([B].map some)) [.row 1000000 n] vs) : vs = [φ 1000000] := by
  obtain ⟨h1, h2⟩ := hl
  match vs, h1, h2 with
  | [v], _, h2 =>
    have := h2 0 _ v rfl rfl
    cases this with
    | row _ hv => rw [hv B (by simp [LentL]) hn]
def srt (l : List (List UInt8)) : List (List UInt8) := l.mergeSort fun x y => decide (x ≤ y)
theorem srt_len (l : List (List UInt8)) : (srt l).length = l.length := by simp [srt]
theorem appendSeq_told (l : List (List UInt8)) (hl : l.length ≤ 4294967296) :
    ToldM Tryz.prog 298 [.c (.v (.slice none 0 0)), .fn (.func 281) [] [.pp [.sl 1 (l.map sPV)]]] [] [some (sB l)] (.row 1000000 l.length) := by
  refine ⟨ent_298, trivial, ⟨?_, ?_⟩, fun W ro φ vs hro hgk hal hok => ?_⟩
  · exact .row ⟨by omega, by simp⟩ fun B hB => by simp [LentL] at hB; subst hB; exact Nat.le_of_eq (sA_len l).symm
  · intro b hb B hB e he
    simp at hb
    subst hb
    obtain rfl := Option.some.inj hB
    exact fun x hx => (of_eq_true (sA_sc l)) e he x hx
  · obtain ⟨h1, h2⟩ := hal
    match vs, h1, h2 with
    | [v0, v1], _, h2 =>
      have e0 := rep_prim (h2 0 _ v0 rfl rfl)
      have e1 := h2 1 _ v1 rfl rfl
      subst e0
      cases e1 with
      | @fn _ _ _ us us' q1 q2 q3 q4 =>
        obtain rfl : us = [] := List.eq_nil_of_length_eq_zero q1
        match us', q3, q4 with
        | [p], _, q4 =>
          have e2 := q4 0 _ p rfl rfl
          cases e2 with
          | @pp _ b off vs hb hc hp =>
            match vs, hp with
            | [sv], hp =>
              have hsv := hp.2 0 _ sv rfl rfl
              have hcell : W.cell? ⟨b, off, none⟩ = some sv := by have := hc 0 (by simp); simpa using this
              have hS : Strs W.heap.size W sv l := by
                cases hsv with
                | @sl _ _ a c vss hn hcc hnil ha hll hz hz' hx =>
                  refine ⟨a, c, by simp, fun hne => ?_⟩
                  obtain ⟨b', off', rfl, hb', hcs⟩ := ha (by simpa using hne)
                  refine ⟨b', off', rfl, hro b' hb', fun j hj => ?_⟩
                  have hjv : j < vss.length := by rw [hll]; simpa using hj
                  have hvj := List.getElem?_eq_getElem hjv
                  have hlen := hz' j _ hvj
                  have hx1 := hx j 0 (sPV l[j]) vss[j] (.v (.string (str l[j]))) (vss[j]'hjv)[0] (by rw [List.getElem?_map, List.getElem?_eq_getElem hj]; rfl) hvj rfl (List.getElem?_eq_getElem _)
                  have hcc := hcs j _ hvj 0 (by omega)
                  rw [List.getElem?_eq_getElem (by omega)] at hcc
                  have hxe := rep_prim (h := h0) (φ := φ0) (.c hx1)
                  rw [Nat.mul_one, Nat.add_zero] at hcc
                  rw [hcc, hxe, List.getElem?_eq_getElem hj]
                  rfl
              refine (appendSeq_plain b off sv l (by unfold maxLen; omega) (by omega) W (hro b hb) hcell hS).mono ?_
              rintro e W' ⟨v, rfl, hown, hbel⟩
              have hlt := World.ownsRow.lt hown
              refine ⟨v, ro, fun _ => v, rfl, ⟨hbel.os, hbel.tape, hbel.output, hbel.size, fun k hk _ => hbel.block k hk⟩, fun b h => h, fun b h => ⟨.inl h, Nat.lt_of_lt_of_le (hro b h) hbel.size⟩, ?_, ?_, ?_, ?_⟩
              · exact .row (by rcases hown.2 with ⟨q, _⟩ | ⟨_, _, _, q, _⟩ <;> rw [q] <;> rfl) fun B hB hn => rfl
              · refine hok_one (brep_of_own ?_) fun b hb' hrb => ?_
                · refine ⟨hown.1, ?_⟩
                  rcases hown.2 with h9 | ⟨g, cap, cur, h9, _, h10⟩
                  · exact .inl h9
                  · exact .inr ⟨g, cap, cur, h9, Nat.zero_le _, h10⟩
                · have := (hlt b (by rw [← own_blk hown]; exact hb')).1
                  have := hro b hrb
                  omega
              · intro j B' hj; exact absurd hj.2 (by have := hj.1; simp; omega)
              · intro j B b hj hb'
                exact .inl (hlt b (by rw [← own_blk hown]; exact hb')).1
theorem sort_told (l : List (List UInt8)) (hl : l.length ≤ 4294967296) : ToldM Tryz.prog 280 [.row 1000000 l.length] [sB l] [some (sB (srt l))] (.tup []) := by
  refine ⟨ent_280, ⟨rfl, trivial⟩, ⟨.tup (by simp), ?_⟩, fun W ro φ vs hro hgk hal hok => ?_⟩
  · intro b hb B hB e he
    simp at hb
    subst hb
    obtain rfl := Option.some.inj hB
    exact fun x hx => (of_eq_true (sA_sc (srt l))) e he x hx
  · obtain rfl := row_arg (B := sB l) (sA_len l) hal
    have hlen : LentL ([sB l].map some) 1000000 = some (sB l) := by simp [LentL]
    have hown := own_of_brep (hok.hp 1000000 _ hlen)
    have fin : ∀ W', W.grownBy W' (φ 1000000).ownBlock → W'.ownsRow 0 9 1 (φ 1000000) (srt l).length ((srt l).map sV) →
        ∃ v ro' φ', Ending.returned (.tuple #[]) = .returned v ∧ Keeps (fun b => ∃ j B, LentL ([sB l].map some) j = some B ∧ blkOf (φ j) = some b) W W' ∧ (∀ b, ro b → ro' b) ∧
          (∀ b, ro' b → (ro b ∨ W.heap.size ≤ b ∨ ∃ j B, LentL ([sB l].map some) j = some B ∧ blkOf (φ j) = some b) ∧ b < W'.heap.size) ∧ Rep W' ro' φ' (LentL [some (sB (srt l))]) (.tup []) v ∧ HOk W' ro' φ' (LentL [some (sB (srt l))]) ∧
          Goes (inL [sB l].length) φ φ' (LentL ([sB l].map some)) (LentL [some (sB (srt l))]) ∧ (∀ j B b, LentL [some (sB (srt l))] j = some B → blkOf (φ' j) = some b → W.heap.size ≤ b ∨ ∃ j B, LentL ([sB l].map some) j = some B ∧ blkOf (φ j) = some b) := by
      intro W' hg ho
      refine ⟨_, ro, φ, rfl, ⟨hg.os, hg.tape, hg.output, hg.size, fun k hk hm => hg.block k hk fun e => hm ⟨1000000, _, hlen, by rw [own_blk hown, e]⟩⟩, fun b h => h, fun b h => ⟨.inl h, Nat.lt_of_lt_of_le (hro b h) hg.size⟩, .tup (vs := []) rfl (by simp), hok_one (brep_of_own ho) fun b hb => hok.own 1000000 _ b hlen hb, ?_, ?_⟩
      · intro j B' hj hB'
        obtain rfl : j = 1000000 := by have := hj.1; have := hj.2; simp at this; omega
        simp [LentL] at hB'
        subst hB'
        exact ⟨_, hlen, .inr ⟨by show (sA l).length = (sA (srt l)).length; rw [sA_len, sA_len, srt_len], rfl, rfl⟩⟩
      · intro j B b hj hb
        obtain ⟨h1, h2⟩ := lentL_some hj
        have h3 := (List.getElem?_eq_some_iff.1 h2).1
        simp at h3
        obtain rfl : j = 1000000 := by omega
        exact .inr ⟨1000000, _, hlen, hb⟩
    rcases hown.2 with ⟨h1, h2⟩ | ⟨g, cap, cur, h1, _, h2, h3, h4, h5, h6⟩
    · obtain rfl : l = [] := List.eq_nil_of_length_eq_zero h2
      rw [h1]
      refine (Tryz.slices_Sort_string_none none 0 W).mono ?_
      rintro e W' ⟨rfl, rfl⟩
      exact fin W' ⟨rfl, rfl, rfl, Nat.le_refl _, fun _ _ _ => rfl⟩ (by rw [show srt [] = [] from by simp [srt]]; exact hown)
    · have hH : Holds encStr W g 0 l.toArray := holds_of_block h2 (by rw [← Nat.mul_one l.length]; exact h6)
      rw [h1]
      refine (Tryz.slices_Sort_string g 0 cap l W hH (Array.getElem?_eq_some_iff.1 h2).1 (by omega)).mono ?_
      rintro e W' ⟨rfl, n, os, rfl⟩
      refine fin _ ?_ ?_
      · rw [h1]; exact grownBy_sorted _
      · rw [h1]
        have := ownsRow_sorted (n := n) (os := os) (ts := srt l) (srt_len l) (Nat.zero_le g) h2 h3 h4 h5
        rw [srt_len]
        exact this
theorem lentL_gone (j : Nat) : LentL [none] j = none := by
  unfold LentL
  split
  · cases h : j - 1000000 with
    | zero => rfl
    | succ k => rfl
  · rfl
theorem compact_len (l : List (List UInt8)) : (Lib.compact l).length ≤ l.length := by
  unfold Lib.compact Lib.compactUpTo
  rw [List.length_map]
  exact Nat.le_trans (List.length_filter_le _ _) (by simp)
theorem compact_told (l : List (List UInt8)) (hl : l.length ≤ 4294967296) : ToldM Tryz.prog 253 [.row 1000000 l.length] [sB l] [none] (.c (.sl 1 ((Lib.compact l).map sPV))) := by
  refine ⟨ent_253, trivial, ⟨.c, fun b hb B hB => by simp at hb; subst hb; simp at hB⟩, fun W ro φ vs hro hgk hal hok => ?_⟩
  obtain rfl := row_arg (B := sB l) (sA_len l) hal
  have hlen : LentL ([sB l].map some) 1000000 = some (sB l) := by simp [LentL]
  have hown := own_of_brep (hok.hp 1000000 _ hlen)
  have hbl : ∀ b, blkOf (φ 1000000) = some b → b < W.heap.size := fun b hb => (World.ownsRow.lt hown b (by rw [← own_blk hown]; exact hb)).2
  have fin : ∀ (W' : World) (u : Value), W.grownBy W' (φ 1000000).ownBlock → PRep W' (fun b => ro b ∨ blkOf (φ 1000000) = some b) (.sl 1 ((Lib.compact l).map sPV)) u →
      ∃ v ro' φ', Ending.returned u = .returned v ∧ Keeps (fun b => ∃ j B, LentL ([sB l].map some) j = some B ∧ blkOf (φ j) = some b) W W' ∧ (∀ b, ro b → ro' b) ∧
        (∀ b, ro' b → (ro b ∨ W.heap.size ≤ b ∨ ∃ j B, LentL ([sB l].map some) j = some B ∧ blkOf (φ j) = some b) ∧ b < W'.heap.size) ∧ Rep W' ro' φ' (LentL [none]) (.c (.sl 1 ((Lib.compact l).map sPV))) v ∧ HOk W' ro' φ' (LentL [none]) ∧
        Goes (inL [sB l].length) φ φ' (LentL ([sB l].map some)) (LentL [none]) ∧ (∀ j B b, LentL [none] j = some B → blkOf (φ' j) = some b → W.heap.size ≤ b ∨ ∃ j B, LentL ([sB l].map some) j = some B ∧ blkOf (φ j) = some b) := by
    intro W' u hg hu
    refine ⟨u, _, φ, rfl, ⟨hg.os, hg.tape, hg.output, hg.size, fun k hk hm => hg.block k hk fun e => hm ⟨1000000, _, hlen, by rw [own_blk hown, e]⟩⟩, fun b h => .inl h, fun b h => ?_, .c hu, ⟨fun j B hj => ?_, fun j k B B' b hj => ?_, fun j B b hj => ?_⟩, fun j B hj hB => ?_, fun j B b hj => ?_⟩
    · rcases h with h | h
      · exact ⟨.inl h, Nat.lt_of_lt_of_le (hro b h) hg.size⟩
      · exact ⟨.inr (.inr ⟨1000000, _, hlen, h⟩), Nat.lt_of_lt_of_le (hbl b h) hg.size⟩
    all_goals first | (rw [lentL_gone] at hj; simp at hj) | (rw [lentL_gone] at hB; simp at hB)
  rcases hown.2 with ⟨h1, h2⟩ | ⟨g, cap, cur, h1, _, h2, h3, h4, h5, h6⟩
  · obtain rfl : l = [] := List.eq_nil_of_length_eq_zero h2
    rw [h1]
    refine (Tryz.slices_Compact_string_empty none 0 W).mono ?_
    rintro e W' ⟨rfl, rfl⟩
    exact fin W' _ ⟨rfl, rfl, rfl, Nat.le_refl _, fun _ _ _ => rfl⟩ (PRep.nil _ _ _)
  · have hH : Holds encStr W g 0 l.toArray := holds_of_block h2 (by rw [← Nat.mul_one l.length]; exact h6)
    rw [h1]
    refine (Tryz.slices_Compact_string g 0 cap l W hH (by omega) h3).mono ?_
    rintro e W' ⟨rfl, q, rfl⟩
    obtain ⟨ts, hts⟩ : ∃ ts, ts = Lib.compact l ++ List.replicate (l.length - (Lib.compact l).length) [] := ⟨_, rfl⟩
    have hcl := compact_len l
    have htl : ts.length = l.length := by rw [hts]; simp; omega
    rw [← hts]
    have hg := grownBy_sorted (w := W) (g := g) (n := q) (os := #[]) ts.toArray
    have ho := ownsRow_sorted (n := q) (os := #[]) (ts := ts) htl (Nat.zero_le g) h2 h3 h4 h5
    rw [grow_empty] at hg ho
    refine fin _ _ (by rw [h1]; exact hg) ?_
    rcases ho.2 with ⟨h7, _⟩ | ⟨g', cap', cur', h7, _, h8, h9, h10, h11, h12⟩
    · simp at h7
    · obtain ⟨rfl, rfl⟩ : g = g' ∧ cap = cap' := by simpa using h7
      have hm : ((Lib.compact l).map sPV).length = (Lib.compact l).length := by simp
      rw [← hm]
      refine .sl (vss := (Lib.compact l).map fun s => [sV s]) (by rw [hm]; omega) (by unfold maxLen at h4; omega) (fun h => by simp at h) (fun hne => ⟨g, 0, rfl, .inr (by rw [h1]; rfl), fun i vs hi => ?_⟩) (by simp) (fun i e he => ?_) (fun i vs hi => ?_) (fun i j e vs p v he hvs hp hv => ?_)
      · rw [List.getElem?_map] at hi
        obtain ⟨s, h13, rfl⟩ := Option.map_eq_some_iff.1 hi
        intro j hj
        obtain rfl : j = 0 := by simpa using hj
        have h14 : (cur'.toList.take (l.length * 1))[i]? = some (sV s) := by
          rw [h12, List.getElem?_map, hts, List.getElem?_append_left (List.getElem?_eq_some_iff.1 h13).1, h13]; rfl
        have hi2 : i < l.length := by have := (List.getElem?_eq_some_iff.1 h13).1; omega
        rw [List.getElem?_take_of_lt (by omega)] at h14
        have := cells_of_take h8 (l.length * 1) i (by rw [List.length_take]; simp; omega)
        rw [Nat.zero_add, List.getElem?_take_of_lt (by omega), h14] at this
        simpa using this
      · obtain ⟨s, _, rfl⟩ := List.mem_map.1 (List.mem_of_getElem? he); rfl
      · obtain ⟨s, _, rfl⟩ := List.mem_map.1 (List.mem_of_getElem? hi); rfl
      · rw [List.getElem?_map] at he hvs
        obtain ⟨s, h13, rfl⟩ := Option.map_eq_some_iff.1 he
        rw [h13] at hvs
        obtain rfl := Option.some.inj hvs
        match j, hp, hv with
        | 0, hp, hv =>
          obtain rfl := Option.some.inj hp
          obtain rfl := Option.some.inj hv
          exact .v rfl
end
section
attribute [local go_sem] opx opE ev okx gcond bnd okO AV.get AV.okb cAV upd_at putd_some putd_none wrs_nil wrs_cons look_nil look_cons st argT_at bpick_and bpick_or bpick_true bpick_false binV binI binS binVOk binOk isShift binSOk unV unVOk loadV loadP cellsA zeroA Blkd.len setE grown moreA moreR moreOk eqRes pv fillA fillE putSeg AV.cellish AV.pureL AV.pureB lentL_is ex_some AV.ren AV.renL renL_c Blkd.ren rho wrM renN lentOk rhoE keepM endOk tyA_2 tyA_3 tyA_4 tyA_5 tyA_6 tyA_7 tyA_8 tyA_9 tyA_10 tyA_11 tyA_12 tyA_13 tyA_14 tyA_15 tyA_16 tyA_17 tyA_18 tyA_19 tyA_21 tyA_22 tyA_23 tyA_24 tyA_29 tyA_30 tyA_31 tyA_32 tyA_33 tyA_34 tyA_35 tyA_36 tyA_37 tyA_38 tyA_39 tyA_40 tyA_41 tyA_42 tyA_43 tyA_48 tyA_89 tyA_93 tyA_107 tyA_108 tyA_109 tyA_113 tyA_114 tyA_115 tyA_116 tyA_117 tyA_119 tyA_120 tyA_121 tyA_122 tyA_131 tyA_134 tyA_135 tyA_136 tyA_137 tyA_138 tyA_154 tyA_156 tyA_157 tyA_158 tyA_159 tyA_170 tyA_180 tyA_181 tyA_182 tyA_196 tyA_202 tyA_208 tyA_209 tyA_210 tyA_211 tyA_212 tyA_213 tyA_229 tyA_230 tyA_231 tyA_241 tyA_264 tyA_268 tyA_293 tyA_294 tyA_295 tyA_311 tyA_313 tyA_321 tyA_326 tyA_334 tyA_338 tyA_340 tyA_343 tyA_344 tyA_345 tyA_346 tyA_347 tyA_348 tyA_349 tyA_351 tyA_352 Option.map_some Option.map_none Option.getD_some Option.getD_none Option.bind_some Option.bind_none List.getElem?_cons_zero List.getElem?_cons_succ List.getElem?_nil List.getElem?_toArray List.length_cons List.length_nil List.length_map List.forall_mem_map List.map_cons List.map_nil List.drop_zero List.drop_succ_cons List.drop_nil List.take_zero List.take_succ_cons List.take_nil List.mem_cons List.not_mem_nil or_false forall_eq_or_imp forall_eq List.set_cons_zero List.set_cons_succ List.cons_append List.nil_append List.append_nil List.foldl_cons List.foldl_nil List.replicate_succ List.replicate_zero List.all_cons List.all_nil if_true if_false Bool.false_eq_true ne_eq not_false_eq_true not_true_eq_false true_and and_true and_self true_implies imp_self implies_true forall_const beq_self_eq_true Bool.and_true Bool.true_and Bool.and_false Bool.false_and Bool.or_true Bool.true_or Bool.or_false Bool.false_or Bool.not_true Bool.not_false Bool.not_eq_eq_eq_not intKindOf Value.oneCell' Int.toNat_natCast beq_true beq_false Bool.not_eq_true false_implies false_or true_or or_true Nat.zero_add Nat.add_zero decide_true decide_false Int.cast_ofNat_Int Int.toNat_zero Int.toNat_one eq_self

mutual
def JT.sm (N : Nat) : JT → Prop
  | .mk k n s ks xs => s.length ≤ N ∧ ks.length ≤ N ∧ (∀ y ∈ ks, y.length ≤ N) ∧ xs.length ≤ N ∧ JT.smL N xs
def JT.smL (N : Nat) : List JT → Prop
  | [] => True
  | x :: xs => x.sm N ∧ JT.smL N xs
end
theorem smL_mem {N : Nat} : ∀ {xs : List JT}, JT.smL N xs → ∀ x ∈ xs, x.sm N
  | x :: xs, h, y, hy => by
    rcases List.mem_cons.1 hy with rfl | hy
    · exact h.1
    · exact smL_mem h.2 y hy
def jbare : JT → Bool
  | .mk k n s ks xs =>
    if k = 1 then (n == 0) && s.isEmpty && xs.isEmpty else if k = 2 then (n == 0 || n == 1) && s.isEmpty && xs.isEmpty else if k = 3 then s.isEmpty && xs.isEmpty
    else if k = 4 then (n == 0) && xs.isEmpty && isRight s else if k = 5 ∨ k = 6 then (n == 0) && s.isEmpty else false
theorem str_empty (s : List UInt8) : (!((str s).toList == (⟨#[]⟩ : ByteArray).toList)) = !s.isEmpty := by
  rw [str_toList, show (⟨#[]⟩ : ByteArray) = str [] from rfl, str_toList]
  cases s <;> rfl
theorem nn_eq (n m : Int) : (!(n != m)) = (n == m) := by cases h : n == m <;> simp_all [bne]
set_option maxRecDepth 100000 in
set_option maxHeartbeats 800000 in
theorem jbare_told (t : JT) (ht : t.sm 140737488355328) : Told Tryz.prog 198 [t.av] (.c (.v (.bool (jbare t)))) := by
  cases t with
  | mk k n s ks xs =>
  have hs : s.length ≤ 140737488355328 := ht.1
  have hR := uright_told s (by omega)
  refine VC.told ent_198 Tryz.func198 rfl Tryz.ntmps198 (by simp) rfl rfl fun hb => ?_
  clear hb
  have g1 : decide ((xs.length : Int) > 0) = !xs.isEmpty := by cases xs <;> simp <;> omega
  refine walkGF (And.intro @JT.av_eq (And.intro @cells_mk (And.intro @str_empty g1))) ?_
  refine VC.cond (by rfl) (by trivial) (fun h1 => ?_) (fun h1 => ?_)
  · refine walkG ?_
    refine ⟨by first | exact .inr rfl | exact .inl rfl, ?_⟩; rw [Tryz.results198]; simp only [resOk, resV, go_sem, Int.reduceBEq, Int.reduceLE, Int.reduceLT, Int.reduceNeg, Nat.reduceAdd, Nat.reduceEqDiff, Nat.reduceLT, Nat.reduceLeDiff, Nat.reduceMul, Nat.reduceSub, reduceCtorEq, ↓reduceIte]
    refine frz_c ?_
    simp only [beq_iff_eq] at h1
    simp only [jbare, h1, if_true, nn_eq, bpick_and, Bool.not_not]
  refine walkGF (And.intro @JT.av_eq @cells_mk) ?_
  refine VC.cond (by rfl) (by trivial) (fun h2 => ?_) (fun h2 => ?_)
  · refine walkGF (And.intro @cells_mk (And.intro @str_empty g1)) ?_
    refine ⟨by first | exact .inr rfl | exact .inl rfl, ?_⟩; rw [Tryz.results198]; simp only [resOk, resV, go_sem, Int.reduceBEq, Int.reduceLE, Int.reduceLT, Int.reduceNeg, Nat.reduceAdd, Nat.reduceEqDiff, Nat.reduceLT, Nat.reduceLeDiff, Nat.reduceMul, Nat.reduceSub, reduceCtorEq, ↓reduceIte]
    refine frz_c ?_
    obtain rfl : k = 2 := by simpa using h2
    simp [jbare]
  refine walkGF (And.intro @JT.av_eq @cells_mk) ?_
  refine VC.cond (by rfl) (by trivial) (fun h3 => ?_) (fun h3 => ?_)
  · refine walkGF (And.intro @cells_mk (And.intro @str_empty g1)) ?_
    refine ⟨by first | exact .inr rfl | exact .inl rfl, ?_⟩; rw [Tryz.results198]; simp only [resOk, resV, go_sem, Int.reduceBEq, Int.reduceLE, Int.reduceLT, Int.reduceNeg, Nat.reduceAdd, Nat.reduceEqDiff, Nat.reduceLT, Nat.reduceLeDiff, Nat.reduceMul, Nat.reduceSub, reduceCtorEq, ↓reduceIte]
    refine frz_c ?_
    obtain rfl : k = 3 := by simpa using h3
    simp [jbare]
  refine walkGF (And.intro @JT.av_eq @cells_mk) ?_
  refine VC.cond (by rfl) (by trivial) (fun h4 => ?_) (fun h4 => ?_)
  · obtain rfl : k = 4 := by simpa using h4
    refine walkGF (And.intro @cells_mk (And.intro @str_empty (And.intro g1 (And.intro @str_size hs)))) ?_
    refine walkDF (@str_dl) (hR) ?_
    refine walkG ?_
    refine ⟨by first | exact .inr rfl | exact .inl rfl, ?_⟩; rw [Tryz.results198]; simp only [resOk, resV, go_sem, Int.reduceBEq, Int.reduceLE, Int.reduceLT, Int.reduceNeg, Nat.reduceAdd, Nat.reduceEqDiff, Nat.reduceLT, Nat.reduceLeDiff, Nat.reduceMul, Nat.reduceSub, reduceCtorEq, ↓reduceIte]
    refine frz_c ?_
    simp only [jbare, nn_eq, bpick_and, Bool.not_not]
    simp
  refine walkGF (And.intro @JT.av_eq @cells_mk) ?_
  refine VC.cond (by rfl) (by trivial) (fun h5 => ?_) (fun h5 => ?_)
  · obtain rfl : k = 5 := by simpa using h5
    refine walkGF (@cells_mk) ?_
    refine VC.condT (by rfl) (by trivial) ?_
    refine walkGF (And.intro @cells_mk (And.intro @str_empty g1)) ?_
    refine ⟨by first | exact .inr rfl | exact .inl rfl, ?_⟩; rw [Tryz.results198]; simp only [resOk, resV, go_sem, Int.reduceBEq, Int.reduceLE, Int.reduceLT, Int.reduceNeg, Nat.reduceAdd, Nat.reduceEqDiff, Nat.reduceLT, Nat.reduceLeDiff, Nat.reduceMul, Nat.reduceSub, reduceCtorEq, ↓reduceIte]
    refine frz_c ?_
    simp only [jbare, nn_eq, bpick_and, Bool.not_not]
    simp
  refine walkGF (And.intro @JT.av_eq @cells_mk) ?_
  refine VC.cond (by rfl) (by trivial) (fun h6 => ?_) (fun h6 => ?_)
  · obtain rfl : k = 6 := by simpa using h6
    refine walkGF (And.intro @cells_mk (And.intro @str_empty g1)) ?_
    refine ⟨by first | exact .inr rfl | exact .inl rfl, ?_⟩; rw [Tryz.results198]; simp only [resOk, resV, go_sem, Int.reduceBEq, Int.reduceLE, Int.reduceLT, Int.reduceNeg, Nat.reduceAdd, Nat.reduceEqDiff, Nat.reduceLT, Nat.reduceLeDiff, Nat.reduceMul, Nat.reduceSub, reduceCtorEq, ↓reduceIte]
    refine frz_c ?_
    simp only [jbare, nn_eq, bpick_and, Bool.not_not]
    simp
  · refine walkGF (And.intro @cells_mk (And.intro @str_empty g1)) ?_
    refine ⟨by first | exact .inr rfl | exact .inl rfl, ?_⟩; rw [Tryz.results198]; simp only [resOk, resV, go_sem, Int.reduceBEq, Int.reduceLE, Int.reduceLT, Int.reduceNeg, Nat.reduceAdd, Nat.reduceEqDiff, Nat.reduceLT, Nat.reduceLeDiff, Nat.reduceMul, Nat.reduceSub, reduceCtorEq, ↓reduceIte]
    refine frz_c ?_
    simp only [beq_eq_false_iff_ne] at h1 h2 h3 h4 h5 h6
    simp [jbare, h1, h2, h3, h4, h5, h6]
end
end Go.Proofs.YtkaogeogjjcdhaaGreatDoor
