/- Texts that lead to the law SkipReads, joined. -/
import Derived.Test.YtepneflbhpidbaaGreatDoorProg
import Derived.WalkKit
import Derived.WalkSpells
import Derived.WalkLawsBesides
import Derived.Handy
import Derived.Lib.Hide
import Derived.Laws.BytesArg
import Derived.Lib.SlBytesConst
import Derived.Test.YtepneflbhpidbaaGreatDoorPkSkipReadsXTy
import Derived.Test.YtepneflbhpidbaaGreatDoorPkSkipReadsXAc
import Derived.Test.YtepneflbhpidbaaGreatDoorPkSkipReadsXAbB
import Derived.Laws.CopyOwn
namespace Go.Proofs.YtepneflbhpidbaaGreatDoor
set_option maxRecDepth 100000
set_option maxHeartbeats 6400000
open Go.RowKit
set_option linter.unusedVariables false
set_option linter.unusedSimpArgs false

def BytesAt (w : World) (a : Option Addr) (b off : Nat) (l : List UInt8) : Prop :=
 (l ≠ [] → a = some ⟨b, off, none⟩) ∧ ∀ j, j < l.length → w.cell? ⟨b, off + j, none⟩ = some (.int .u8 ((l[j]?.getD 0).toNat : Int))
def str (l : List UInt8) : ByteArray := ⟨l.toArray⟩
theorem str_toList (l : List UInt8) : (str l).toList = l := by rw [ByteArray.toList_eq]; rfl
theorem str_size (l : List UInt8) : (str l).size = l.length := by simp [str, ByteArray.size]
theorem str_of (s : ByteArray) : str s.data.toList = s := by cases s; rfl
theorem BytesAt.keep {w w' : World} {a : Option Addr} {b off : Nat} {l : List UInt8} (h : BytesAt w a b off l) {B : Nat} (hb : Below B w w') (hlt : l ≠ [] → b < B) : BytesAt w' a b off l := by
 refine ⟨h.1, fun j hj => ?_⟩
 rw [← h.2 j hj]
 exact hb.cell (p := ⟨b, off + j, none⟩) (hlt (by intro e; subst e; simp at hj))
theorem BytesAt.lt {w : World} {a : Option Addr} {b off : Nat} {l : List UInt8} (h : BytesAt w a b off l) (hne : l ≠ []) : b < w.heap.size := by
 have := h.2 0 (List.length_pos_iff.2 hne)
 rcases Nat.lt_or_ge b w.heap.size with h | h
 · exact h
 · simp [World.cell?, Array.getElem?_eq_none h] at this
theorem BytesAt.below {w w' : World} {a : Option Addr} {b off : Nat} {l : List UInt8} (h : BytesAt w a b off l) (hb : Below w.heap.size w w') : BytesAt w' a b off l :=
 h.keep hb fun hne => h.lt hne

inductive JT where
 | mk (k : Int) (n : Int) (s : List UInt8) (ks : List (List UInt8)) (xs : List JT)
def idxS (key : List UInt8) (ks : List (List UInt8)) : Int := match ks.findIdx? (fun k => decide (key = k)) with | some i => (i : Int) | none => -1
theorem idxS_at {key : List UInt8} {ks : List (List UInt8)} {i : Nat} (h : ks[i]? = some key) (h0 : ∀ j, j < i → ks[j]? ≠ some key) : idxS key ks = (i : Int) := by
 unfold idxS
 have hi := (List.getElem?_eq_some_iff.1 h)
 have : ks.findIdx? (fun k => decide (key = k)) = some i := by
  rw [List.findIdx?_eq_some_iff_getElem]
  refine ⟨hi.1, by simp [hi.2], fun j hj => ?_⟩
  simp
  intro e
  exact h0 j hj (by rw [List.getElem?_eq_getElem (by have := hi.1; omega), e])
 rw [this]
theorem idxS_none {key : List UInt8} {ks : List (List UInt8)} (h0 : ∀ j, j < ks.length → ks[j]? ≠ some key) : idxS key ks = -1 := by
 unfold idxS
 have : ks.findIdx? (fun k => decide (key = k)) = none := by
  rw [List.findIdx?_eq_none_iff]
  intro x hx
  simp
  intro e
  obtain ⟨j, hj, hx⟩ := List.getElem_of_mem hx
  exact h0 j hj (by rw [List.getElem?_eq_getElem hj, hx, e])
 rw [this]

mutual
def JT.inr : JT → Prop
 | .mk k n s ks xs => (-9223372036854775808 ≤ n ∧ n ≤ 9223372036854775807) ∧ JT.inrL xs
def JT.inrL : List JT → Prop
 | [] => True
 | x :: xs => x.inr ∧ JT.inrL xs
end
theorem inrL_of : ∀ {xs : List JT}, (∀ x ∈ xs, x.inr) → JT.inrL xs
 | [], _ => trivial
 | x :: xs, h => ⟨h x (by simp), inrL_of fun y hy => h y (by simp [hy])⟩

def sPV (s : List UInt8) : List PV := [.v (.string (str s))]
theorem sPV_eq (s : List UInt8) : sPV s = [.v (.string (str s))] := rfl
theorem str_dl (l : List UInt8) : (str l).data.toList = l := by simp [str]
mutual
def JT.cells : JT → List PV
 | .mk k n s ks xs => [.v (.int .i64 k), .v (.int .i64 n), .v (.string (str s)), .sl 5 (JT.cellsL xs), .sl 1 (ks.map sPV)]
def JT.cellsL : List JT → List (List PV)
 | [] => []
 | x :: xs => x.cells :: JT.cellsL xs
end
theorem cellsL_map : ∀ (xs : List JT), JT.cellsL xs = xs.map JT.cells
 | [] => by simp [JT.cellsL]
 | x :: xs => by simp [JT.cellsL, cellsL_map xs]
def JT.av (t : JT) : AV := .agg (t.cells.map .c)
theorem JT.av_eq (t : JT) : t.av = .agg (t.cells.map .c) := rfl
mutual
def tdeep : JT → Nat
 | .mk k n s ks xs => if k = 5 ∨ k = 6 then tdeeps 1 xs else 0
def tdeeps : Nat → List JT → Nat
 | n, [] => n
 | n, x :: xs => tdeeps (max n (1 + tdeep x)) xs
end
theorem cells_mk (k n : Int) (s : List UInt8) (ks : List (List UInt8)) (xs : List JT) : (JT.mk k n s ks xs).cells = [.v (.int .i64 k), .v (.int .i64 n), .v (.string (str s)), .sl 5 (xs.map JT.cells), .sl 1 (ks.map sPV)] := by simp [JT.cells, cellsL_map]
theorem len_cells (t : JT) : t.cells.length = 5 := by cases t; simp [JT.cells]
theorem take_cells (t : JT) : t.cells.take 5 = t.cells := List.take_of_length_le (by rw [len_cells]; exact Nat.le_refl _)
theorem take_cellsC (t : JT) : (t.cells.map AV.c).take 5 = t.cells.map .c := List.take_of_length_le (by rw [List.length_map, len_cells]; exact Nat.le_refl _)
theorem tdeeps_snoc : ∀ (xs : List JT) (x : JT) (n : Nat), tdeeps n (xs ++ [x]) = max (tdeeps n xs) (1 + tdeep x)
 | [], x, n => by simp [tdeeps]
 | y :: xs, x, n => by simp only [List.cons_append, tdeeps]; exact tdeeps_snoc xs x _
theorem tdeeps_le : ∀ (xs : List JT) (n : Nat), n ≤ tdeeps n xs ∧ ∀ x ∈ xs, tdeep x + 1 ≤ tdeeps n xs
 | [], n => ⟨Nat.le_refl _, by simp⟩
 | y :: xs, n => by
   obtain ⟨h1, h2⟩ := tdeeps_le xs (max n (1 + tdeep y))
   simp only [tdeeps]
   refine ⟨by omega, fun x hx => ?_⟩
   rcases List.mem_cons.1 hx with rfl | hx
   · omega
   · exact h2 x hx

def iPV (n : Int) : List PV := [.v (.int .i64 n)]
structure FT where
 name : List UInt8
 aliases : List (List UInt8)
 type : Int
 has : Bool
 dflt : JT
def FT.cells (f : FT) : List PV := .v (.string (str f.name)) :: .sl 1 (f.aliases.map sPV) :: .v (.int .i64 f.type) :: .v (.bool f.has) :: f.dflt.cells
structure NT where
 kind : Int
 name : List UInt8
 aliases : List (List UInt8)
 fields : List FT
 symbols : List (List UInt8)
 has : Bool
 dflt : List UInt8
 size : Int
 items : Int
 branches : List Int
def NT.cells (n : NT) : List PV := [.v (.int .i64 n.kind), .v (.string (str n.name)), .sl 1 (n.aliases.map sPV), .sl 9 (n.fields.map FT.cells), .sl 1 (n.symbols.map sPV), .v (.bool n.has), .v (.string (str n.dflt)), .v (.int .i64 n.size), .v (.int .i64 n.items), .sl 1 (n.branches.map iPV)]
structure ST where
 nodes : List NT
 root : Int
def ST.cells (s : ST) : List PV := [.sl 10 (s.nodes.map NT.cells), .v (.int .i64 s.root)]
def FT.av (f : FT) : AV := .agg (f.cells.map .c)
def NT.av (n : NT) : AV := .agg (n.cells.map .c)
def ST.av (s : ST) : AV := .agg (s.cells.map .c)
theorem FT.av_eq (f : FT) : f.av = .agg (f.cells.map .c) := rfl
theorem NT.av_eq (n : NT) : n.av = .agg (n.cells.map .c) := rfl
theorem ST.av_eq (s : ST) : s.av = .agg (s.cells.map .c) := rfl
theorem iPV_eq (n : Int) : iPV n = [.v (.int .i64 n)] := rfl
theorem ncells_mk (n : NT) : n.cells = [.v (.int .i64 n.kind), .v (.string (str n.name)), .sl 1 (n.aliases.map sPV), .sl 9 (n.fields.map FT.cells), .sl 1 (n.symbols.map sPV), .v (.bool n.has), .v (.string (str n.dflt)), .v (.int .i64 n.size), .v (.int .i64 n.items), .sl 1 (n.branches.map iPV)] := rfl
theorem scells_mk (s : ST) : s.cells = [.sl 10 (s.nodes.map NT.cells), .v (.int .i64 s.root)] := rfl
theorem fcells_mk (f : FT) : f.cells = .v (.string (str f.name)) :: .sl 1 (f.aliases.map sPV) :: .v (.int .i64 f.type) :: .v (.bool f.has) :: f.dflt.cells := rfl
theorem len_fcells (f : FT) : f.cells.length = 9 := by simp [FT.cells, len_cells]
theorem len_ncells (n : NT) : n.cells.length = 10 := rfl
theorem len_scells (s : ST) : s.cells.length = 2 := rfl
theorem take_fcells (f : FT) : f.cells.take 9 = f.cells := List.take_of_length_le (by rw [len_fcells]; exact Nat.le_refl _)
theorem take_fcellsC (f : FT) : (f.cells.map AV.c).take 9 = f.cells.map .c := List.take_of_length_le (by rw [List.length_map, len_fcells]; exact Nat.le_refl _)
theorem take_ncells (n : NT) : n.cells.take 10 = n.cells := rfl
theorem take_ncellsC (n : NT) : (n.cells.map AV.c).take 10 = n.cells.map .c := rfl
theorem take_scells (s : ST) : s.cells.take 2 = s.cells := rfl
theorem take_scellsC (s : ST) : (s.cells.map AV.c).take 2 = s.cells.map .c := rfl
/-! The order of a schema's nodes. -/
def namedK (k : Int) : Bool := k == 9 || k == 10 || k == 14
def kidsN (n : NT) : List Int := if n.kind = 9 then n.fields.map (·.type) else if n.kind = 11 ∨ n.kind = 12 then [n.items] else if n.kind = 13 then n.branches else []
def kindAt (ns : List NT) (k : Nat) : Int := match ns[k]? with | some n => n.kind | none => 0
def walkK (ns : List NT) (f : Nat → Bool × Nat) : List Int → Nat → Bool × Nat
 | [], p => (true, p)
 | k :: ks, p => if k = (p : Int) then (if (f p).1 = true then walkK ns f ks (f p).2 else (false, (f p).2)) else if k < 0 ∨ k > (p : Int) ∨ namedK (kindAt ns k.toNat) = false then (false, p) else walkK ns f ks p
def walkM (ns : List NT) : Nat → Nat → Bool × Nat
 | 0, p => (false, p)
 | d + 1, p => match ns[p]? with | none => (false, p) | some n => walkK ns (walkM ns d) (kidsN n) (p + 1)
def orderedM (s : ST) : Bool := decide (0 < s.nodes.length) && (decide (s.nodes.length ≤ 200) && (decide (s.root = 0) && ((walkM s.nodes 33 0).1 && decide ((walkM s.nodes 33 0).2 = s.nodes.length))))
theorem walkK_le (ns : List NT) (f : Nat → Bool × Nat) (hf : ∀ p, p ≤ ns.length → p ≤ (f p).2 ∧ (f p).2 ≤ ns.length) : ∀ (ks : List Int) (p : Nat), p ≤ ns.length → p ≤ (walkK ns f ks p).2 ∧ (walkK ns f ks p).2 ≤ ns.length
 | [], p, h => ⟨Nat.le_refl _, h⟩
 | k :: ks, p, h => by
   rw [walkK]
   have h1 := hf p h
   split
   · split
     · have h2 := walkK_le ns f hf ks (f p).2 h1.2
       omega
     · exact h1
   · split
     · exact ⟨Nat.le_refl _, h⟩
     · exact walkK_le ns f hf ks p h
theorem walkM_le (ns : List NT) : ∀ (d p : Nat), p ≤ ns.length → p ≤ (walkM ns d p).2 ∧ (walkM ns d p).2 ≤ ns.length
 | 0, p, h => ⟨Nat.le_refl _, h⟩
 | d + 1, p, h => by
   rw [walkM]
   split
   · exact ⟨Nat.le_refl _, h⟩
   · rename_i n hn
     have hp : p < ns.length := (List.getElem?_eq_some_iff.1 hn).1
     have := walkK_le ns _ (walkM_le ns d) (kidsN n) (p + 1) hp
     omega
def Stand (ns : List NT) (a b : Nat) : Prop :=
 (∀ (i : Nat) (n : NT), a ≤ i → i < b → ns[i]? = some n → ∀ k ∈ kidsN n, 0 ≤ k ∧ k < (b : Int) ∧ (k ≤ (i : Int) → namedK (kindAt ns k.toNat) = true)) ∧ (∀ i : Nat, a < i → i < b → ∃ (j : Nat) (n : NT), a ≤ j ∧ j < i ∧ ns[j]? = some n ∧ (i : Int) ∈ kidsN n)
def Met (ns : List NT) (a : Nat) (done : List Int) (b : Nat) : Prop :=
 a < b ∧ (∀ k ∈ done, 0 ≤ k ∧ k < (b : Int) ∧ (k ≤ (a : Int) → namedK (kindAt ns k.toNat) = true)) ∧ (∀ (i : Nat) (n : NT), a < i → i < b → ns[i]? = some n → ∀ k ∈ kidsN n, 0 ≤ k ∧ k < (b : Int) ∧ (k ≤ (i : Int) → namedK (kindAt ns k.toNat) = true))
  ∧ (∀ i : Nat, a < i → i < b → (i : Int) ∈ done ∨ ∃ (j : Nat) (n : NT), a < j ∧ j < i ∧ ns[j]? = some n ∧ (i : Int) ∈ kidsN n)
theorem walkK_met (ns : List NT) (f : Nat → Bool × Nat) (hf : ∀ p q, f p = (true, q) → p < q ∧ Stand ns p q) (a : Nat) : ∀ (ks : List Int) (done : List Int) (p q : Nat), Met ns a done p → walkK ns f ks p = (true, q) → Met ns a (done ++ ks) q
 | [], done, p, q, h, hw => by
   rw [walkK] at hw
   obtain rfl : p = q := (Prod.mk.inj hw).2
   rwa [List.append_nil]
 | k :: ks, done, p, q, h, hw => by
   rw [walkK] at hw
   obtain ⟨h0, h1, h2, h3⟩ := h
   have hc : done ++ k :: ks = (done ++ [k]) ++ ks := by simp
   rw [hc]
   split at hw
   · rename_i hk
     split at hw
     · rename_i hb
       obtain ⟨hlt, hs⟩ := hf p (f p).2 (by rw [← hb])
       refine walkK_met ns f hf a ks (done ++ [k]) (f p).2 q ⟨by omega, ?_, ?_, ?_⟩ hw
       · intro k' hk'
         rcases List.mem_append.1 hk' with h | h
         · have := h1 k' h
           exact ⟨this.1, by omega, this.2.2⟩
         · obtain rfl := List.mem_singleton.1 h
           exact ⟨by omega, by omega, fun h => by omega⟩
       · intro i n hi1 hi2 hn k' hk'
         by_cases hip : i < p
         · have := h2 i n hi1 hip hn k' hk'
           exact ⟨this.1, by omega, this.2.2⟩
         · exact hs.1 i n (by omega) hi2 hn k' hk'
       · intro i hi1 hi2
         by_cases hip : i < p
         · rcases h3 i hi1 hip with h | h
           · exact .inl (List.mem_append.2 (.inl h))
           · exact .inr h
         · by_cases hie : i = p
           · exact .inl (List.mem_append.2 (.inr (by rw [hie, hk]; simp)))
           · obtain ⟨j, n, hj1, hj2, hn, hm⟩ := hs.2 i (by omega) hi2
             exact .inr ⟨j, n, by omega, hj2, hn, hm⟩
     · simp at hw
   · rename_i hk
     split at hw
     · simp at hw
     · rename_i hc2
       refine walkK_met ns f hf a ks (done ++ [k]) p q ⟨h0, ?_, h2, ?_⟩ hw
       · intro k' hk'
         rcases List.mem_append.1 hk' with h | h
         · exact h1 k' h
         · obtain rfl := List.mem_singleton.1 h
           have hnn : namedK (kindAt ns k'.toNat) = true := by
            cases hb : namedK (kindAt ns k'.toNat) with
            | true => rfl
            | false => exact absurd (.inr (.inr hb)) hc2
           have : ¬ (k' < 0) := fun h => hc2 (.inl h)
           have : ¬ (k' > (p : Int)) := fun h => hc2 (.inr (.inl h))
           exact ⟨by omega, by omega, fun _ => hnn⟩
       · intro i hi1 hi2
         rcases h3 i hi1 hi2 with h | h
         · exact .inl (List.mem_append.2 (.inl h))
         · exact .inr h
theorem walkM_stand (ns : List NT) : ∀ (d p q : Nat), walkM ns d p = (true, q) → p < q ∧ Stand ns p q
 | 0, p, q, h => by simp [walkM] at h
 | d + 1, p, q, h => by
   rw [walkM] at h
   split at h
   · simp at h
   · rename_i n hn
     have hm := walkK_met ns _ (walkM_stand ns d) p (kidsN n) [] (p + 1) q ⟨by omega, by simp, fun i n h1 h2 => by omega, fun i h1 h2 => by omega⟩ h
     rw [List.nil_append] at hm
     obtain ⟨h0, h1, h2, h3⟩ := hm
     refine ⟨h0, ?_, ?_⟩
     · intro i n' hi1 hi2 hn' k hk
       by_cases hi : i = p
       · subst hi
         rw [hn] at hn'
         obtain rfl := Option.some.inj hn'
         exact h1 k hk
       · exact h2 i n' (by omega) hi2 hn' k hk
     · intro i hi1 hi2
       rcases h3 i hi1 hi2 with h | ⟨j, n', hj1, hj2, hn', hm⟩
       · exact ⟨p, n, by omega, hi1, hn, h⟩
       · exact ⟨j, n', by omega, hj2, hn', hm⟩
theorem ordered_stand {s : ST} (h : orderedM s = true) : Stand s.nodes 0 s.nodes.length := by
 unfold orderedM at h
 simp only [Bool.and_eq_true, decide_eq_true_eq] at h
 obtain ⟨_, _, _, h1, h2⟩ := h
 exact (walkM_stand s.nodes 33 0 _ (by rw [← h1, ← h2])).2
section

def byteAt (l : List UInt8) (i : Nat) : UInt8 := l[i]?.getD 0
def ufirst (c : UInt8) : Nat := if c.toNat < 128 then 1 else if c.toNat < 194 then 0 else if c.toNat < 224 then 2 else if c.toNat < 240 then 3 else if c.toNat < 245 then 4 else 0
def ulo (a : UInt8) : Nat := if a.toNat = 224 then 160 else if a.toNat = 240 then 144 else 128
def uhi (a : UInt8) : Nat := if a.toNat = 237 then 159 else if a.toNat = 244 then 143 else 191
def usec (a b : UInt8) : Bool := decide (ulo a ≤ b.toNat ∧ b.toNat ≤ uhi a)
def ucont (b : UInt8) : Bool := decide (128 ≤ b.toNat ∧ b.toNat < 192)
def ustep (l : List UInt8) (p i : Nat) : Nat := if p + i < l.length then (if ucont (byteAt l (p + i)) = true ∧ (i = 1 → usec (byteAt l p) (byteAt l (p + i)) = true) then 0 else 11) else 10
def ustat (l : List UInt8) (p : Nat) : Nat → Nat
 | 0 => 0
 | k + 1 => if ustat l p k = 0 then ustep l p (k + 1) else ustat l p k
def uerr (l : List UInt8) (p : Nat) : Nat := if p < l.length then (if ufirst (byteAt l p) = 0 then 11 else ustat l p (ufirst (byteAt l p) - 1)) else 10
def ulen (l : List UInt8) (p : Nat) : Nat := ufirst (byteAt l p)
theorem ustat_mono {l : List UInt8} {p k : Nat} (h : ustat l p k ≠ 0) : ∀ j, ustat l p (k + j) = ustat l p k := by
 intro j
 induction j with
 | zero => rfl
 | succ j ih => rw [show k + (j + 1) = (k + j) + 1 from by omega]; simp only [ustat]; rw [ih, if_neg h]
theorem ustat_bad {l : List UInt8} {p i n : Nat} (hi : 1 ≤ i) (hin : i < n) (h0 : ustat l p (i - 1) = 0) (h : ustep l p i ≠ 0) : ustat l p (n - 1) = ustep l p i := by
 have h1 : ustat l p i = ustep l p i := by
  cases i with
  | zero => omega
  | succ i => simp only [ustat]; rw [if_pos (by simpa using h0)]
 have := ustat_mono (l := l) (p := p) (k := i) (by rw [h1]; exact h) (n - 1 - i)
 rw [h1] at this
 rwa [show i + (n - 1 - i) = n - 1 from by omega] at this
theorem ustat_next {l : List UInt8} {p k : Nat} (h0 : ustat l p k = 0) (h : ustep l p (k + 1) = 0) : ustat l p (k + 1) = 0 := by
 simp only [ustat]; rw [if_pos h0, h]
variable {l : List UInt8} {p : Nat}
theorem ulen_bound (h : uerr l p = 0) : 0 < ulen l p ∧ p + ulen l p ≤ l.length := by
 unfold uerr at h
 split at h
 · rename_i hp
   split at h
   · simp at h
   · rename_i hf
     refine ⟨by unfold ulen; omega, ?_⟩
     unfold ulen
     have key : ∀ k, ustat l p k = 0 → p + k < l.length := by
      intro k
      induction k with
      | zero => intro _; omega
      | succ k ih =>
        intro hk
        simp only [ustat] at hk
        split at hk
        · unfold ustep at hk
          split at hk
          · omega
          · simp at hk
        · rename_i h1; exact absurd hk h1
     have := key _ h
     omega
 · simp at h
def uCnt (l : List UInt8) (p k : Nat) : Nat × Nat :=
 if h : p < l.length then (if h2 : uerr l p = 0 ∧ 0 < ulen l p then uCnt l (p + ulen l p) (k + 1) else (0, 11)) else (k, 0)
termination_by l.length - p
theorem uCnt_end {l : List UInt8} {p k : Nat} (h : ¬ p < l.length) : uCnt l p k = (k, 0) := by rw [uCnt, dif_neg h]
theorem uCnt_bad {l : List UInt8} {p k : Nat} (h : p < l.length) (h2 : uerr l p ≠ 0) : uCnt l p k = (0, 11) := by rw [uCnt, dif_pos h, dif_neg (fun x => h2 x.1)]
theorem uCnt_next {l : List UInt8} {p k : Nat} (h : p < l.length) (h2 : uerr l p = 0) : uCnt l p k = uCnt l (p + ulen l p) (k + 1) := by rw [uCnt, dif_pos h, dif_pos ⟨h2, (ulen_bound h2).1⟩]
def isRight (l : List UInt8) : Bool := decide ((uCnt l 0 0).2 = 0)
end

inductive VT where
 | mk (k : Int) (n : Int) (b : Int) (s : List UInt8) (xs : List VT) (ks : List (List UInt8))
mutual
def VT.cells : VT → List PV
 | .mk k n b s xs ks => [.v (.int .i64 k), .v (.int .i64 n), .v (.int .u64 b), .sl 1 (bytePV s), .sl 6 (VT.cellsL xs), .sl 1 (ks.map sPV)]
def VT.cellsL : List VT → List (List PV)
 | [] => []
 | x :: xs => x.cells :: VT.cellsL xs
end
theorem vcellsL_map : ∀ (xs : List VT), VT.cellsL xs = xs.map VT.cells
 | [] => by simp [VT.cellsL]
 | x :: xs => by simp [VT.cellsL, vcellsL_map xs]
def VT.av (v : VT) : AV := .agg (v.cells.map .c)
theorem VT.av_eq (v : VT) : v.av = .agg (v.cells.map .c) := rfl
theorem vcells_mk (k n b : Int) (s : List UInt8) (xs : List VT) (ks : List (List UInt8)) : (VT.mk k n b s xs ks).cells = [.v (.int .i64 k), .v (.int .i64 n), .v (.int .u64 b), .sl 1 (bytePV s), .sl 6 (xs.map VT.cells), .sl 1 (ks.map sPV)] := by simp [VT.cells, vcellsL_map]
theorem len_vcells (v : VT) : v.cells.length = 6 := by cases v; simp [VT.cells]
theorem take_vcells (v : VT) : v.cells.take 6 = v.cells := List.take_of_length_le (by rw [len_vcells]; exact Nat.le_refl _)
theorem take_vcellsC (v : VT) : (v.cells.map AV.c).take 6 = v.cells.map .c := List.take_of_length_le (by rw [List.length_map, len_vcells]; exact Nat.le_refl _)
mutual
def VT.sm (N : Nat) : VT → Prop
 | .mk k n b s xs ks => (0 ≤ b ∧ b < 18446744073709551616) ∧ s.length ≤ N ∧ ks.length ≤ N ∧ (∀ y ∈ ks, y.length ≤ N) ∧ xs.length ≤ N ∧ VT.smL N xs
def VT.smL (N : Nat) : List VT → Prop
 | [] => True
 | x :: xs => x.sm N ∧ VT.smL N xs
end
mutual
theorem vsm_le {N M : Nat} (h : N ≤ M) : ∀ v : VT, v.sm N → v.sm M
 | .mk k n b s xs ks => fun ⟨h0, h1, h2, h3, h4, h5⟩ => ⟨h0, by omega, by omega, fun y hy => Nat.le_trans (h3 y hy) h, by omega, vsmL_le h xs h5⟩
theorem vsmL_le {N M : Nat} (h : N ≤ M) : ∀ xs : List VT, VT.smL N xs → VT.smL M xs
 | [] => fun _ => trivial
 | x :: xs => fun ⟨h1, h2⟩ => ⟨vsm_le h x h1, vsmL_le h xs h2⟩
end
mutual
def VT.inr : VT → Prop
 | .mk k n b s xs ks => (0 ≤ b ∧ b < 18446744073709551616) ∧ VT.inrL xs
def VT.inrL : List VT → Prop
 | [] => True
 | x :: xs => x.inr ∧ VT.inrL xs
end
/-! Which values are ones of a node. -/
def VT.kind : VT → Int | .mk k _ _ _ _ _ => k
def VT.int : VT → Int | .mk _ n _ _ _ _ => n
def VT.items : VT → List VT | .mk _ _ _ _ xs _ => xs
def vbare (k n b : Int) (s : List UInt8) (m : Nat) (ks : List (List UInt8)) : Bool :=
 ((k == 2 || k == 3 || k == 4 || k == 10 || k == 13) || n == 0) && (((k == 5 || k == 6) || b == 0) && (((k == 7 || k == 8 || k == 14) || s.isEmpty) && (((k == 9 || k == 11 || k == 12 || k == 13) || m == 0) && (k == 12 || ks.isEmpty))))
def keyM (y : List UInt8) : Bool := decide (y.length ≤ 20000) && isRight y
def headM (nd : NT) (k n b : Int) (s : List UInt8) (m : Nat) (ks : List (List UInt8)) : Bool :=
 (k == nd.kind && (vbare k n b s m ks && decide (s.length ≤ 20000))) && (
  if k = 2 then n == 0 || n == 1 else if k = 3 then decide (-2147483648 ≤ n) && decide (n ≤ 2147483647) else if k = 5 then decide (b < 4294967296) else if k = 8 then isRight s
  else if k = 14 then (s.length : Int) == nd.size else if k = 10 then decide (0 ≤ n) && decide (n < (nd.symbols.length : Int)) else if k = 9 then m == nd.fields.length && decide (m ≤ 300)
  else if k = 12 then (ks.length == m && ks.all keyM) && decide (m ≤ 300) else if k = 11 then decide (m ≤ 300) else if k = 13 then decide (0 ≤ n) && (decide (n < (nd.branches.length : Int)) && m == 1) else true)
def typeAt (nd : NT) (i : Nat) : Int := match nd.fields[i]? with | some f => f.type | none => -1
def branchAt (nd : NT) (i : Int) : Int := match nd.branches[i.toNat]? with | some k => k | none => -1
def itemAt (nd : NT) (n : Int) (i : Nat) : Int := if nd.kind = 9 then typeAt nd i else if nd.kind = 13 then branchAt nd n else nd.items
mutual
def isM (ns : List NT) : Int → VT → Bool
 | a, .mk k n b s xs ks => match ns[a.toNat]? with | none => false | some nd => headM nd k n b s xs.length ks && eachM ns (itemAt nd n) xs
def eachM (ns : List NT) : (Nat → Int) → List VT → Bool
 | _, [] => true
 | f, x :: xs => isM ns (f 0) x && eachM ns (fun i => f (i + 1)) xs
end
theorem isM_eq {ns : List NT} {a : Int} {nd : NT} (h : ns[a.toNat]? = some nd) (k n b : Int) (s : List UInt8) (xs : List VT) (ks : List (List UInt8)) : isM ns a (.mk k n b s xs ks) = (headM nd k n b s xs.length ks && eachM ns (itemAt nd n) xs) := by rw [isM, h]
mutual
def vdeep : VT → Nat
 | .mk k n b s xs ks => if k = 9 ∨ k = 11 ∨ k = 12 ∨ k = 13 then vdeeps 1 xs else 0
def vdeeps : Nat → List VT → Nat
 | n, [] => n
 | n, x :: xs => vdeeps (max n (1 + vdeep x)) xs
end
section
attribute [local go_sem] opx opE ev okx gcond bnd okO AV.get AV.okb cAV upd_at putd_some putd_none wrs_nil wrs_cons look_nil look_cons st argT_at bpick_and bpick_or bpick_true bpick_false binV binI binS binVOk binOk isShift binSOk unV unVOk loadV loadP cellsA zeroA Blkd.len setE grown moreA moreR moreOk eqRes pv fillA fillE putSeg AV.cellish AV.pureL AV.pureB lentL_is ex_some AV.ren AV.renL renL_c Blkd.ren rho wrM renN lentOk rhoE keepM endOk tyA_2 tyA_3 tyA_4 tyA_5 tyA_6 tyA_7 tyA_8 tyA_9 tyA_10 tyA_11 tyA_12 tyA_13 tyA_14 tyA_15 tyA_16 tyA_17 tyA_18 tyA_19 tyA_21 tyA_22 tyA_23 tyA_24 tyA_29 tyA_30 tyA_31 tyA_32 tyA_33 tyA_34 tyA_35 tyA_36 tyA_37 tyA_38 tyA_39 tyA_40 tyA_41 tyA_42 tyA_43 tyA_48 tyA_72 tyA_76 tyA_85 tyA_86 tyA_87 tyA_88 tyA_97 tyA_100 tyA_101 tyA_102 tyA_103 tyA_104 tyA_105 tyA_106 tyA_128 tyA_137 tyA_138 tyA_139 tyA_140 tyA_141 tyA_142 tyA_147 tyA_148 tyA_149 tyA_167 tyA_168 tyA_169 tyA_170 tyA_172 tyA_176 tyA_177 tyA_178 tyA_186 tyA_196 tyA_231 tyA_232 tyA_233 tyA_257 tyA_262 tyA_268 tyA_270 tyA_272 tyA_281 tyA_285 tyA_287 tyA_290 tyA_291 tyA_292 tyA_293 tyA_294 tyA_295 tyA_296 tyA_298 tyA_299 Option.map_some Option.map_none Option.getD_some Option.getD_none Option.bind_some Option.bind_none List.getElem?_cons_zero List.getElem?_cons_succ List.getElem?_nil List.getElem?_toArray List.length_cons List.length_nil List.length_map List.forall_mem_map List.map_cons List.map_nil List.drop_zero List.drop_succ_cons List.drop_nil List.take_zero List.take_succ_cons List.take_nil List.mem_cons List.not_mem_nil or_false forall_eq_or_imp forall_eq List.set_cons_zero List.set_cons_succ List.cons_append List.nil_append List.append_nil List.foldl_cons List.foldl_nil List.replicate_succ List.replicate_zero List.all_cons List.all_nil if_true if_false Bool.false_eq_true ne_eq not_false_eq_true not_true_eq_false true_and and_true and_self true_implies imp_self implies_true forall_const beq_self_eq_true Bool.and_true Bool.true_and Bool.and_false Bool.false_and Bool.or_true Bool.true_or Bool.or_false Bool.false_or Bool.not_true Bool.not_false Bool.not_eq_eq_eq_not intKindOf Value.oneCell' Int.toNat_natCast beq_true beq_false Bool.not_eq_true false_implies false_or true_or or_true Nat.zero_add Nat.add_zero decide_true decide_false Int.cast_ofNat_Int Int.toNat_zero Int.toNat_one eq_self

def bA (l : List UInt8) : List (List AV) := l.map fun b => [AV.c (.v (.int .u8 (b.toNat : Int)))]
theorem bA_len (l : List UInt8) : (bA l).length = l.length := by simp [bA]
theorem bA_pv (l : List UInt8) : bA l = (bytePV l).map fun e => e.map AV.c := by simp [bA, bytePV]
def bB (l : List UInt8) : Blkd := ⟨true, 5, 1, bA l⟩

def zigN (n : Int) : Nat := if 0 ≤ n then (2 * n).toNat else (-2 * n - 1).toNat
def vint (u : Nat) : List UInt8 := if h : u < 128 then [u.toUInt8] else (u % 128 + 128).toUInt8 :: vint (u / 128)
theorem vint_lt {u : Nat} (h : u < 128) : vint u = [u.toUInt8] := by rw [vint, dif_pos h]
theorem vint_ge {u : Nat} (h : ¬ u < 128) : vint u = (u % 128 + 128).toUInt8 :: vint (u / 128) := by rw [vint, dif_neg h]
theorem vint_len : ∀ (k u : Nat), u < 128 ^ (k + 1) → (vint u).length ≤ k + 1
 | 0, u, h => by rw [vint_lt (by omega)]; simp
 | k + 1, u, h => by
   by_cases h1 : u < 128
   · rw [vint_lt h1]; simp
   · rw [vint_ge h1]
     have := vint_len k (u / 128) (by rw [Nat.pow_succ] at h; omega)
     simp
     omega
theorem zig_lt (n : Int) (h1 : -9223372036854775808 ≤ n) (h2 : n ≤ 9223372036854775807) : zigN n < 18446744073709551616 := by
 unfold zigN
 split <;> omega
def vput (n : Int) : List UInt8 := vint (zigN n)
theorem vput_len (n : Int) (h1 : -9223372036854775808 ≤ n) (h2 : n ≤ 9223372036854775807) : (vput n).length ≤ 10 := by
 have := zig_lt n h1 h2
 exact vint_len 9 _ (by omega)
def bitsB (b : Int) : Nat → List UInt8
 | 0 => []
 | n + 1 => bitsB b n ++ [(b.toNat / 256 ^ n).toUInt8]
theorem bitsB_len (b : Int) : ∀ n, (bitsB b n).length = n
 | 0 => rfl
 | n + 1 => by rw [bitsB, List.length_append, bitsB_len b n]; rfl

def cutM (cuts : List Int) (c left : Nat) : Nat × Bool × Nat :=
 match cuts[c % cuts.length]? with
 | none => (left, false, c)
 | some n => (min left (n.natAbs % 9223372036854775808 % 4 + 1), decide (n < 0), c + 1)
def Enc := Nat → List UInt8 × Nat
def seqF : List Enc → Enc
 | [], c => ([], c)
 | f :: fs, c => ((f c).1 ++ (seqF fs (f c).2).1, (seqF fs (f c).2).2)
def headB (n : Nat) (sized : Bool) (len : Nat) : List UInt8 := if sized = true then vput (-(n : Int)) ++ vput (len : Int) else vput (n : Int)
def blkF (cuts : List Int) : Nat → List Enc → Enc
 | 0, _, c => (vput 0, c)
 | k + 1, [], c => (vput 0, c)
 | k + 1, f :: fs, c =>
   let q := cutM cuts c (fs.length + 1)
   let r := seqF ((f :: fs).take q.1) q.2.2
   let t := blkF cuts k ((f :: fs).drop q.1) r.2
   (headB q.1 q.2.1 r.1.length ++ (r.1 ++ t.1), t.2)
def keyF (y : List UInt8) (f : Enc) : Enc := fun c => ((vput (y.length : Int) ++ y) ++ (f c).1, (f c).2)
def leafM (nd : NT) (k n b : Int) (t : List UInt8) : List UInt8 :=
 if k = 2 then [if n = 0 then 0 else 1] else if k = 3 ∨ k = 4 ∨ k = 10 then vput n else if k = 5 then bitsB b 4 else if k = 6 then bitsB b 8
 else if k = 7 ∨ k = 8 then vput (t.length : Int) ++ t else if k = 14 then t else []
mutual
def encM (ns : List NT) (cuts : List Int) : Int → VT → Enc
 | a, .mk _ n b t xs ks => fun c => match ns[a.toNat]? with
   | none => ([], c)
   | some nd =>
     if nd.kind = 9 then seqF (encsM ns cuts (fun j => typeAt nd j) xs) c
     else if nd.kind = 11 then blkF cuts xs.length (encsM ns cuts (fun _ => nd.items) xs) c
     else if nd.kind = 12 then blkF cuts xs.length (List.zipWith keyF ks (encsM ns cuts (fun _ => nd.items) xs)) c
     else if nd.kind = 13 then (vput n ++ (seqF (encsM ns cuts (fun _ => branchAt nd n) xs) c).1, (seqF (encsM ns cuts (fun _ => branchAt nd n) xs) c).2)
     else (leafM nd nd.kind n b t, c)
def encsM (ns : List NT) (cuts : List Int) : (Nat → Int) → List VT → List Enc
 | _, [] => []
 | f, x :: xs => encM ns cuts (f 0) x :: encsM ns cuts (fun i => f (i + 1)) xs
end
theorem encs_len (ns : List NT) (cuts : List Int) : ∀ (xs : List VT) (f : Nat → Int), (encsM ns cuts f xs).length = xs.length
 | [], f => by rw [encsM]; rfl
 | y :: ys, f => by rw [encsM, List.length_cons, encs_len ns cuts ys]; rfl
theorem cutM_pos (cuts : List Int) (c left : Nat) (h : 0 < left) : 0 < (cutM cuts c left).1 ∧ (cutM cuts c left).1 ≤ left ∧ c ≤ (cutM cuts c left).2.2 := by
 unfold cutM
 split
 · exact ⟨h, Nat.le_refl _, Nat.le_refl _⟩
 · exact ⟨by simp only []; omega, by simp only []; omega, by simp only []; omega⟩
def Up (f : Enc) : Prop := ∀ c, c ≤ (f c).2
theorem seqF_up : ∀ fs : List Enc, (∀ f ∈ fs, Up f) → Up (seqF fs)
 | [], _, c => Nat.le_refl _
 | f :: fs, h, c => by
   rw [seqF]
   exact Nat.le_trans (h f (by simp) c) (seqF_up fs (fun g hg => h g (by simp [hg])) _)
theorem blkF_up (cuts : List Int) : ∀ (k : Nat) (fs : List Enc), (∀ f ∈ fs, Up f) → Up (blkF cuts k fs)
 | 0, _, _, c => Nat.le_refl _
 | k + 1, [], _, c => Nat.le_refl _
 | k + 1, f :: fs, h, c => by
   rw [blkF]
   simp only []
   have h1 := (cutM_pos cuts c (fs.length + 1) (by omega)).2.2
   have h2 := seqF_up ((f :: fs).take (cutM cuts c (fs.length + 1)).1) (fun g hg => h g (List.mem_of_mem_take hg)) (cutM cuts c (fs.length + 1)).2.2
   have h3 := blkF_up cuts k ((f :: fs).drop (cutM cuts c (fs.length + 1)).1) (fun g hg => h g (List.mem_of_mem_drop hg)) (seqF ((f :: fs).take (cutM cuts c (fs.length + 1)).1) (cutM cuts c (fs.length + 1)).2.2).2
   omega
mutual
theorem encM_up (ns : List NT) (cuts : List Int) : ∀ (v : VT) (a : Int), Up (encM ns cuts a v)
 | .mk k n b t xs ks, a, c => by
   have h := encsM_up ns cuts xs
   rw [encM]
   split
   · exact Nat.le_refl _
   · split
     · exact seqF_up _ (h _) c
     · split
       · exact blkF_up cuts _ _ (h _) c
       · split
         · refine blkF_up cuts _ _ (fun f hf => ?_) c
           obtain ⟨i, hi⟩ := List.getElem?_of_mem hf
           rw [List.getElem?_zipWith] at hi
           split at hi
           · obtain rfl := Option.some.inj hi
             rename_i y g hy hg
             exact fun c => h _ g (List.mem_of_getElem? hg) c
           · simp at hi
         · split
           · exact seqF_up _ (h _) c
           · exact Nat.le_refl _
theorem encsM_up (ns : List NT) (cuts : List Int) : ∀ (xs : List VT) (f : Nat → Int), ∀ e ∈ encsM ns cuts f xs, Up e
 | [], f => by rw [encsM]; simp
 | x :: xs, f => by
   rw [encsM]
   intro e he
   rcases List.mem_cons.1 he with rfl | he
   · exact encM_up ns cuts x _
   · exact encsM_up ns cuts xs _ e he
end

def Rd (α : Type) := List UInt8 → Nat → Except Int (α × Nat)
def rret {α : Type} (x : α) : Rd α := fun _ p => .ok (x, p)
def rbad {α : Type} (e : Int) : Rd α := fun _ _ => .error e
def rbind {α β : Type} (f : Rd α) (g : α → Rd β) : Rd β := fun B p => match f B p with
 | .error e => .error e
 | .ok (x, q) => g x B q
theorem rbind_ok {α β : Type} {f : Rd α} {g : α → Rd β} {B : List UInt8} {p q : Nat} {x : α} (h : f B p = .ok (x, q)) : rbind f g B p = g x B q := by unfold rbind; rw [h]
theorem rbind_bad {α β : Type} {f : Rd α} {g : α → Rd β} {B : List UInt8} {p : Nat} {e : Int} (h : f B p = .error e) : rbind f g B p = .error e := by unfold rbind; rw [h]
theorem rbind_inv {α β : Type} {f : Rd α} {g : α → Rd β} {B : List UInt8} {p : Nat} {R : β × Nat} (h : rbind f g B p = .ok R) : ∃ x q, f B p = .ok (x, q) ∧ g x B q = .ok R := by
 unfold rbind at h
 split at h
 · simp at h
 · rename_i x q hq
   exact ⟨x, q, hq, h⟩
structure Fair {α : Type} (f : Rd α) : Prop where
 fwd : ∀ {B : List UInt8} {p q : Nat} {v : α}, p ≤ B.length → f B p = .ok (v, q) → p ≤ q ∧ q ≤ B.length
 ers : ∀ {B : List UInt8} {p : Nat} {e : Int}, f B p = .error e → e ≠ 0
 more : ∀ {B : List UInt8} (T : List UInt8) {p : Nat}, p ≤ B.length → f B p ≠ .error 10 → f (B ++ T) p = f B p
theorem fair_ret {α : Type} (x : α) : Fair (rret x) :=
 ⟨fun hp h => by unfold rret at h; injection h with h; injection h with _ h; omega, fun h => by simp [rret] at h, fun _ _ _ _ => rfl⟩
theorem fair_bad {α : Type} {e : Int} (he : e ≠ 0) : Fair (rbad (α := α) e) :=
 ⟨fun hp h => by simp [rbad] at h, fun h => by unfold rbad at h; injection h with h; exact h ▸ he, fun _ _ _ _ => rfl⟩
theorem fair_bind {α β : Type} {f : Rd α} {g : α → Rd β} (hf : Fair f) (hg : ∀ x, Fair (g x)) : Fair (rbind f g) := by
 refine ⟨fun {B p q v} hp h => ?_, fun {B p e} h => ?_, fun {B} T {p} hp h => ?_⟩
 · obtain ⟨x, r, h1, h2⟩ := rbind_inv h
   have h3 := hf.fwd hp h1
   have h4 := (hg x).fwd h3.2 h2
   omega
 · cases h1 : f B p with
   | error d =>
     rw [rbind_bad h1] at h
     injection h with h
     exact h ▸ hf.ers h1
   | ok r =>
     rw [rbind_ok (x := r.1) (q := r.2) h1] at h
     exact (hg _).ers h
 · cases h1 : f B p with
   | error d =>
     rw [rbind_bad h1] at h ⊢
     exact rbind_bad ((hf.more T hp (by rw [h1]; intro e; injection e with e; exact h (by rw [e]))).trans h1)
   | ok r =>
     rw [rbind_ok (x := r.1) (q := r.2) h1] at h ⊢
     have h2 := hf.more T hp (by rw [h1]; simp)
     rw [rbind_ok (x := r.1) (q := r.2) (h2.trans h1)]
     exact (hg _).more T (hf.fwd hp h1).2 h
def Back {α : Type} (f : Rd α) (l : List UInt8) (v : α) : Prop := ∀ A T : List UInt8, f (A ++ (l ++ T)) A.length = .ok (v, A.length + l.length)
def rnext (n : Nat) : Rd (List UInt8) := fun B p => if n ≤ B.length - p then .ok ((B.drop p).take n, p + n) else .error 10
theorem fair_next (n : Nat) : Fair (rnext n) := by
 refine ⟨fun {B p q v} hp h => ?_, fun {B p e} h => ?_, fun {B} T {p} hp h => ?_⟩
 · unfold rnext at h
   split at h
   · injection h with h; injection h with _ h; omega
   · simp at h
 · unfold rnext at h
   split at h
   · simp at h
   · injection h with h; subst h; decide
 · unfold rnext at h ⊢
   split at h
   · rename_i h1
     rw [if_pos h1, if_pos (by rw [List.length_append]; omega), List.drop_append_of_le_length hp, List.take_append_of_le_length (by rw [List.length_drop]; exact h1)]
   · exact absurd rfl h
def vtk (most last : Nat) : List UInt8 → Nat → Nat → Except Int (Nat × Nat)
 | [], _, _ => .error 10
 | c :: cs, n, u =>
   if n + 1 = most ∧ last < c.toNat then .error 11 else if c.toNat = 0 ∧ 0 < n then .error 11
   else if c.toNat < 128 then .ok (u + c.toNat % 128 * 128 ^ n, n + 1) else vtk most last cs (n + 1) (u + c.toNat % 128 * 128 ^ n)
def zagN (u : Nat) : Int := if u % 2 = 0 then ((u / 2 : Nat) : Int) else -((u / 2 : Nat) : Int) - 1
def rvar (most last : Nat) : Rd Int := fun B p => match vtk most last (B.drop p) 0 0 with
 | .error e => .error e
 | .ok (u, n) => .ok (zagN u, p + n)
def rlong : Rd Int := rvar 10 1
def rint : Rd Int := rvar 5 15
theorem vtk_fwd (most last : Nat) : ∀ (l : List UInt8) (n u v k : Nat), vtk most last l n u = .ok (v, k) → n < k ∧ k ≤ n + l.length
 | [], n, u, v, k, h => by simp [vtk] at h
 | c :: cs, n, u, v, k, h => by
   rw [vtk] at h
   split at h
   · simp at h
   split at h
   · simp at h
   split at h
   · injection h with h; injection h with _ h; rw [List.length_cons]; omega
   · have := vtk_fwd most last cs _ _ v k h
     rw [List.length_cons]; omega
theorem vtk_ers (most last : Nat) : ∀ (l : List UInt8) (n u : Nat) (e : Int), vtk most last l n u = .error e → e ≠ 0
 | [], n, u, e, h => by rw [vtk] at h; injection h with h; subst h; decide
 | c :: cs, n, u, e, h => by
   rw [vtk] at h
   split at h
   · injection h with h; subst h; decide
   split at h
   · injection h with h; subst h; decide
   split at h
   · simp at h
   · exact vtk_ers most last cs _ _ e h
theorem vtk_more (most last : Nat) (T : List UInt8) : ∀ (l : List UInt8) (n u : Nat), vtk most last l n u ≠ .error 10 → vtk most last (l ++ T) n u = vtk most last l n u
 | [], n, u, h => absurd rfl h
 | c :: cs, n, u, h => by
   rw [List.cons_append, vtk, vtk]
   rw [vtk] at h
   split
   · rfl
   split
   · rfl
   split
   · rfl
   · rename_i h1 h2 h3
     rw [if_neg h1, if_neg h2, if_neg h3] at h
     exact vtk_more most last T cs _ _ h
theorem fair_var (most last : Nat) : Fair (rvar most last) := by
 refine ⟨fun {B p q v} hp h => ?_, fun {B p e} h => ?_, fun {B} T {p} hp h => ?_⟩
 · unfold rvar at h
   split at h
   · simp at h
   · rename_i u n hn
     injection h with h; injection h with _ h
     have := vtk_fwd _ _ _ _ _ _ _ hn
     rw [List.length_drop] at this
     omega
 · unfold rvar at h
   split at h
   · rename_i d hd
     injection h with h
     exact h ▸ vtk_ers _ _ _ _ _ _ hd
   · simp at h
 · have h1 : vtk most last (B.drop p) 0 0 ≠ .error 10 := fun h2 => h (by unfold rvar; rw [h2])
   unfold rvar
   rw [List.drop_append_of_le_length hp, vtk_more most last T _ _ _ h1]
theorem vtk_ok (most last : Nat) (hl : last < 128) : ∀ (l : List UInt8) (n u v k : Nat), n < most → vtk most last l n u = .ok (v, k) → ∃ w, v = u + w * 128 ^ n ∧ k = n + (vint w).length ∧ w * 128 ^ n < (last + 1) * 128 ^ (most - 1) ∧ (0 < n → 0 < w)
 | [], n, u, v, k, hn, h => by simp [vtk] at h
 | c :: cs, n, u, v, k, hn, h => by
   rw [vtk] at h
   split at h
   · simp at h
   rename_i h1
   split at h
   · simp at h
   rename_i h2
   split at h
   · rename_i h3
     injection h with h
     injection h with h4 h5
     refine ⟨c.toNat, by rw [← h4, Nat.mod_eq_of_lt h3], by rw [vint_lt h3]; simp; omega, ?_, fun hn0 => ?_⟩
     · rcases Nat.lt_or_ge (n + 1) most with h | h
       · calc c.toNat * 128 ^ n < 128 * 128 ^ n := Nat.mul_lt_mul_of_pos_right h3 (Nat.pos_of_ne_zero (by simp))
          _ = 128 ^ (n + 1) := by rw [Nat.pow_succ, Nat.mul_comm]
          _ ≤ 128 ^ (most - 1) := Nat.pow_le_pow_right (by decide) (by omega)
          _ ≤ (last + 1) * 128 ^ (most - 1) := Nat.le_mul_of_pos_left _ (by omega)
       · obtain rfl : most = n + 1 := by omega
         rw [Nat.add_sub_cancel]
         refine Nat.mul_lt_mul_of_pos_right ?_ (Nat.pos_of_ne_zero (by simp))
         have : ¬ last < c.toNat := fun h => h1 ⟨rfl, h⟩
         omega
     · have : ¬ c.toNat = 0 := fun h => h2 ⟨h, hn0⟩
       omega
   · rename_i h3
     have hn1 : n + 1 < most := by
      have : ¬ (n + 1 = most) := fun h => h1 ⟨h, by omega⟩
      omega
     obtain ⟨w, e1, e2, e3, e4⟩ := vtk_ok most last hl cs (n + 1) _ v k hn1 h
     have hc := c.toNat_lt
     have hw := e4 (by omega)
     have hd : (w * 128 + c.toNat % 128) / 128 = w := by omega
     have hm : (w * 128 + c.toNat % 128) % 128 = c.toNat % 128 := by omega
     have he : (w * 128 + c.toNat % 128) * 128 ^ n = w * 128 ^ (n + 1) + c.toNat % 128 * 128 ^ n := by rw [Nat.add_mul, Nat.pow_succ, Nat.mul_assoc, Nat.mul_comm 128]
     refine ⟨w * 128 + c.toNat % 128, by rw [e1, he]; omega, ?_, ?_, fun _ => by omega⟩
     · rw [vint_ge (by omega), hd, e2, List.length_cons]; omega
     · rw [he]
       have h5 : w * 128 ^ (n + 1) + 128 ^ (n + 1) ≤ (last + 1) * 128 ^ (most - 1) := by
        obtain ⟨z, hz⟩ : ∃ z, most - 1 = n + 1 + z := ⟨most - 1 - (n + 1), by omega⟩
        rw [hz, show (128 : Nat) ^ (n + 1 + z) = 128 ^ z * 128 ^ (n + 1) from by rw [Nat.add_comm, Nat.pow_add], ← Nat.mul_assoc] at e3 ⊢
        have := Nat.lt_of_mul_lt_mul_right e3
        calc w * 128 ^ (n + 1) + 128 ^ (n + 1) = (w + 1) * 128 ^ (n + 1) := by rw [Nat.add_mul, Nat.one_mul]
         _ ≤ (last + 1) * 128 ^ z * 128 ^ (n + 1) := Nat.mul_le_mul_right _ this
       have h6 : c.toNat % 128 * 128 ^ n < 128 ^ (n + 1) := by
        rw [Nat.pow_succ, Nat.mul_comm]
        exact Nat.mul_lt_mul_of_pos_left (Nat.mod_lt _ (by decide)) (Nat.pos_of_ne_zero (by simp))
       omega
/-! The readers of leaves. -/
def unbits : List UInt8 → Nat
 | [] => 0
 | c :: cs => c.toNat + 256 * unbits cs
theorem unbits_snoc (l : List UInt8) (c : UInt8) : unbits (l ++ [c]) = unbits l + c.toNat * 256 ^ l.length := by
 induction l with
 | nil => simp [unbits]
 | cons x xs ih =>
   rw [List.cons_append, unbits, unbits, ih, List.length_cons, Nat.pow_succ, Nat.mul_add, Nat.add_assoc]
   congr 2
   rw [← Nat.mul_assoc, Nat.mul_comm 256, Nat.mul_assoc, Nat.mul_comm 256]
def rbits (k : Nat) : Rd Int := rbind (rnext k) fun l => rret ((unbits l : Nat) : Int)
def rbool : Rd Int := rbind (rnext 1) fun l => if 1 < unbits l then rbad 11 else rret ((unbits l : Nat) : Int)
def rbytes : Rd (List UInt8) := rbind rlong fun n => if n < 0 then rbad 11 else if 20000 < n then rbad 15 else rnext n.toNat
def rtext : Rd (List UInt8) := rbind rbytes fun l => if isRight l = true then rret l else rbad 11
def rplace (f : Rd Int) (many : Nat) : Rd Int := rbind f fun n => if n < 0 ∨ (many : Int) ≤ n then rbad 11 else rret n
def rcount (have' : Nat) : Rd Nat := rbind rlong fun n =>
 if n < 0 then rbind rlong fun _ => if (300 : Int) - have' < -n then rbad 15 else rret (-n).toNat
 else if (300 : Int) - have' < n then rbad 15 else rret n.toNat
theorem fair_long : Fair rlong := fair_var 10 1
theorem fair_int : Fair rint := fair_var 5 15
theorem fair_bits (k : Nat) : Fair (rbits k) := fair_bind (fair_next k) fun _ => fair_ret _
theorem fair_if {α : Type} {c : Prop} [Decidable c] {f g : Rd α} (hf : Fair f) (hg : Fair g) : Fair (if c then f else g) := by split <;> assumption
theorem fair_bool : Fair rbool := fair_bind (fair_next 1) fun _ => fair_if (fair_bad (by decide)) (fair_ret _)
theorem fair_bytes : Fair rbytes := fair_bind fair_long fun _ => fair_if (fair_bad (by decide)) (fair_if (fair_bad (by decide)) (fair_next _))
theorem fair_text : Fair rtext := fair_bind fair_bytes fun _ => fair_if (fair_ret _) (fair_bad (by decide))
theorem fair_place {f : Rd Int} (hf : Fair f) (many : Nat) : Fair (rplace f many) := fair_bind hf fun _ => fair_if (fair_bad (by decide)) (fair_ret _)
theorem fair_count (k : Nat) : Fair (rcount k) := fair_bind fair_long fun _ => fair_if (fair_bind fair_long fun _ => fair_if (fair_bad (by decide)) (fair_ret _)) (fair_if (fair_bad (by decide)) (fair_ret _))
/-! Values. -/
def rrow (item : Rd (List (List UInt8) × VT)) : Nat → List VT → List (List UInt8) → Rd (List VT × List (List UInt8))
 | 0, xs, ks => rret (xs, ks)
 | m + 1, xs, ks => rbind item fun q => rrow item m (xs ++ [q.2]) (ks ++ q.1)
def rblks (item : Rd (List (List UInt8) × VT)) : Nat → List VT → List (List UInt8) → Rd (List VT × List (List UInt8))
 | 0, _, _ => rbad 15
 | k + 1, xs, ks => rbind (rcount xs.length) fun m => if m = 0 then rret (xs, ks) else rbind (rrow item m xs ks) fun q => rblks item k q.1 q.2
def ritem (b : Bool) (f : Rd VT) : Rd (List (List UInt8) × VT) := if b = true then rbind rtext fun y => rbind f fun v => rret ([y], v) else rbind f fun v => rret ([], v)
def rfields (f : Int → Rd VT) : List FT → List VT → Rd (List VT)
 | [], xs => rret xs
 | t :: ts, xs => rbind (f t.type) fun v => rfields f ts (xs ++ [v])
def rleaf (nd : NT) : Rd VT :=
 if nd.kind = 2 then rbind rbool fun n => rret (.mk nd.kind n 0 [] [] [])
 else if nd.kind = 3 then rbind rint fun n => rret (.mk nd.kind n 0 [] [] [])
 else if nd.kind = 4 then rbind rlong fun n => rret (.mk nd.kind n 0 [] [] [])
 else if nd.kind = 5 then rbind (rbits 4) fun b => rret (.mk nd.kind 0 b [] [] [])
 else if nd.kind = 6 then rbind (rbits 8) fun b => rret (.mk nd.kind 0 b [] [] [])
 else if nd.kind = 7 then rbind rbytes fun l => rret (.mk nd.kind 0 0 l [] [])
 else if nd.kind = 8 then rbind rtext fun l => rret (.mk nd.kind 0 0 l [] [])
 else if nd.kind = 14 then rbind (rnext nd.size.toNat) fun l => rret (.mk nd.kind 0 0 l [] [])
 else if nd.kind = 10 then rbind (rplace rint nd.symbols.length) fun n => rret (.mk nd.kind n 0 [] [] [])
 else rret (.mk nd.kind 0 0 [] [] [])
def rcomp (nd : NT) (f : Int → Rd VT) : Rd VT :=
 if nd.kind = 9 then rbind (rfields f nd.fields []) fun xs => rret (.mk nd.kind 0 0 [] xs [])
 else if nd.kind = 13 then rbind (rplace rlong nd.branches.length) fun n => rbind (f (branchAt nd n)) fun v => rret (.mk nd.kind n 0 [] [v] [])
 else rbind (rblks (ritem (nd.kind == 12) (f nd.items)) 301 [] []) fun q => rret (.mk nd.kind 0 0 [] q.1 q.2)
def isComp (k : Int) : Bool := k == 9 || k == 11 || k == 12 || k == 13
def decM (ns : List NT) : Nat → Int → Rd VT
 | 0, a => match ns[a.toNat]? with | none => rbad 2 | some nd => if isComp nd.kind = true then rbad 15 else rleaf nd
 | d + 1, a => match ns[a.toNat]? with | none => rbad 2 | some nd => if isComp nd.kind = true then rcomp nd (decM ns d) else rleaf nd
theorem fair_row {item : Rd (List (List UInt8) × VT)} (h : Fair item) : ∀ (m : Nat) (xs : List VT) (ks : List (List UInt8)), Fair (rrow item m xs ks)
 | 0, xs, ks => fair_ret _
 | m + 1, xs, ks => fair_bind h fun _ => fair_row h m _ _
theorem fair_blks {item : Rd (List (List UInt8) × VT)} (h : Fair item) : ∀ (k : Nat) (xs : List VT) (ks : List (List UInt8)), Fair (rblks item k xs ks)
 | 0, xs, ks => fair_bad (by decide)
 | k + 1, xs, ks => fair_bind (fair_count _) fun _ => fair_if (fair_ret _) (fair_bind (fair_row h _ _ _) fun _ => fair_blks h k _ _)
theorem fair_item (b : Bool) {f : Rd VT} (h : Fair f) : Fair (ritem b f) := fair_if (fair_bind fair_text fun _ => fair_bind h fun _ => fair_ret _) (fair_bind h fun _ => fair_ret _)
theorem fair_fields {f : Int → Rd VT} (h : ∀ a, Fair (f a)) : ∀ (ts : List FT) (xs : List VT), Fair (rfields f ts xs)
 | [], xs => fair_ret _
 | t :: ts, xs => fair_bind (h _) fun _ => fair_fields h ts _
theorem fair_leaf (nd : NT) : Fair (rleaf nd) :=
 fair_if (fair_bind fair_bool fun _ => fair_ret _) (fair_if (fair_bind fair_int fun _ => fair_ret _) (fair_if (fair_bind fair_long fun _ => fair_ret _) (fair_if (fair_bind (fair_bits 4) fun _ => fair_ret _) (fair_if (fair_bind (fair_bits 8) fun _ => fair_ret _)
  (fair_if (fair_bind fair_bytes fun _ => fair_ret _) (fair_if (fair_bind fair_text fun _ => fair_ret _) (fair_if (fair_bind (fair_next _) fun _ => fair_ret _) (fair_if (fair_bind (fair_place fair_int _) fun _ => fair_ret _) (fair_ret _)))))))))
theorem fair_comp (nd : NT) {f : Int → Rd VT} (h : ∀ a, Fair (f a)) : Fair (rcomp nd f) :=
 fair_if (fair_bind (fair_fields h _ _) fun _ => fair_ret _) (fair_if (fair_bind (fair_place fair_long _) fun _ => fair_bind (h _) fun _ => fair_ret _) (fair_bind (fair_blks (fair_item _ (h _)) _ _ _) fun _ => fair_ret _))
theorem fair_dec (ns : List NT) : ∀ (d : Nat) (a : Int), Fair (decM ns d a)
 | 0, a => by
   rw [decM]
   split
   · exact fair_bad (by decide)
   · exact fair_if (fair_bad (by decide)) (fair_leaf _)
 | d + 1, a => by
   rw [decM]
   split
   · exact fair_bad (by decide)
   · exact fair_if (fair_comp _ (fair_dec ns d)) (fair_leaf _)
theorem decM_leaf {ns : List NT} {a : Int} {nd : NT} (h : ns[a.toNat]? = some nd) (hk : isComp nd.kind = false) (d : Nat) : decM ns d a = rleaf nd := by
 cases d <;> rw [decM, h] <;> simp [hk]
theorem decM_zero {ns : List NT} {a : Int} {nd : NT} (h : ns[a.toNat]? = some nd) (hk : isComp nd.kind = true) : decM ns 0 a = rbad 15 := by
 rw [decM, h]
 simp [hk]
theorem decM_succ {ns : List NT} {a : Int} {nd : NT} (h : ns[a.toNat]? = some nd) (hk : isComp nd.kind = true) (d : Nat) : decM ns (d + 1) a = rcomp nd (decM ns d) := by
 rw [decM, h]
 simp [hk]

theorem and1 (u : Nat) (h : u < 18446744073709551616) : (BitVec.ofInt 64 (u : Int) &&& 1#64).toNat = u % 2 := by
 rw [BitVec.ofInt_natCast, BitVec.toNat_and, BitVec.toNat_ofNat, Nat.mod_eq_of_lt h, show (1#64).toNat = 1 from rfl, Nat.and_one_is_mod]
theorem zag_bits (u : Nat) (h : u < 18446744073709551616) : IntKind.i64.wrap ((BitVec.ofInt 64 (IntKind.i64.wrap ((u : Int).fdiv (2 ^ min 1 64))) ^^^ BitVec.ofInt 64 (IntKind.i64.wrap (0 - IntKind.i64.wrap (IntKind.u64.wrap ((BitVec.ofInt 64 (u : Int) &&& 1#64).toNat : Int))))).toNat : Int) = zagN u := by
 have e1 : IntKind.i64.wrap ((u : Int).fdiv (2 ^ min 1 64)) = ((u / 2 : Nat) : Int) := by
  rw [show (2 : Int) ^ min 1 64 = 2 from rfl, Int.fdiv_eq_ediv_of_nonneg _ (by decide), wrap64_id (by omega) (by omega)]
  omega
 have e2 : IntKind.u64.wrap ((u % 2 : Nat) : Int) = ((u % 2 : Nat) : Int) := by rw [IntKind.wrap_u64]; omega
 have e3 : IntKind.i64.wrap ((u % 2 : Nat) : Int) = ((u % 2 : Nat) : Int) := wrap64_id (by omega) (by omega)
 have e4 : IntKind.i64.wrap (0 - ((u % 2 : Nat) : Int)) = -((u % 2 : Nat) : Int) := by rw [wrap64_id (by omega) (by omega)]; omega
 rw [e1, and1 u h, e2, e3, e4]
 unfold zagN
 by_cases hu : u % 2 = 0
 · rw [hu, if_pos rfl, show -((0 : Nat) : Int) = 0 from rfl, show BitVec.ofInt 64 0 = 0#64 from rfl, BitVec.xor_zero, BitVec.ofInt_natCast, BitVec.toNat_ofNat, wrap64_id (by omega) (by omega)]
   omega
 · rw [show u % 2 = 1 from by omega, if_neg (by decide), show BitVec.ofInt 64 (-((1 : Nat) : Int)) = BitVec.allOnes 64 from by decide, BitVec.xor_allOnes, BitVec.toNat_not, BitVec.ofInt_natCast, BitVec.toNat_ofNat, IntKind.wrap_i64]
   have h2 : u / 2 < 9223372036854775808 := by omega
   generalize u / 2 = w at h2
   omega
theorem zag_told (u : Nat) (h : u < 18446744073709551616) : Told Tryz.prog 207 [.c (.v (.int .u64 (u : Int)))] (.c (.v (.int .i64 (zagN u)))) := by
 have hz := zag_bits u h
 refine VC.toldP ent_207 Tryz.func207 rfl Tryz.ntmps207 fun hb => ?_
 clear hb
 refine walkG ?_
 refine retX Tryz.results207 ?_
 exact frz_c (congrArg (fun z => PV.v (.int .i64 z)) hz)
theorem and127 (c : UInt8) : IntKind.u64.wrap (IntKind.u8.wrap ((BitVec.ofInt 8 (c.toNat : Int) &&& 127#8).toNat : Int)) = ((c.toNat % 128 : Nat) : Int) := by
 have key : ∀ x : Fin 256, ((BitVec.ofNat 8 x.val &&& 127#8).toNat) = x.val % 128 := by decide +kernel
 have := key ⟨c.toNat, c.toNat_lt⟩
 simp only [] at this
 rw [BitVec.ofInt_natCast, this, IntKind.wrap_u8, IntKind.wrap_u64]
 omega
theorem or_shift {u x k : Nat} (hu : u < 2 ^ k) (ht : u + x * 2 ^ k < 18446744073709551616) : IntKind.u64.wrap ((BitVec.ofInt 64 (u : Int) ||| BitVec.ofInt 64 ((x * 2 ^ k : Nat) : Int)).toNat : Int) = ((u + x * 2 ^ k : Nat) : Int) := by
 rw [BitVec.ofInt_natCast, BitVec.ofInt_natCast, BitVec.toNat_or, BitVec.toNat_ofNat, BitVec.toNat_ofNat, Nat.mod_eq_of_lt (by omega), Nat.mod_eq_of_lt (by omega), Nat.or_comm, ← Nat.shiftLeft_eq, ← Nat.shiftLeft_add_eq_or_of_lt hu, IntKind.wrap_u64, Nat.shiftLeft_eq]
 omega
theorem pow7 (n : Nat) : 128 ^ n = 2 ^ (7 * n) := by rw [Nat.pow_mul]
def vB (u sh most last n : Nat) : Blkd := ⟨false, 233, 5, [[.c (.v (.int .u64 (u : Int))), .c (.v (.int .u64 (sh : Int))), .c (.v (.int .i64 (most : Int))), .c (.v (.int .u8 (last : Int))), .c (.v (.int .i64 (n : Int)))]]⟩
def Wrong (most last n : Nat) (c : UInt8) : Prop := (n + 1 = most ∧ last < c.toNat) ∨ (c.toNat = 0 ∧ 0 < n)
theorem feed_told (most last n u : Nat) (c : UInt8) (hn : n < most) (hm : most ≤ 10) :
  (Wrong most last n c → ToldM Tryz.prog 227 [.ref 1000000 1 0 0, .c (.v (.int .u8 (c.toNat : Int)))] [vB u (7 * n) most last n] [some (vB u (7 * n) most last (n + 1))] (.tup [.c (.v (.bool false)), .c (.v (.int .i64 11))])) ∧
  (¬ Wrong most last n c → u < 128 ^ n → u + c.toNat % 128 * 128 ^ n < 18446744073709551616 →
   ToldM Tryz.prog 227 [.ref 1000000 1 0 0, .c (.v (.int .u8 (c.toNat : Int)))] [vB u (7 * n) most last n] [some (vB (u + c.toNat % 128 * 128 ^ n) (7 * (n + 1)) most last (n + 1))] (.tup [.c (.v (.bool (decide (c.toNat < 128)))), .c (.v (.int .i64 0))])) := by
 have hw : IntKind.i64.wrap ((n : Int) + 1) = ((n + 1 : Nat) : Int) := by rw [wrap64_id (by omega) (by omega)]; omega
 have e1 : (((n + 1 : Nat) : Int) == (most : Int)) = decide (n + 1 = most) := by
  rw [Bool.eq_iff_iff]
  simp
  omega
 have e2 : decide ((c.toNat : Int) > (last : Int)) = decide (last < c.toNat) := by simp
 have e3 : ((c.toNat : Int) == 0) = decide (c.toNat = 0) := by
  rw [Bool.eq_iff_iff]
  simp
 have e4 : decide (((n + 1 : Nat) : Int) > 1) = decide (0 < n) := by
  rw [Bool.eq_iff_iff]
  simp
  omega
 have e5 : decide ((c.toNat : Int) < 128) = decide (c.toNat < 128) := by
  rw [Bool.eq_iff_iff]
  simp
  omega
 unfold Wrong vB
 constructor
 · intro hA
   by_cases h1 : n + 1 = most ∧ last < c.toNat
   · rw [decide_eq_true h1.1] at e1
     rw [decide_eq_true h1.2] at e2
     refine VC.toldX ent_227 [] Tryz.func227 rfl Tryz.ntmps227 fun hb hbL => ?_
     clear hb hbL
     refine walkBF (And.intro hw (And.intro e1 e2)) ?_
     refine retX Tryz.results227 ?_
     exact ⟨.c _, .c _⟩
   · have h2 : c.toNat = 0 ∧ 0 < n := hA.resolve_left h1
     rw [decide_eq_true h2.1] at e3
     rw [decide_eq_true h2.2] at e4
     have h0 : ¬ last < c.toNat := by omega
     rw [decide_eq_false h0] at e2
     by_cases h3 : n + 1 = most
     · rw [decide_eq_true h3] at e1
       refine VC.toldX ent_227 [] Tryz.func227 rfl Tryz.ntmps227 fun hb hbL => ?_
       clear hb hbL
       refine walkBF (And.intro hw (And.intro e1 (And.intro e2 (And.intro e3 e4)))) ?_
       refine retX Tryz.results227 ?_
       exact ⟨.c _, .c _⟩
     · rw [decide_eq_false h3] at e1
       refine VC.toldX ent_227 [] Tryz.func227 rfl Tryz.ntmps227 fun hb hbL => ?_
       clear hb hbL
       refine walkBF (And.intro hw (And.intro e1 (And.intro e3 e4))) ?_
       refine retX Tryz.results227 ?_
       exact ⟨.c _, .c _⟩
 · intro hA hu ht
   have hc := c.toNat_lt
   have hmin : min (7 * n) 64 = 7 * n := by omega
   have hsh : IntKind.u64.wrap (((c.toNat % 128 : Nat) : Int) * 2 ^ (7 * n)) = ((c.toNat % 128 * 2 ^ (7 * n) : Nat) : Int) := by
    rw [pow7] at ht
    rw [IntKind.wrap_u64, show ((c.toNat % 128 : Nat) : Int) * 2 ^ (7 * n) = ((c.toNat % 128 * 2 ^ (7 * n) : Nat) : Int) from by simp]
    omega
   have ha := and127 c
   have ho : IntKind.u64.wrap ((BitVec.ofInt IntKind.u64.bits (u : Int) ||| BitVec.ofInt IntKind.u64.bits ((c.toNat % 128 * 2 ^ (7 * n) : Nat) : Int)).toNat : Int) = ((u + c.toNat % 128 * 128 ^ n : Nat) : Int) := by
    rw [pow7] at hu ht ⊢
    exact or_shift hu ht
   generalize u + c.toNat % 128 * 128 ^ n = U at ho ht ⊢
   have hs7 : IntKind.u64.wrap (((7 * n : Nat) : Int) + 7) = ((7 * (n + 1) : Nat) : Int) := by rw [IntKind.wrap_u64]; omega
   generalize 7 * (n + 1) = s8 at hs7 ⊢
   generalize 7 * n = s7 at hs7 hmin hsh ho ⊢
   have hs7' : ((s7 : Int)).toNat = s7 := Int.toNat_natCast _
   replace ha : IntKind.u64.wrap (IntKind.u8.wrap ((BitVec.ofInt IntKind.u8.bits (c.toNat : Int) &&& BitVec.ofInt IntKind.u8.bits 127).toNat : Int)) = ((c.toNat % 128 : Nat) : Int) := ha
   (try simp only [go_sem, Int.reduceBEq, Int.reduceLE, Int.reduceLT, Int.reduceNeg, Nat.reduceAdd, Nat.reduceEqDiff, Nat.reduceLT, Nat.reduceLeDiff, Nat.reduceMul, Nat.reduceSub, reduceCtorEq, ↓reduceIte] at ha)
   (try simp only [go_sem, Int.reduceBEq, Int.reduceLE, Int.reduceLT, Int.reduceNeg, Nat.reduceAdd, Nat.reduceEqDiff, Nat.reduceLT, Nat.reduceLeDiff, Nat.reduceMul, Nat.reduceSub, reduceCtorEq, ↓reduceIte] at ho)
   generalize decide (c.toNat < 128) = D at e5
   generalize hx : c.toNat % 128 * 2 ^ s7 = X at hsh ho
   clear hx
   by_cases h1 : n + 1 = most
   · rw [decide_eq_true h1] at e1
     rw [decide_eq_false (fun h => hA (.inl ⟨h1, h⟩))] at e2
     by_cases h2 : c.toNat = 0
     · rw [decide_eq_true h2] at e3
       rw [decide_eq_false (fun h => hA (.inr ⟨h2, h⟩))] at e4
       clear h2 h1 hA
       refine VC.toldX ent_227 [] Tryz.func227 rfl Tryz.ntmps227 fun hb hbL => ?_
       clear hb hbL
       refine walkBF (And.intro hw (And.intro e1 (And.intro e2 (And.intro e3 (And.intro e4 (And.intro e5 (And.intro hmin (And.intro hsh (And.intro ha (And.intro ho hs7)))))))))) ?_
       refine retX Tryz.results227 ?_
       exact ⟨.c _, .c _⟩
     · rw [decide_eq_false h2] at e3
       clear h2 h1 hA
       refine VC.toldX ent_227 [] Tryz.func227 rfl Tryz.ntmps227 fun hb hbL => ?_
       clear hb hbL
       refine walkBF (And.intro hw (And.intro e1 (And.intro e2 (And.intro e3 (And.intro e5 (And.intro hmin (And.intro hsh (And.intro ha (And.intro ho hs7))))))))) ?_
       refine retX Tryz.results227 ?_
       exact ⟨.c _, .c _⟩
   · rw [decide_eq_false h1] at e1
     by_cases h2 : c.toNat = 0
     · rw [decide_eq_true h2] at e3
       rw [decide_eq_false (fun h => hA (.inr ⟨h2, h⟩))] at e4
       clear h2 h1 hA
       refine VC.toldX ent_227 [] Tryz.func227 rfl Tryz.ntmps227 fun hb hbL => ?_
       clear hb hbL
       refine walkBF (And.intro hw (And.intro e1 (And.intro e3 (And.intro e4 (And.intro e5 (And.intro hmin (And.intro hsh (And.intro ha (And.intro ho hs7))))))))) ?_
       refine retX Tryz.results227 ?_
       exact ⟨.c _, .c _⟩
     · rw [decide_eq_false h2] at e3
       clear h2 h1 hA
       refine VC.toldX ent_227 [] Tryz.func227 rfl Tryz.ntmps227 fun hb hbL => ?_
       clear hb hbL
       refine walkBF (And.intro hw (And.intro e1 (And.intro e3 (And.intro e5 (And.intro hmin (And.intro hsh (And.intro ha (And.intro ho hs7)))))))) ?_
       refine retX Tryz.results227 ?_
       exact ⟨.c _, .c _⟩
theorem vtake_told (most last : Nat) (hm0 : 0 < most) (hm : most ≤ 10) (hl : last < 128) (hb64 : (last + 1) * 128 ^ (most - 1) ≤ 18446744073709551616) (B : List UInt8) (hB : B.length ≤ 1000000) (p : Nat) (hp : p ≤ B.length) (U k e : Nat)
  (hR : (vtk most last (B.drop p) 0 0 = .ok (U, k) ∧ e = 0) ∨ (vtk most last (B.drop p) 0 0 = .error (e : Int) ∧ U = 0 ∧ k = 0)) :
  ToldM Tryz.prog 206 [.c (.sl 1 (bytePV B)), .c (.v (.int .i64 (p : Int))), .ref 1000000 1 0 0] [vB 0 0 most last 0] [none] (.tup [.c (.v (.int .u64 (U : Int))), .c (.v (.int .i64 ((p + k : Nat) : Int))), .c (.v (.int .i64 (e : Int)))]) := by
 have hbl : (bytePV B).length = B.length := by simp [bytePV]
 have hdr : ((bytePV B).take B.length).drop p = bytePV (B.drop p) := by rw [← hbl, List.take_length]; simp [bytePV, List.map_drop]
 have hdl : (bytePV (B.drop p)).length = (B.drop p).length := by simp [bytePV]
 have hdn : (B.drop p).length + p = B.length := by rw [List.length_drop]; omega
 have e1 : decide ((p : Int) < 0) = false := by simp
 have e2 : decide ((p : Int) > (B.length : Int)) = false := by simp; omega
 generalize B.drop p = D at hdr hdl hdn hR
 unfold vB
 refine VC.toldX ent_206 [] Tryz.func206 rfl Tryz.ntmps206 fun hb hbL => ?_
 clear hb hbL
 refine walkBF (And.intro e1 (And.intro e2 (And.intro hbl (And.intro hdr hdl)))) ?_
 refine VC.loop (ι := {q : Nat × Nat // q.1 ≤ D.length ∧ q.1 < most ∧ q.2 < 128 ^ q.1 ∧ vtk most last (D.drop q.1) q.1 q.2 = vtk most last D 0 0})
  (fun q => [(0, .c (.sl 1 (bytePV B))), (1, .c (.v (.int .i64 (p : Int)))), (2, .ref 1000000 1 0 0), (9, .fn (.func 227) [.ref 1000000 1 0 0] []), (27, .c (.sl 1 (bytePV D))), (28, .c (.v (.int .i64 (D.length : Int)))), (29, .c (.v (.int .i64 (q.1.1 : Int))))])
  (fun q => [(1000000, ⟨false, 233, 5, [[.c (.v (.int .u64 (q.1.2 : Int))), .c (.v (.int .u64 ((7 * q.1.1 : Nat) : Int))), .c (.v (.int .i64 (most : Int))), .c (.v (.int .u8 (last : Int))), .c (.v (.int .i64 (q.1.1 : Int)))]]⟩)]) 800 (fun q => D.length - q.1.1)
  ⟨(0, 0), Nat.zero_le _, hm0, by simp, rfl⟩ ?_ ?_
 · exact weakZF (hdl)
 rintro ⟨⟨i, u⟩, hi, him, hu, hq⟩
 simp only [] at hi him hu hq ⊢
 refine walkGF (hdl) ?_
 refine VC.cond (by rfl) (by trivial) (fun hc => ?_) (fun hc => ?_)
 · have hlt : i < D.length := by simp at hc; omega
   obtain ⟨c, hcx⟩ : ∃ c, D[i]? = some c := ⟨D[i], List.getElem?_eq_getElem hlt⟩
   have hcp : (bytePV D)[i]? = some [.v (.int .u8 (c.toNat : Int))] := by unfold bytePV; rw [List.getElem?_map, hcx]; rfl
   have hdi : D.drop i = c :: D.drop (i + 1) := by
    obtain ⟨h1, h2⟩ := List.getElem?_eq_some_iff.1 hcx
    rw [← h2]
    exact List.drop_eq_getElem_cons hlt
   rw [hdi, vtk] at hq
   obtain ⟨hF1, hF2⟩ := feed_told most last i u c him hm
   have hw1 : IntKind.i64.wrap ((i : Int) + 1) = ((i + 1 : Nat) : Int) := by rw [wrap64_id (by omega) (by omega)]; omega
   have hw2 : IntKind.i64.wrap ((p : Int) + (i : Int)) = ((p + i : Nat) : Int) := by rw [wrap64_id (by omega) (by omega)]; omega
   have hw3 : IntKind.i64.wrap (((p + i : Nat) : Int) + 1) = ((p + i + 1 : Nat) : Int) := by rw [wrap64_id (by omega) (by omega)]; omega
   by_cases hW : Wrong most last i c
   · have hF := hF1 hW
     have hE : e = 11 ∧ U = 0 ∧ k = 0 := by
      have : vtk most last D 0 0 = .error 11 := by
       rw [← hq]
       rcases hW with hW | hW
       · rw [if_pos hW]
       · by_cases h2 : i + 1 = most ∧ last < c.toNat
         · rw [if_pos h2]
         · rw [if_neg h2, if_pos hW]
      rw [this] at hR
      rcases hR with ⟨h, _⟩ | ⟨h, h2, h3⟩
      · simp at h
      · injection h with h
        exact ⟨by omega, h2, h3⟩
     obtain ⟨rfl, rfl, rfl⟩ := hE
     clear hF1 hF2 hq hR hW
     unfold vB at hF
     refine walkGF (And.intro hdl hcp) ?_
     refine walkL [1000000] (hF) ?_
     refine walkB ?_
     refine retX Tryz.results206 ?_
     exact ⟨.c _, .c _, .c _⟩
   have hc8 := c.toNat_lt
   have hpw : 128 ^ (i + 1) = 128 * 128 ^ i := by rw [Nat.pow_succ, Nat.mul_comm]
   have hu1 : u + c.toNat % 128 * 128 ^ i < 128 ^ (i + 1) := by
    have h1 : c.toNat % 128 * 128 ^ i ≤ 127 * 128 ^ i := Nat.mul_le_mul_right _ (by omega)
    omega
   have hu2 : u + c.toNat % 128 * 128 ^ i < 18446744073709551616 := by
    refine Nat.lt_of_lt_of_le ?_ hb64
    rcases Nat.lt_or_ge (i + 1) most with h | h
    · calc u + c.toNat % 128 * 128 ^ i < 128 ^ (i + 1) := hu1
       _ ≤ 128 ^ (most - 1) := Nat.pow_le_pow_right (by decide) (by omega)
       _ ≤ (last + 1) * 128 ^ (most - 1) := Nat.le_mul_of_pos_left _ (by omega)
    · have hme : most - 1 = i := by omega
      have h1 : ¬ last < c.toNat := fun h2 => hW (.inl ⟨by omega, h2⟩)
      have h2 : c.toNat % 128 * 128 ^ i ≤ last * 128 ^ i := Nat.mul_le_mul_right _ (by omega)
      rw [hme, Nat.add_mul, Nat.one_mul]
      omega
   have hF := hF2 hW hu hu2
   rw [if_neg (fun h => hW (.inl h)), if_neg (fun h => hW (.inr h))] at hq
   by_cases h128 : c.toNat < 128
   · rw [if_pos h128] at hq
     rw [decide_eq_true h128] at hF
     rw [← hq] at hR
     have hE : e = 0 ∧ U = u + c.toNat % 128 * 128 ^ i ∧ k = i + 1 := by
      rcases hR with ⟨h, h2⟩ | ⟨h, _⟩
      · injection h with h
        injection h with h3 h4
        exact ⟨h2, h3.symm, h4.symm⟩
      · simp at h
     obtain ⟨rfl, rfl, rfl⟩ := hE
     clear hF1 hF2 hq hR hW hu1
     generalize u + c.toNat % 128 * 128 ^ i = U at hF hu2 ⊢
     unfold vB at hF
     refine walkGF (And.intro hdl hcp) ?_
     refine walkL [1000000] (hF) ?_
     refine walkBF (And.intro hw2 hw3) ?_
     refine retX Tryz.results206 ?_
     exact ⟨.c _, .c _, .c _⟩
   · rw [if_neg h128] at hq
     rw [decide_eq_false h128] at hF
     have him1 : i + 1 < most := by
      have : ¬ (i + 1 = most) := fun h => hW (.inl ⟨h, by omega⟩)
      omega
     clear hF1 hF2 hW
     generalize u + c.toNat % 128 * 128 ^ i = V at hF hu1 hu2 hq
     unfold vB at hF
     generalize hs8 : 7 * (i + 1) = s8 at hF
     refine walkGF (And.intro hdl hcp) ?_
     refine walkL [1000000] (hF) ?_
     refine walkBF (hw1) ?_
     refine .next ⟨(i + 1, V), hlt, him1, hu1, hq⟩ ?_ (by simp only []; omega)
     refine weakXF (hdl) ?_
     rw [← hs8]
 · have hge : D.length ≤ i := by simp at hc; omega
   rw [List.drop_eq_nil_of_le hge, vtk] at hq
   rw [← hq] at hR
   have hE : e = 10 ∧ U = 0 ∧ k = 0 := by
    rcases hR with ⟨h, _⟩ | ⟨h, h2, h3⟩
    · simp at h
    · injection h with h
      exact ⟨by omega, h2, h3⟩
   obtain ⟨rfl, rfl, rfl⟩ := hE
   refine walkB ?_
   refine retX Tryz.results206 ?_
   exact ⟨.c _, .c _, .c _⟩
def varM (most last : Nat) (B : List UInt8) (p : Nat) : Int × Int × Int := match rvar most last B p with
 | .error e => (0, (p : Int), e)
 | .ok (n, q) => (n, (q : Int), 0)
theorem vtk_bound (most last : Nat) (hm0 : 0 < most) (hl : last < 128) (hb64 : (last + 1) * 128 ^ (most - 1) ≤ 18446744073709551616) {D : List UInt8} {U k : Nat} (h : vtk most last D 0 0 = .ok (U, k)) : U < 18446744073709551616 := by
 obtain ⟨w, e1, _, e3, _⟩ := vtk_ok most last hl D 0 0 U k hm0 h
 simp at e1 e3
 omega
theorem vtk_pos (most last : Nat) : ∀ (l : List UInt8) (n u : Nat) (e : Int), vtk most last l n u = .error e → 0 ≤ e
 | [], n, u, e, h => by rw [vtk] at h; injection h with h; subst h; decide
 | c :: cs, n, u, e, h => by
   rw [vtk] at h
   split at h
   · injection h with h; subst h; decide
   split at h
   · injection h with h; subst h; decide
   split at h
   · simp at h
   · exact vtk_pos most last cs _ _ e h
theorem vtake_any (most last : Nat) (hm0 : 0 < most) (hm : most ≤ 10) (hl : last < 128) (hb64 : (last + 1) * 128 ^ (most - 1) ≤ 18446744073709551616) (B : List UInt8) (hB : B.length ≤ 1000000) (p : Nat) (hp : p ≤ B.length) : ∃ U : Nat, U < 18446744073709551616 ∧ zagN U = (varM most last B p).1 ∧
  ToldM Tryz.prog 206 [.c (.sl 1 (bytePV B)), .c (.v (.int .i64 (p : Int))), .ref 1000000 1 0 0] [vB 0 0 most last 0] [none] (.tup [.c (.v (.int .u64 (U : Int))), .c (.v (.int .i64 (varM most last B p).2.1)), .c (.v (.int .i64 (varM most last B p).2.2))]) := by
 unfold varM rvar
 cases h : vtk most last (B.drop p) 0 0 with
 | error e =>
   have he := vtk_pos most last _ _ _ e h
   obtain ⟨e, rfl⟩ : ∃ k : Nat, e = (k : Int) := ⟨e.toNat, by omega⟩
   exact ⟨0, by decide, rfl, vtake_told most last hm0 hm hl hb64 B hB p hp 0 0 e (.inr ⟨h, rfl, rfl⟩)⟩
 | ok r =>
   exact ⟨r.1, vtk_bound most last hm0 hl hb64 h, rfl, vtake_told most last hm0 hm hl hb64 B hB p hp r.1 r.2 0 (.inl ⟨h, rfl⟩)⟩
theorem vlong_told (B : List UInt8) (hB : B.length ≤ 1000000) (p : Nat) (hp : p ≤ B.length) : Told Tryz.prog 169 [.c (.sl 1 (bytePV B)), .c (.v (.int .i64 (p : Int)))] (.tup [.c (.v (.int .i64 (varM 10 1 B p).1)), .c (.v (.int .i64 (varM 10 1 B p).2.1)), .c (.v (.int .i64 (varM 10 1 B p).2.2))]) := by
 obtain ⟨U, hU, hz, hT⟩ := vtake_any 10 1 (by decide) (by decide) (by decide) (by decide) B hB p hp
 have hZ := zag_told U hU
 rw [hz] at hZ
 generalize varM 10 1 B p = R at hT hZ
 unfold vB at hT
 rw [show ((0 : Nat) : Int) = 0 from rfl, show ((10 : Nat) : Int) = 10 from rfl, show ((1 : Nat) : Int) = 1 from rfl] at hT
 refine VC.toldP ent_169 Tryz.func169 rfl Tryz.ntmps169 fun hb => ?_
 clear hb
 refine walkG ?_
 refine walkL [48] (hT) ?_
 refine walkG ?_
 refine walkC (hZ) ?_
 refine walkG ?_
 refine retX Tryz.results169 ?_
 exact ⟨.c _, .c _, .c _⟩
theorem vint_told (B : List UInt8) (hB : B.length ≤ 1000000) (p : Nat) (hp : p ≤ B.length) : Told Tryz.prog 167 [.c (.sl 1 (bytePV B)), .c (.v (.int .i64 (p : Int)))] (.tup [.c (.v (.int .i64 (varM 5 15 B p).1)), .c (.v (.int .i64 (varM 5 15 B p).2.1)), .c (.v (.int .i64 (varM 5 15 B p).2.2))]) := by
 obtain ⟨U, hU, hz, hT⟩ := vtake_any 5 15 (by decide) (by decide) (by decide) (by decide) B hB p hp
 have hZ := zag_told U hU
 rw [hz] at hZ
 generalize varM 5 15 B p = R at hT hZ
 unfold vB at hT
 rw [show ((0 : Nat) : Int) = 0 from rfl, show ((5 : Nat) : Int) = 5 from rfl, show ((15 : Nat) : Int) = 15 from rfl] at hT
 refine VC.toldP ent_167 Tryz.func167 rfl Tryz.ntmps167 fun hb => ?_
 clear hb
 refine walkG ?_
 refine walkL [48] (hT) ?_
 refine walkG ?_
 refine walkC (hZ) ?_
 refine walkG ?_
 refine retX Tryz.results167 ?_
 exact ⟨.c _, .c _, .c _⟩

theorem ufirst_told0 {x : UInt8} (h0 : x.toNat < 128) : ∃ c : Int, Told Tryz.prog 228 [.c (.v (.int .u8 (x.toNat : Int)))] (.tup [.c (.v (.int .i64 (ufirst x : Int))), .c (.v (.int .i32 c))]) := by
 have e0 : ((x.toNat : Int) < 128) = True := by simp; omega
 have hu : ufirst x = 1 := by unfold ufirst; repeat' split <;> try omega
 rw [hu]
 apply Exists.intro
 case h =>
 refine VC.told ent_228 Tryz.func228 rfl Tryz.ntmps228 (by simp) (by rfl) (by rfl) fun hb => ?_
 clear hb
 refine walkGF (e0) ?_
 refine VC.condT (by rfl) (by trivial) ?_
 refine walkG ?_
 refine ⟨.inr rfl, ?_⟩
 rw [Tryz.results228]
 simp only [resOk, resV, go_sem, simprocAttr]
 exact ⟨.c _, .c _⟩
theorem ufirst_told1 {x : UInt8} (h0 : ¬ x.toNat < 128) (h1 : x.toNat < 194) : ∃ c : Int, Told Tryz.prog 228 [.c (.v (.int .u8 (x.toNat : Int)))] (.tup [.c (.v (.int .i64 (ufirst x : Int))), .c (.v (.int .i32 c))]) := by
 have e0 : ((x.toNat : Int) < 128) = False := by simp; omega
 have e1 : ((x.toNat : Int) < 194) = True := by simp; omega
 have hu : ufirst x = 0 := by unfold ufirst; repeat' split <;> try omega
 rw [hu]
 apply Exists.intro
 case h =>
 refine VC.told ent_228 Tryz.func228 rfl Tryz.ntmps228 (by simp) (by rfl) (by rfl) fun hb => ?_
 clear hb
 refine walkGF (e0) ?_
 refine VC.condF (by rfl) (by trivial) ?_
 refine walkGF (e1) ?_
 refine VC.condT (by rfl) (by trivial) ?_
 refine walkG ?_
 refine ⟨.inr rfl, ?_⟩
 rw [Tryz.results228]
 simp only [resOk, resV, go_sem, simprocAttr]
 exact ⟨.c _, .c _⟩
theorem ufirst_told2 {x : UInt8} (h0 : ¬ x.toNat < 128) (h1 : ¬ x.toNat < 194) (h2 : x.toNat < 224) : ∃ c : Int, Told Tryz.prog 228 [.c (.v (.int .u8 (x.toNat : Int)))] (.tup [.c (.v (.int .i64 (ufirst x : Int))), .c (.v (.int .i32 c))]) := by
 have e0 : ((x.toNat : Int) < 128) = False := by simp; omega
 have e1 : ((x.toNat : Int) < 194) = False := by simp; omega
 have e2 : ((x.toNat : Int) < 224) = True := by simp; omega
 have hu : ufirst x = 2 := by unfold ufirst; repeat' split <;> try omega
 rw [hu]
 apply Exists.intro
 case h =>
 refine VC.told ent_228 Tryz.func228 rfl Tryz.ntmps228 (by simp) (by rfl) (by rfl) fun hb => ?_
 clear hb
 refine walkGF (e0) ?_
 refine VC.condF (by rfl) (by trivial) ?_
 refine walkGF (e1) ?_
 refine VC.condF (by rfl) (by trivial) ?_
 refine walkGF (e2) ?_
 refine VC.condT (by rfl) (by trivial) ?_
 refine walkG ?_
 refine ⟨.inr rfl, ?_⟩
 rw [Tryz.results228]
 simp only [resOk, resV, go_sem, simprocAttr]
 exact ⟨.c _, .c _⟩
theorem ufirst_told3 {x : UInt8} (h0 : ¬ x.toNat < 128) (h1 : ¬ x.toNat < 194) (h2 : ¬ x.toNat < 224) (h3 : x.toNat < 240) : ∃ c : Int, Told Tryz.prog 228 [.c (.v (.int .u8 (x.toNat : Int)))] (.tup [.c (.v (.int .i64 (ufirst x : Int))), .c (.v (.int .i32 c))]) := by
 have e0 : ((x.toNat : Int) < 128) = False := by simp; omega
 have e1 : ((x.toNat : Int) < 194) = False := by simp; omega
 have e2 : ((x.toNat : Int) < 224) = False := by simp; omega
 have e3 : ((x.toNat : Int) < 240) = True := by simp; omega
 have hu : ufirst x = 3 := by unfold ufirst; repeat' split <;> try omega
 rw [hu]
 apply Exists.intro
 case h =>
 refine VC.told ent_228 Tryz.func228 rfl Tryz.ntmps228 (by simp) (by rfl) (by rfl) fun hb => ?_
 clear hb
 refine walkGF (e0) ?_
 refine VC.condF (by rfl) (by trivial) ?_
 refine walkGF (e1) ?_
 refine VC.condF (by rfl) (by trivial) ?_
 refine walkGF (e2) ?_
 refine VC.condF (by rfl) (by trivial) ?_
 refine walkGF (e3) ?_
 refine VC.condT (by rfl) (by trivial) ?_
 refine walkG ?_
 refine ⟨.inr rfl, ?_⟩
 rw [Tryz.results228]
 simp only [resOk, resV, go_sem, simprocAttr]
 exact ⟨.c _, .c _⟩
theorem ufirst_told4 {x : UInt8} (h0 : ¬ x.toNat < 128) (h1 : ¬ x.toNat < 194) (h2 : ¬ x.toNat < 224) (h3 : ¬ x.toNat < 240) (h4 : x.toNat < 245) : ∃ c : Int, Told Tryz.prog 228 [.c (.v (.int .u8 (x.toNat : Int)))] (.tup [.c (.v (.int .i64 (ufirst x : Int))), .c (.v (.int .i32 c))]) := by
 have e0 : ((x.toNat : Int) < 128) = False := by simp; omega
 have e1 : ((x.toNat : Int) < 194) = False := by simp; omega
 have e2 : ((x.toNat : Int) < 224) = False := by simp; omega
 have e3 : ((x.toNat : Int) < 240) = False := by simp; omega
 have e4 : ((x.toNat : Int) < 245) = True := by simp; omega
 have hu : ufirst x = 4 := by unfold ufirst; repeat' split <;> try omega
 rw [hu]
 apply Exists.intro
 case h =>
 refine VC.told ent_228 Tryz.func228 rfl Tryz.ntmps228 (by simp) (by rfl) (by rfl) fun hb => ?_
 clear hb
 refine walkGF (e0) ?_
 refine VC.condF (by rfl) (by trivial) ?_
 refine walkGF (e1) ?_
 refine VC.condF (by rfl) (by trivial) ?_
 refine walkGF (e2) ?_
 refine VC.condF (by rfl) (by trivial) ?_
 refine walkGF (e3) ?_
 refine VC.condF (by rfl) (by trivial) ?_
 refine walkGF (e4) ?_
 refine VC.condT (by rfl) (by trivial) ?_
 refine walkG ?_
 refine ⟨.inr rfl, ?_⟩
 rw [Tryz.results228]
 simp only [resOk, resV, go_sem, simprocAttr]
 exact ⟨.c _, .c _⟩
theorem ufirst_told5 {x : UInt8} (h0 : ¬ x.toNat < 128) (h1 : ¬ x.toNat < 194) (h2 : ¬ x.toNat < 224) (h3 : ¬ x.toNat < 240) (h4 : ¬ x.toNat < 245) : ∃ c : Int, Told Tryz.prog 228 [.c (.v (.int .u8 (x.toNat : Int)))] (.tup [.c (.v (.int .i64 (ufirst x : Int))), .c (.v (.int .i32 c))]) := by
 have e0 : ((x.toNat : Int) < 128) = False := by simp; omega
 have e1 : ((x.toNat : Int) < 194) = False := by simp; omega
 have e2 : ((x.toNat : Int) < 224) = False := by simp; omega
 have e3 : ((x.toNat : Int) < 240) = False := by simp; omega
 have e4 : ((x.toNat : Int) < 245) = False := by simp; omega
 have hu : ufirst x = 0 := by unfold ufirst; repeat' split <;> try omega
 rw [hu]
 apply Exists.intro
 case h =>
 refine VC.told ent_228 Tryz.func228 rfl Tryz.ntmps228 (by simp) (by rfl) (by rfl) fun hb => ?_
 clear hb
 refine walkGF (e0) ?_
 refine VC.condF (by rfl) (by trivial) ?_
 refine walkGF (e1) ?_
 refine VC.condF (by rfl) (by trivial) ?_
 refine walkGF (e2) ?_
 refine VC.condF (by rfl) (by trivial) ?_
 refine walkGF (e3) ?_
 refine VC.condF (by rfl) (by trivial) ?_
 refine walkGF (e4) ?_
 refine VC.condF (by rfl) (by trivial) ?_
 refine walkG ?_
 refine ⟨.inr rfl, ?_⟩
 rw [Tryz.results228]
 simp only [resOk, resV, go_sem, simprocAttr]
 exact ⟨.c _, .c _⟩
theorem ufirst_told (x : UInt8) : ∃ c : Int, Told Tryz.prog 228 [.c (.v (.int .u8 (x.toNat : Int)))] (.tup [.c (.v (.int .i64 (ufirst x : Int))), .c (.v (.int .i32 c))]) := by
 by_cases h0 : x.toNat < 128
 · exact ufirst_told0 h0
 by_cases h1 : x.toNat < 194
 · exact ufirst_told1 h0 h1
 by_cases h2 : x.toNat < 224
 · exact ufirst_told2 h0 h1 h2
 by_cases h3 : x.toNat < 240
 · exact ufirst_told3 h0 h1 h2 h3
 by_cases h4 : x.toNat < 245
 · exact ufirst_told4 h0 h1 h2 h3 h4
 · exact ufirst_told5 h0 h1 h2 h3 h4

theorem usec_told0 {x y : UInt8} (h0 : x.toNat = 224) : Told Tryz.prog 229 [.c (.v (.int .u8 (x.toNat : Int))), .c (.v (.int .u8 (y.toNat : Int)))] (.c (.v (.bool (usec x y)))) := by
 have e0 : ((x.toNat : Int) == 224) = true := by simp; omega
 have hu : usec x y = decide (160 ≤ y.toNat ∧ y.toNat ≤ 191) := by
  unfold usec ulo uhi
  congr 1
  repeat' split
  all_goals first | rfl | omega
 rw [hu]
 refine VC.told ent_229 Tryz.func229 rfl Tryz.ntmps229 (by simp) (by rfl) (by rfl) fun hb => ?_
 clear hb
 refine walkGF (e0) ?_
 refine VC.condT (by rfl) (by trivial) ?_
 refine walkG ?_
 refine ⟨.inr rfl, ?_⟩
 rw [Tryz.results229]
 simp only [resOk, resV, go_sem, simprocAttr]
 refine frz_c ?_
 congr 2
 rw [Bool.eq_iff_iff]
 simp
 omega
theorem usec_told1 {x y : UInt8} (h0 : x.toNat ≠ 224) (h1 : x.toNat = 237) : Told Tryz.prog 229 [.c (.v (.int .u8 (x.toNat : Int))), .c (.v (.int .u8 (y.toNat : Int)))] (.c (.v (.bool (usec x y)))) := by
 have e0 : ((x.toNat : Int) == 224) = false := by simp; omega
 have e1 : ((x.toNat : Int) == 237) = true := by simp; omega
 have hu : usec x y = decide (128 ≤ y.toNat ∧ y.toNat ≤ 159) := by
  unfold usec ulo uhi
  congr 1
  repeat' split
  all_goals first | rfl | omega
 rw [hu]
 refine VC.told ent_229 Tryz.func229 rfl Tryz.ntmps229 (by simp) (by rfl) (by rfl) fun hb => ?_
 clear hb
 refine walkGF (e0) ?_
 refine VC.condF (by rfl) (by trivial) ?_
 refine walkGF (e1) ?_
 refine VC.condT (by rfl) (by trivial) ?_
 refine walkG ?_
 refine ⟨.inr rfl, ?_⟩
 rw [Tryz.results229]
 simp only [resOk, resV, go_sem, simprocAttr]
 refine frz_c ?_
 congr 2
 rw [Bool.eq_iff_iff]
 simp
 omega
theorem usec_told2 {x y : UInt8} (h0 : x.toNat ≠ 224) (h1 : x.toNat ≠ 237) (h2 : x.toNat = 240) : Told Tryz.prog 229 [.c (.v (.int .u8 (x.toNat : Int))), .c (.v (.int .u8 (y.toNat : Int)))] (.c (.v (.bool (usec x y)))) := by
 have e0 : ((x.toNat : Int) == 224) = false := by simp; omega
 have e1 : ((x.toNat : Int) == 237) = false := by simp; omega
 have e2 : ((x.toNat : Int) == 240) = true := by simp; omega
 have hu : usec x y = decide (144 ≤ y.toNat ∧ y.toNat ≤ 191) := by
  unfold usec ulo uhi
  congr 1
  repeat' split
  all_goals first | rfl | omega
 rw [hu]
 refine VC.told ent_229 Tryz.func229 rfl Tryz.ntmps229 (by simp) (by rfl) (by rfl) fun hb => ?_
 clear hb
 refine walkGF (e0) ?_
 refine VC.condF (by rfl) (by trivial) ?_
 refine walkGF (e1) ?_
 refine VC.condF (by rfl) (by trivial) ?_
 refine walkGF (e2) ?_
 refine VC.condT (by rfl) (by trivial) ?_
 refine walkG ?_
 refine ⟨.inr rfl, ?_⟩
 rw [Tryz.results229]
 simp only [resOk, resV, go_sem, simprocAttr]
 refine frz_c ?_
 congr 2
 rw [Bool.eq_iff_iff]
 simp
 omega
theorem usec_told3 {x y : UInt8} (h0 : x.toNat ≠ 224) (h1 : x.toNat ≠ 237) (h2 : x.toNat ≠ 240) (h3 : x.toNat = 244) : Told Tryz.prog 229 [.c (.v (.int .u8 (x.toNat : Int))), .c (.v (.int .u8 (y.toNat : Int)))] (.c (.v (.bool (usec x y)))) := by
 have e0 : ((x.toNat : Int) == 224) = false := by simp; omega
 have e1 : ((x.toNat : Int) == 237) = false := by simp; omega
 have e2 : ((x.toNat : Int) == 240) = false := by simp; omega
 have e3 : ((x.toNat : Int) == 244) = true := by simp; omega
 have hu : usec x y = decide (128 ≤ y.toNat ∧ y.toNat ≤ 143) := by
  unfold usec ulo uhi
  congr 1
  repeat' split
  all_goals first | rfl | omega
 rw [hu]
 refine VC.told ent_229 Tryz.func229 rfl Tryz.ntmps229 (by simp) (by rfl) (by rfl) fun hb => ?_
 clear hb
 refine walkGF (e0) ?_
 refine VC.condF (by rfl) (by trivial) ?_
 refine walkGF (e1) ?_
 refine VC.condF (by rfl) (by trivial) ?_
 refine walkGF (e2) ?_
 refine VC.condF (by rfl) (by trivial) ?_
 refine walkGF (e3) ?_
 refine VC.condT (by rfl) (by trivial) ?_
 refine walkG ?_
 refine ⟨.inr rfl, ?_⟩
 rw [Tryz.results229]
 simp only [resOk, resV, go_sem, simprocAttr]
 refine frz_c ?_
 congr 2
 rw [Bool.eq_iff_iff]
 simp
 omega
theorem usec_told4 {x y : UInt8} (h0 : x.toNat ≠ 224) (h1 : x.toNat ≠ 237) (h2 : x.toNat ≠ 240) (h3 : x.toNat ≠ 244) : Told Tryz.prog 229 [.c (.v (.int .u8 (x.toNat : Int))), .c (.v (.int .u8 (y.toNat : Int)))] (.c (.v (.bool (usec x y)))) := by
 have e0 : ((x.toNat : Int) == 224) = false := by simp; omega
 have e1 : ((x.toNat : Int) == 237) = false := by simp; omega
 have e2 : ((x.toNat : Int) == 240) = false := by simp; omega
 have e3 : ((x.toNat : Int) == 244) = false := by simp; omega
 have hu : usec x y = decide (128 ≤ y.toNat ∧ y.toNat ≤ 191) := by
  unfold usec ulo uhi
  congr 1
  repeat' split
  all_goals first | rfl | omega
 rw [hu]
 refine VC.told ent_229 Tryz.func229 rfl Tryz.ntmps229 (by simp) (by rfl) (by rfl) fun hb => ?_
 clear hb
 refine walkGF (e0) ?_
 refine VC.condF (by rfl) (by trivial) ?_
 refine walkGF (e1) ?_
 refine VC.condF (by rfl) (by trivial) ?_
 refine walkGF (e2) ?_
 refine VC.condF (by rfl) (by trivial) ?_
 refine walkGF (e3) ?_
 refine VC.condF (by rfl) (by trivial) ?_
 refine walkG ?_
 refine ⟨.inr rfl, ?_⟩
 rw [Tryz.results229]
 simp only [resOk, resV, go_sem, simprocAttr]
 refine frz_c ?_
 congr 2
 rw [Bool.eq_iff_iff]
 simp
 omega
theorem usec_told (x y : UInt8) : Told Tryz.prog 229 [.c (.v (.int .u8 (x.toNat : Int))), .c (.v (.int .u8 (y.toNat : Int)))] (.c (.v (.bool (usec x y)))) := by
 by_cases h0 : x.toNat = 224
 · exact usec_told0 h0
 by_cases h1 : x.toNat = 237
 · exact usec_told1 h0 h1
 by_cases h2 : x.toNat = 240
 · exact usec_told2 h0 h1 h2
 by_cases h3 : x.toNat = 244
 · exact usec_told3 h0 h1 h2 h3
 · exact usec_told4 h0 h1 h2 h3

theorem cont_bits : ∀ x : Nat, x < 256 → ((IntKind.u8.wrap ((BitVec.ofInt IntKind.u8.bits ((x : Nat) : Int) &&& BitVec.ofInt IntKind.u8.bits 192).toNat : Int)) != 128) = !decide (128 ≤ x ∧ x < 192) := by decide +kernel
theorem cont_bit (x : UInt8) : ((IntKind.u8.wrap ((BitVec.ofInt IntKind.u8.bits (x.toNat : Int) &&& BitVec.ofInt IntKind.u8.bits 192).toNat : Int)) != 128) = !ucont x := cont_bits x.toNat x.toNat_lt
theorem pv_at {l : List UInt8} {i : Nat} (h : i < l.length) : (bytePV l)[i]? = some [.v (.int .u8 ((byteAt l i).toNat : Int))] := by
 unfold bytePV byteAt
 rw [List.getElem?_map, List.getElem?_eq_getElem h]
 rfl
def unext (l : List UInt8) (p : Nat) : Nat := if uerr l p = 0 then p + ulen l p else p
theorem utake_told (l : List UInt8) (p : Nat) (hp : p ≤ l.length) (hbig : l.length ≤ 9223372036854775000) : Told Tryz.prog 211 [.c (.sl 1 (bytePV l)), .c (.v (.int .i64 (p : Int)))] (.tup [.any, .c (.v (.int .i64 (unext l p : Int))), .c (.v (.int .i64 (uerr l p : Int)))]) := by
 have hlen : (bytePV l).length = l.length := by simp [bytePV]
 refine VC.told ent_211 Tryz.func211 rfl Tryz.ntmps211 (by simp) (by rfl) (by rfl) fun hb => ?_
 clear hb
 have e1 : ((p : Int) < 0) = False := eq_false (by omega)
 have e2 : ((p : Int) > (l.length : Int)) = False := eq_false (by omega)
 refine walkGF (And.intro e1 (And.intro e2 hlen)) ?_
 refine VC.condF (by rfl) (by trivial) ?_
 refine walkGF (hlen) ?_
 refine VC.cond (by rfl) (by trivial) (fun hc => ?_) (fun hc => ?_)
 · have he : p = l.length := by simp at hc; omega
   have hu : uerr l p = 10 := by unfold uerr; rw [if_neg (by omega)]
   have hn : unext l p = p := by unfold unext; rw [if_neg (by omega)]
   rw [hu, hn]
   refine walkG ?_
   refine ⟨.inr rfl, ?_⟩
   rw [Tryz.results211]
   simp only [resOk, resV, go_sem, simprocAttr]
   exact ⟨.any _, .c _, .c _⟩
 have hlt : p < l.length := by simp at hc; omega
 clear hc
 obtain ⟨c0, hfirst⟩ := ufirst_told (byteAt l p)
 have hat := pv_at hlt
 refine walkGF (And.intro hlen hat) ?_
 (refine AO.step fun K hK => ?_; simp only [go_sem, Int.reduceBEq, Int.reduceLE, Int.reduceLT, Int.reduceNeg, Nat.reduceAdd, Nat.reduceEqDiff, Nat.reduceLT, Nat.reduceLeDiff, Nat.reduceMul, Nat.reduceSub, reduceCtorEq, ↓reduceIte, hat]; (first | refine gsel_go ?_ | skip))
 refine .inl ⟨_, hfirst, hK _ _ _ ?_⟩
 clear hK K hfirst
 refine walkG ?_
 refine VC.cond (by rfl) (by trivial) (fun hc => ?_) (fun hc => ?_)
 · have hf : ufirst (byteAt l p) = 0 := by simp at hc; omega
   have hu : uerr l p = 11 := by unfold uerr; rw [if_pos hlt, if_pos hf]
   have hn : unext l p = p := by unfold unext; rw [if_neg (by omega)]
   rw [hu, hn]
   refine walkG ?_
   refine ⟨.inr rfl, ?_⟩
   rw [Tryz.results211]
   simp only [resOk, resV, go_sem, simprocAttr]
   exact ⟨.any _, .c _, .c _⟩
 have hf : ufirst (byteAt l p) ≠ 0 := by simp at hc; omega
 clear hc
 have hue : uerr l p = ustat l p (ufirst (byteAt l p) - 1) := by unfold uerr; rw [if_pos hlt, if_neg hf]
 have hf4 : ufirst (byteAt l p) ≤ 4 := by unfold ufirst; repeat' split <;> try omega
 obtain ⟨n, hn⟩ : ∃ n, n = ufirst (byteAt l p) := ⟨_, rfl⟩
 have hul : ulen l p = n := hn.symm
 rw [← hn] at hf hf4 hue
 refine walkGF (hn.symm) ?_
 refine VC.loop (ι := {q : Nat × Int // 1 ≤ q.1 ∧ q.1 ≤ n ∧ ustat l p (q.1 - 1) = 0}) (fun q => [(0, .c (.sl 1 (bytePV l))), (1, .c (.v (.int .i64 (p : Int)))), (4, .c (.v (.int .i32 q.1.2))), (7, .c (.v (.int .i64 (n : Int)))), (8, .c (.v (.int .i64 (q.1.1 : Int))))])
  (fun _ => []) 0 (fun q => n - q.1.1) ⟨(1, c0), Nat.le_refl _, by simp only []; omega, rfl⟩ ?_ ?_
 · simp only [← hn, Weak, eq_self, used_is, sc_any, sc_c, sc_pp, sc_ref, sc_row, sc_agg, sc_fn, ScL, some_imp, List.forall_mem_map, go_sem, Int.reduceBEq, Int.reduceLE, Int.reduceLT, Int.reduceNeg, Nat.reduceAdd, Nat.reduceEqDiff, Nat.reduceLT, Nat.reduceLeDiff, Nat.reduceMul, Nat.reduceSub, reduceCtorEq, ↓reduceIte]
   all_goals first | rfl | exact cI (by omega)
 rintro ⟨⟨i, c⟩, hi1, hi2, hst⟩
 simp only [] at hi1 hi2 hst ⊢
 refine walkG ?_
 refine VC.cond (by rfl) (by trivial) (fun hc => ?_) (fun hc => ?_)
 · have hin : i < n := by simp at hc; omega
   clear hc
   have hw1 : IntKind.i64.wrap ((p : Int) + (i : Int)) = (p : Int) + (i : Int) := wrap64_id (by omega) (by omega)
   have hw2 : IntKind.i64.wrap ((i : Int) + 1) = (i : Int) + 1 := wrap64_id (by omega) (by omega)
   refine walkGF (And.intro hlen hw1) ?_
   refine VC.cond (by rfl) (by trivial) (fun hc => ?_) (fun hc => ?_)
   · have hpi : p + i = l.length := by simp at hc; omega
     have hsp : ustep l p i = 10 := by unfold ustep; rw [if_neg (by omega)]
     have hu : uerr l p = 10 := by rw [hue, ustat_bad hi1 hin hst (by omega), hsp]
     have hnx : unext l p = p := by unfold unext; rw [if_neg (by omega)]
     rw [hu, hnx]
     refine walkG ?_
     refine ⟨.inr rfl, ?_⟩
     rw [Tryz.results211]
     simp only [resOk, resV, go_sem, simprocAttr]
     exact ⟨.any _, .c _, .c _⟩
   have hpi : p + i < l.length := by
    have : p + i ≠ l.length := by simp at hc; omega
    have hall : p + i ≤ l.length := by
     have h0 := hst
     cases hi : i with
     | zero => omega
     | succ k =>
       rw [hi] at h0
       cases k with
       | zero => omega
       | succ k =>
         simp only [Nat.add_sub_cancel, ustat] at h0
         split at h0
         · unfold ustep at h0
           split at h0
           · omega
           · simp at h0
         · rename_i h1; exact absurd h0 h1
    omega
   clear hc
   have hat2 := pv_at hpi
   have hti : ((p : Int) + (i : Int)).toNat = p + i := by omega
   have hsec := usec_told (byteAt l p) (byteAt l (p + i))
   have hcb := cont_bit (byteAt l (p + i))
   (try simp only [go_sem, Int.reduceBEq, Int.reduceLE, Int.reduceLT, Int.reduceNeg, Nat.reduceAdd, Nat.reduceEqDiff, Nat.reduceLT, Nat.reduceLeDiff, Nat.reduceMul, Nat.reduceSub, reduceCtorEq, ↓reduceIte] at hcb)
   refine walkGF (And.intro hlen (And.intro hw1 (And.intro hti (And.intro hat2 (And.intro hat hcb))))) ?_
   (refine AO.step fun K hK => ?_; simp only [go_sem, Int.reduceBEq, Int.reduceLE, Int.reduceLT, Int.reduceNeg, Nat.reduceAdd, Nat.reduceEqDiff, Nat.reduceLT, Nat.reduceLeDiff, Nat.reduceMul, Nat.reduceSub, reduceCtorEq, ↓reduceIte, hat, hcb]; (first | refine gsel_go ?_ | skip))
   refine .inl ⟨_, fun _ => hsec, hK _ _ _ ?_⟩
   clear hK K hsec
   refine walkG ?_
   refine VC.cond (by rfl) (by trivial) (fun hc => ?_) (fun hc => ?_)
   · have hsp : ustep l p i = 11 := by
      unfold ustep
      rw [if_pos hpi, if_neg]
      simp at hc
      rintro ⟨g1, g2⟩
      rcases hc with hc | hc
      · simp [hc] at g1
      · have := g2 (by omega)
        simp_all
     have hu : uerr l p = 11 := by rw [hue, ustat_bad hi1 hin hst (by omega), hsp]
     have hnx : unext l p = p := by unfold unext; rw [if_neg (by omega)]
     rw [hu, hnx]
     refine walkG ?_
     refine ⟨.inr rfl, ?_⟩
     rw [Tryz.results211]
     simp only [resOk, resV, go_sem, simprocAttr]
     exact ⟨.any _, .c _, .c _⟩
   · have hsp : ustep l p i = 0 := by
      unfold ustep
      rw [if_pos hpi, if_pos]
      simp at hc
      refine ⟨hc.1, fun h1 => ?_⟩
      exact hc.2 (by omega)
     have hst2 : ustat l p i = 0 := by
      cases hi : i with
      | zero => omega
      | succ k =>
        rw [hi] at hst hsp
        exact ustat_next (by simpa using hst) hsp
     clear hc
     refine walkGF (hw2) ?_
     apply RQ.next ⟨(i + 1, _), by simp only []; omega, by simp only []; omega, by simpa using hst2⟩
     · refine weakX ?_
       exact ⟨rfl, cI (by omega)⟩
     · simp only []; omega
 · have hin : i = n := by simp at hc; omega
   subst hin
   have hu : uerr l p = 0 := by rw [hue, hst]
   have hnx : unext l p = p + i := by unfold unext; rw [if_pos hu, hul]
   have hbd := ulen_bound hu
   have hw1 : IntKind.i64.wrap ((p : Int) + (i : Int)) = ((p + i : Nat) : Int) := by rw [wrap64_id (by omega) (by omega)]; omega
   rw [hu, hnx]
   refine walkGF (hw1) ?_
   refine ⟨.inr rfl, ?_⟩
   rw [Tryz.results211]
   simp only [resOk, resV, go_sem, simprocAttr]
   exact ⟨.any _, .c _, .c _⟩

theorem ucount_told (l : List UInt8) (hbig : l.length ≤ 9223372036854775000) : Told Tryz.prog 178 [.c (.sl 1 (bytePV l))] (.tup [.c (.v (.int .i64 ((uCnt l 0 0).1 : Int))), .c (.v (.int .i64 ((uCnt l 0 0).2 : Int)))]) := by
 have hlen : (bytePV l).length = l.length := by simp [bytePV]
 refine VC.toldP ent_178 Tryz.func178 rfl Tryz.ntmps178 fun hb => ?_
 clear hb
 obtain ⟨V, hV⟩ : ∃ V, V = uCnt l 0 0 := ⟨_, rfl⟩
 rw [← hV]
 refine walkG ?_
 refine VC.loop (ι := {q : Nat × Nat // q.1 ≤ l.length ∧ q.2 ≤ q.1 ∧ uCnt l q.1 q.2 = V}) (fun q => [(0, .c (.sl 1 (bytePV l))), (4, .c (.v (.int .i64 (q.1.2 : Int)))), (5, .c (.v (.int .i64 (q.1.1 : Int))))]) (fun _ => []) 0 (fun q => l.length - q.1.1) ⟨(0, 0), Nat.zero_le _, Nat.le_refl _, hV.symm⟩ ?_ ?_
 · simp only [Weak, eq_self, used_is, sc_any, sc_c, sc_pp, sc_ref, sc_row, sc_agg, sc_fn, ScL, some_imp, List.forall_mem_map, go_sem, Int.reduceBEq, Int.reduceLE, Int.reduceLT, Int.reduceNeg, Nat.reduceAdd, Nat.reduceEqDiff, Nat.reduceLT, Nat.reduceLeDiff, Nat.reduceMul, Nat.reduceSub, reduceCtorEq, ↓reduceIte]
   all_goals rfl
 rintro ⟨⟨p, k⟩, hp, hk, hu⟩
 simp only [] at hp hk hu ⊢
 refine walkGF (hlen) ?_
 refine VC.cond (by rfl) (by trivial) (fun hc => ?_) (fun hc => ?_)
 · have hlt : p < l.length := by simp at hc; omega
   have ht := utake_told l p hp hbig
   have hw : IntKind.i64.wrap ((k : Int) + 1) = (k : Int) + 1 := wrap64_id (by omega) (by omega)
   refine walkGF (hlen) ?_
   refine walkC (ht) ?_
   refine walkG ?_
   refine VC.cond (by rfl) (by trivial) (fun he => ?_) (fun he => ?_)
   · have h2 : uerr l p ≠ 0 := by simpa using he
     rw [uCnt_bad hlt h2] at hu
     subst hu
     refine walkG ?_
     refine retX Tryz.results178 ?_
     exact ⟨.c _, .c _⟩
   · have h2 : uerr l p = 0 := by simpa using he
     obtain ⟨h3, h4⟩ := ulen_bound h2
     have hn : unext l p = p + ulen l p := by unfold unext; rw [if_pos h2]
     rw [uCnt_next hlt h2] at hu
     refine walkGF (And.intro hw hn) ?_
     refine .next ⟨(p + ulen l p, k + 1), h4, by simp only []; omega, hu⟩ ?_ (by simp only []; omega)
     refine weakX ?_
     exact cI (by omega)
 · have hge : ¬ p < l.length := by simp at hc; omega
   rw [uCnt_end hge] at hu
   subst hu
   refine walkG ?_
   refine retX Tryz.results178 ?_
   exact ⟨.c _, .c _⟩
theorem uright_told (l : List UInt8) (hbig : l.length ≤ 9223372036854775000) : Told Tryz.prog 123 [.c (.sl 1 (bytePV l))] (.c (.v (.bool (isRight l)))) := by
 have h := ucount_told l hbig
 refine VC.toldP ent_123 Tryz.func123 rfl Tryz.ntmps123 fun hb => ?_
 clear hb
 refine walkG ?_
 refine walkC (h) ?_
 refine walkG ?_
 refine retX Tryz.results123 ?_
 exact frz_c (by unfold isRight; congr 2; rw [Bool.eq_iff_iff]; simp)

def rC (B : List UInt8) (p : Nat) (e : Int) : List PV := [.sl 1 (bytePV B), .v (.int .i64 (p : Int)), .v (.int .i64 e)]
def lft {α : Type} (f : Rd α) (d : α) (B : List UInt8) (p : Nat) (e : Int) : α × Nat × Int := if e = 0 then (match f B p with | .error x => (d, p, x) | .ok (v, q) => (v, q, 0)) else (d, p, e)
theorem lft_e {α : Type} (f : Rd α) (d : α) (B : List UInt8) (p : Nat) {e : Int} (h : e ≠ 0) : lft f d B p e = (d, p, e) := by unfold lft; rw [if_neg h]
theorem lft_bad {α : Type} {f : Rd α} (d : α) {B : List UInt8} {p : Nat} {x : Int} (h : f B p = .error x) : lft f d B p 0 = (d, p, x) := by unfold lft; rw [if_pos rfl, h]
theorem lft_ok {α : Type} {f : Rd α} (d : α) {B : List UInt8} {p q : Nat} {v : α} (h : f B p = .ok (v, q)) : lft f d B p 0 = (v, q, 0) := by unfold lft; rw [if_pos rfl, h]
theorem bytePV_l (l : List UInt8) : (bytePV l).length = l.length := by simp [bytePV]
theorem frz3 {K : Nat → Bool} {h : Nat → Option Blkd} {a b c : PV} : Frz K h (.agg [.c a, .c b, .c c]) (.agg [.c a, .c b, .c c]) := .cs h [a, b, c]
theorem stands_told (B : List UInt8) (p : Nat) (e : Int) (hp : p ≤ B.length) : Told Tryz.prog 205 [.agg ((rC B p e).map .c)] (.tup [.agg ((rC B p e).map .c), .c (.v (.bool (decide (e = 0))))]) := by
 have e2 : decide ((p : Int) < 0) = false := by simp
 have e3 : decide ((p : Int) > (B.length : Int)) = false := by simp; omega
 have hbl := bytePV_l B
 unfold rC
 by_cases h : e = 0
 · have e1 : (e == 0) = true := by simpa using h
   rw [decide_eq_true h]
   refine VC.toldP ent_205 Tryz.func205 rfl Tryz.ntmps205 fun hb => ?_
   clear hb
   refine walkBF (And.intro e1 (And.intro e2 (And.intro e3 hbl))) ?_
   refine retX Tryz.results205 ?_
   exact ⟨frz3, .c _⟩
 · have e1 : (e == 0) = false := by simpa using h
   rw [decide_eq_false h]
   refine VC.toldP ent_205 Tryz.func205 rfl Tryz.ntmps205 fun hb => ?_
   clear hb
   refine walkBF (And.intro e1 hbl) ?_
   refine retX Tryz.results205 ?_
   exact ⟨frz3, .c _⟩
theorem wfail_told (B : List UInt8) (p : Nat) (e x : Int) : Told Tryz.prog 165 [.agg ((rC B p e).map .c), .c (.v (.int .i64 x))] (.agg ((rC B p x).map .c)) := by
 unfold rC
 refine VC.toldP ent_165 Tryz.func165 rfl Tryz.ntmps165 fun hb => ?_
 clear hb
 refine walkB ?_
 refine retX Tryz.results165 ?_
 exact frz3
theorem wnext_told (B : List UInt8) (hB : B.length ≤ 1000000) (p : Nat) (hp : p ≤ B.length) (e n : Int) (hn : n ≤ 1000000000) (hn' : -1000000000 ≤ n) : Told Tryz.prog 164 [.agg ((rC B p e).map .c), .c (.v (.int .i64 n))]
  (.tup [.c (.sl 1 (bytePV (lft (rnext n.toNat) [] B p e).1)), .agg ((rC B (lft (rnext n.toNat) [] B p e).2.1 (lft (rnext n.toNat) [] B p e).2.2).map .c)]) := by
 have hS := stands_told B p e hp
 by_cases h : e = 0
 · subst h
   rw [decide_eq_true rfl] at hS
   have hmx : max n 0 = ((n.toNat : Nat) : Int) := by omega
   have hsb : IntKind.i64.wrap ((B.length : Int) - (p : Int)) = ((B.length - p : Nat) : Int) := by rw [wrap64_id (by omega) (by omega)]; omega
   have hbl := bytePV_l B
   have hnl : n.toNat ≤ 1000000000 := by omega
   generalize n.toNat = m at hmx hnl ⊢
   by_cases hm : m ≤ B.length - p
   · rw [lft_ok (v := (B.drop p).take m) (q := p + m) _ (by unfold rnext; rw [if_pos hm])]
     have e1 : decide ((m : Int) > ((B.length - p : Nat) : Int)) = false := by simp; omega
     have hw : IntKind.i64.wrap ((p : Int) + (m : Int)) = ((p + m : Nat) : Int) := by rw [wrap64_id (by omega) (by omega)]; omega
     have hdt : ((bytePV B).take (p + m)).drop p = bytePV ((B.drop p).take m) := by rw [List.drop_take, Nat.add_sub_cancel_left]; simp [bytePV, List.map_drop, List.map_take]
     simp only []
     generalize (B.drop p).take m = l at hdt ⊢
     unfold rC at hS ⊢
     refine VC.toldP ent_164 Tryz.func164 rfl Tryz.ntmps164 fun hb => ?_
     clear hb
     refine walkB ?_
     refine walkC (hS) ?_
     refine walkBF (And.intro hmx (And.intro hsb (And.intro hbl (And.intro e1 (And.intro hw hdt))))) ?_
     refine retX Tryz.results164 ?_
     exact ⟨.c _, frz3⟩
   · rw [lft_bad (x := 10) _ (by unfold rnext; rw [if_neg hm])]
     have hF := wfail_told B p 0 10
     have e1 : decide ((m : Int) > ((B.length - p : Nat) : Int)) = true := by simp; omega
     unfold rC at hS hF ⊢
     refine VC.toldP ent_164 Tryz.func164 rfl Tryz.ntmps164 fun hb => ?_
     clear hb
     refine walkB ?_
     refine walkC (hS) ?_
     refine walkBF (And.intro hmx (And.intro hsb (And.intro hbl e1))) ?_
     refine walkC (hF) ?_
     refine walkB ?_
     refine retX Tryz.results164 ?_
     exact ⟨.nil 1, frz3⟩
 · rw [decide_eq_false h] at hS
   rw [lft_e _ _ _ _ h]
   unfold rC at hS ⊢
   refine VC.toldP ent_164 Tryz.func164 rfl Tryz.ntmps164 fun hb => ?_
   clear hb
   refine walkB ?_
   refine walkC (hS) ?_
   refine walkB ?_
   refine retX Tryz.results164 ?_
   exact ⟨.nil 1, frz3⟩
theorem wnumber_told {g : FuncId} (m l : Nat) (B : List UInt8) (p : Nat) (hp : p ≤ B.length) (e : Int) (hg : Told Tryz.prog g [.c (.sl 1 (bytePV B)), .c (.v (.int .i64 (p : Int)))] (.tup [.c (.v (.int .i64 (varM m l B p).1)), .c (.v (.int .i64 (varM m l B p).2.1)), .c (.v (.int .i64 (varM m l B p).2.2))])) :
  Told Tryz.prog 166 [.agg ((rC B p e).map .c), .fn (.func g) [] []] (.tup [.c (.v (.int .i64 (lft (rvar m l) 0 B p e).1)), .agg ((rC B (lft (rvar m l) 0 B p e).2.1 (lft (rvar m l) 0 B p e).2.2).map .c)]) := by
 have hS := stands_told B p e hp
 by_cases h : e = 0
 · subst h
   rw [decide_eq_true rfl] at hS
   unfold varM at hg
   cases hr : rvar m l B p with
   | error x =>
     rw [hr] at hg
     rw [lft_bad _ hr]
     have hx := (fair_var m l).ers hr
     have e1 : (x != 0) = true := by simpa using hx
     have hF := wfail_told B p 0 x
     unfold rC at hS hF ⊢
     simp only [] at hg
     refine VC.toldP ent_166 Tryz.func166 rfl Tryz.ntmps166 fun hb => ?_
     clear hb
     refine walkB ?_
     refine walkC (hS) ?_
     refine walkB ?_
     refine walkC (hg) ?_
     refine walkBF (e1) ?_
     refine walkC (hF) ?_
     refine walkB ?_
     refine retX Tryz.results166 ?_
     exact ⟨.c _, frz3⟩
   | ok r =>
     rw [hr] at hg
     rw [lft_ok _ hr]
     unfold rC at hS ⊢
     simp only [] at hg
     refine VC.toldP ent_166 Tryz.func166 rfl Tryz.ntmps166 fun hb => ?_
     clear hb
     refine walkB ?_
     refine walkC (hS) ?_
     refine walkB ?_
     refine walkC (hg) ?_
     refine walkB ?_
     refine retX Tryz.results166 ?_
     exact ⟨.c _, frz3⟩
 · rw [decide_eq_false h] at hS
   rw [lft_e _ _ _ _ h]
   unfold rC at hS ⊢
   refine VC.toldP ent_166 Tryz.func166 rfl Tryz.ntmps166 fun hb => ?_
   clear hb
   refine walkB ?_
   refine walkC (hS) ?_
   refine walkB ?_
   refine retX Tryz.results166 ?_
   exact ⟨.c _, frz3⟩
theorem wlong_told (B : List UInt8) (hB : B.length ≤ 1000000) (p : Nat) (hp : p ≤ B.length) (e : Int) : Told Tryz.prog 116 [.agg ((rC B p e).map .c)] (.tup [.c (.v (.int .i64 (lft rlong 0 B p e).1)), .agg ((rC B (lft rlong 0 B p e).2.1 (lft rlong 0 B p e).2.2).map .c)]) := by
 have hN := wnumber_told 10 1 B p hp e (vlong_told B hB p hp)
 unfold rlong
 generalize lft (rvar 10 1) 0 B p e = L at hN ⊢
 unfold rC at hN ⊢
 refine VC.toldP ent_116 Tryz.func116 rfl Tryz.ntmps116 fun hb => ?_
 clear hb
 refine walkG ?_
 refine walkC (hN) ?_
 refine walkG ?_
 refine retX Tryz.results116 ?_
 exact ⟨.c _, frz3⟩
theorem wint_told (B : List UInt8) (hB : B.length ≤ 1000000) (p : Nat) (hp : p ≤ B.length) (e : Int) : Told Tryz.prog 107 [.agg ((rC B p e).map .c)] (.tup [.c (.v (.int .i64 (lft rint 0 B p e).1)), .agg ((rC B (lft rint 0 B p e).2.1 (lft rint 0 B p e).2.2).map .c)]) := by
 have hN := wnumber_told 5 15 B p hp e (vint_told B hB p hp)
 unfold rint
 generalize lft (rvar 5 15) 0 B p e = L at hN ⊢
 unfold rC at hN ⊢
 refine VC.toldP ent_107 Tryz.func107 rfl Tryz.ntmps107 fun hb => ?_
 clear hb
 refine walkG ?_
 refine walkC (hN) ?_
 refine walkG ?_
 refine retX Tryz.results107 ?_
 exact ⟨.c _, frz3⟩
theorem wbool_told (B : List UInt8) (hB : B.length ≤ 1000000) (p : Nat) (hp : p ≤ B.length) (e : Int) : Told Tryz.prog 106 [.agg ((rC B p e).map .c)] (.tup [.c (.v (.int .i64 (lft rbool 0 B p e).1)), .agg ((rC B (lft rbool 0 B p e).2.1 (lft rbool 0 B p e).2.2).map .c)]) := by
 have hN := wnext_told B hB p hp e 1 (by decide) (by decide)
 have hF := wfail_told B p 0 11
 rw [show (1 : Int).toNat = 1 from rfl] at hN
 by_cases h : e = 0
 · subst h
   cases hr : rnext 1 B p with
   | error x =>
     rw [lft_bad _ hr] at hN
     rw [lft_bad (f := rbool) _ (rbind_bad hr)]
     have e1 : (x != 0) = true := by simpa using (fair_next 1).ers hr
     unfold rC at hN ⊢
     refine VC.toldP ent_106 Tryz.func106 rfl Tryz.ntmps106 fun hb => ?_
     clear hb
     refine walkB ?_
     refine walkC (hN) ?_
     refine walkBF (e1) ?_
     refine retX Tryz.results106 ?_
     exact ⟨.c _, frz3⟩
   | ok r =>
     obtain ⟨l, q⟩ := r
     rw [lft_ok _ hr] at hN
     have hl : l.length = 1 := by
      unfold rnext at hr
      split at hr
      · injection hr with hr
        injection hr with h1 h2
        rw [← h1, List.length_take, List.length_drop]
        omega
      · simp at hr
     obtain ⟨c, rfl⟩ := List.length_eq_one_iff.1 hl
     have hub : unbits [c] = c.toNat := by simp [unbits]
     have hc8 := c.toNat_lt
     have hcp : (bytePV [c])[0]? = some [.v (.int .u8 (c.toNat : Int))] := rfl
     have hcl : (bytePV [c]).length = 1 := rfl
     have hcv : IntKind.i64.wrap (c.toNat : Int) = (c.toNat : Int) := wrap64_id (by omega) (by omega)
     by_cases h1 : 1 < c.toNat
     · rw [lft_bad (f := rbool) _ (x := 11) (by unfold rbool; rw [rbind_ok hr, hub, if_pos h1]; rfl)]
       have e1 : decide ((c.toNat : Int) > 1) = true := by simp; omega
       simp only [] at hN
       generalize bytePV [c] = bl at hN hcp hcl
       unfold rC at hN hF ⊢
       refine VC.toldP ent_106 Tryz.func106 rfl Tryz.ntmps106 fun hb => ?_
       clear hb
       refine walkB ?_
       refine walkC (hN) ?_
       refine walkBF (And.intro hcp (And.intro hcl e1)) ?_
       refine walkC (hF) ?_
       refine walkB ?_
       refine retX Tryz.results106 ?_
       exact ⟨.c _, frz3⟩
     · rw [lft_ok (f := rbool) _ (v := (c.toNat : Int)) (q := q) (by unfold rbool; rw [rbind_ok hr, hub, if_neg h1]; rfl)]
       have e1 : decide ((c.toNat : Int) > 1) = false := by simp; omega
       simp only [] at hN
       generalize bytePV [c] = bl at hN hcp hcl
       unfold rC at hN ⊢
       refine VC.toldP ent_106 Tryz.func106 rfl Tryz.ntmps106 fun hb => ?_
       clear hb
       refine walkB ?_
       refine walkC (hN) ?_
       refine walkBF (And.intro hcp (And.intro hcl (And.intro e1 hcv))) ?_
       refine retX Tryz.results106 ?_
       exact ⟨.c _, frz3⟩
 · rw [lft_e _ _ _ _ h] at hN ⊢
   have e1 : (e != 0) = true := by simpa using h
   unfold rC at hN ⊢
   refine VC.toldP ent_106 Tryz.func106 rfl Tryz.ntmps106 fun hb => ?_
   clear hb
   refine walkB ?_
   refine walkC (hN) ?_
   refine walkBF (e1) ?_
   refine retX Tryz.results106 ?_
   exact ⟨.c _, frz3⟩
section

section
variable {P : Program} {ops : Array Oper} {o : Oper} {ℓ : Nat} {t : Nat → AV} {h : Nat → Option Blkd}
theorem AO.stepJw {l : List Oper} {n : Nat} {fs : Foot} {R : (Nat → AV) → (Nat → Option Blkd) → Foot → Prop} {v : AV} {rd : List Nat} {wr : List (Nat × Option Blkd)} (hgd : o.guard = none) (hJ : J P o n t h ⟨v, rd, wr⟩) (H : AO P ops l (n + 8) (putd o.dst v t) (wrs wr h) (fs ++ [(rd, wr.map (·.1))]) R) : AO P ops (o :: l) n t h fs R :=
 ⟨_, JG.plain hgd hJ, H.out⟩
theorem upd_id {α : Type} (f : Nat → α) (k : Nat) : upd f k (f k) = f := by
 funext m
 unfold upd
 split
 · rename_i e
   rw [e]
 · rfl
theorem J_copy (ty : TypeId) (x y : Operand) (T E : TyA) (j n : Nat) (B : Blkd) (es : List (List PV)) (ho : o.op = .call { callee := .builtin .copy, args := #[x, y], argTypes := #[ty, ty] }) (hx : okx t x) (hy : okx t y) (ex : ev t x = .row j n) (ey : ev t y = .c (.sl 1 es))
  (hT : tyA P ty = some T) (hk : T.kind = 1) (hE : tyA P T.elem = some E) (hE1 : E.size = 1) (hB : h j = some B) (hrow : B.row = true) (hn : B.len = n) (hBz : B.z = 1) (hl : es.length = n) :
  J P o ℓ t h ⟨.c (.v (.int .i64 (n : Int))), [j], [(j, some ⟨true, B.T, 1, es.map fun e => e.map .c⟩)]⟩ := by
 intro C used N t1 h1 ro φ a W ht hh hu hd r K Q hK
 obtain ⟨x2, x3⟩ := ev_same ht (x := x) (by simp [ho, Op.operands, Call.operands])
 obtain ⟨y2, y3⟩ := ev_same ht (x := y) (by simp [ho, Op.operands, Call.operands])
 have hrx := ev_rep r x (x3 ▸ hx)
 have hry := ev_rep r y (y3 ▸ hy)
 have hsy := ev_sc r y (y3 ▸ hy)
 rw [x2, ex] at hrx
 rw [y2, ey] at hry hsy
 have hB1 : h1 j = some B := (hh j (by simp)).trans hB
 have hBr := r.hp j B hB1
 obtain ⟨yy, m, c, news, hyv, hml, hyc, hyn, hnl, hne⟩ := more_rep (z := 1) r hry hsy rfl
 have hmo : moreA h1 (.c (.sl 1 es)) = es.map fun e => e.map AV.c := rfl
 rw [hmo] at hml hnl hne
 rw [List.length_map, hl] at hml
 have hz1 : ∀ (i : Nat) (e : List AV), (es.map fun e => e.map AV.c)[i]? = some e → e.length = 1 := fun i e he => (hne e (List.mem_of_getElem? he)).1
 have hnlen : news.length = n := by rw [hnl.1, flatLen hz1, List.length_map, hl, Nat.mul_one]
 obtain ⟨dT, iT, a1, a2, rfl⟩ := tyA_some hT
 obtain ⟨el, rfl⟩ := kind_slice hk
 simp only [descElem] at hE
 obtain ⟨dE, iE, b1, b2, rfl⟩ := tyA_some hE
 have hsz : (P.info? el).map (·.size) = some 1 := by rw [b2]; simpa using hE1
 generalize hvx : a.eval x = vx at hrx
 generalize hvy : a.eval y = vy at hry hyv
 subst hyv
 cases hrx with
 | row _ hrx =>
 obtain rfl := hrx B hB1 hn
 have hlab : ∀ k, (used k ∨ k = j) → (used k ∨ lab ℓ k) := fun k hk => by
  rcases hk with hk | rfl
  · exact .inl hk
  · exact .inl (r.scH _ B hB1).1
 rcases Nat.eq_zero_or_pos n with h0 | h0
 · subst h0
   obtain rfl := List.eq_nil_of_length_eq_zero hl
   have hBe : B.elems = [] := List.eq_nil_of_length_eq_zero hn
   have hBB : (⟨true, B.T, 1, ([] : List (List PV)).map fun e => e.map AV.c⟩ : Blkd) = B := by
    cases B
    simp only [] at hrow hBz hBe
    subst hrow hBz hBe
    rfl
   have hsl : ∃ dp cap, φ j = .slice dp 0 cap := by
    obtain ⟨_, _, vs, _, h4⟩ := hBr
    rw [if_pos hrow, hn] at h4
    obtain ⟨_, h4⟩ := h4
    rcases h4 with ⟨h4, _⟩ | ⟨g, cap, cur, h4, _⟩
    · exact ⟨none, 0, h4⟩
    · exact ⟨_, cap, h4⟩
   obtain ⟨dp, cap, hsl⟩ := hsl
   have hrun := run_copy_none (P := P) W ty ty o.type el dp yy 0 cap m c a1 hsz (by rw [hml]; rfl)
   unfold Oper.wp
   have hex : (execOp a.eval o).run P W = .ok (.value (goInt 0)) W := by
    simp [execOp, ho, resolve, invoke, builtin, hvx, hvy, hsl, hrun, Result.andThen]
   rw [hex]
   refine hK _ _ ro φ ?_
   rw [hBB]
   have : wrs [(j, some B)] h1 = h1 := by
    show upd h1 j (some B) = h1
    rw [← hB1, upd_id]
   rw [this]
   exact (r.put (.c (.v rfl)) .c hd).take fun k hk => .inl hk
 · have he0 : B.elems[0]? = some (B.elems[0]'(by unfold Blkd.len at hn; omega)) := List.getElem?_eq_getElem _
   obtain ⟨b, cur, hb, hcur, _, hr2, hle, hvl⟩ := hBr.mem he0
   obtain ⟨cap, hφ, hcap, hcm, hcs⟩ := hr2 hrow
   rw [hBz, Nat.mul_one] at hle hcs
   obtain ⟨bs, off, rfl, hcells⟩ := hyc (by omega)
   have h1c : ∀ v ∈ news, v.oneCell' = true := hnl.ones fun q hq => by
    obtain ⟨e, he, hq⟩ := List.mem_flatten.1 hq
    exact (hne e he).2.2 q hq
   have hrun := run_copy_row (P := P) W ty ty o.type el b 0 n cap ⟨bs, off, none⟩ m c cur B.T news a1 hsz hcur (by rw [hnlen, hml]; exact (Nat.min_self n).symm) (fun k v hv => by
    rw [addr_add, hcells k (List.getElem?_eq_some_iff.1 hv).1, hv]) (by omega) h1c
   rw [Nat.zero_add, List.take_zero, List.nil_append] at hrun
   generalize hL : news ++ cur.toList.drop news.length = L at hrun
   unfold Oper.wp
   have hex : (execOp a.eval o).run P W = .ok (.value (goInt (n : Int))) (W.setRow b L.toArray) := by
    simp [execOp, ho, resolve, invoke, builtin, hvx, hvy, hφ, hn, hrun, Result.andThen, hnlen]
   rw [hex]
   generalize hW' : W.setRow b L.toArray = W'
   have hheap : W'.heap[b]? = some (.cells L.toArray B.T (0, 0)) := by
    rw [← hW']; exact setRow_heap W b cur _ B.T (0, 0) hcur
   have hsize : L.length = cur.size := by
    rw [← hL]
    simp only [List.length_append, List.length_drop, Array.length_toList]
    omega
   have hnro : ∀ b', ro b' → b' ≠ b := fun b' hb' e => (r.own j B b hB1 hb).1 (e ▸ hb')
   have hwo : ∀ b', ro b' → W'.heap[b']? = W.heap[b']? := fun b' hb' => by rw [← hW']; exact setRow_other W b b' _ (hnro b' hb')
   generalize hB' : (⟨true, B.T, 1, es.map fun e => e.map AV.c⟩ : Blkd) = B' at hK
   have hBl : B'.len = B.len := by rw [← hB', hn]; simp [Blkd.len, hl]
   have hg : Goes used φ (upd φ j (φ j)) h1 (upd h1 j (some B')) := by
    intro k B2 hk hB2
    by_cases hkj : k = j
    · subst hkj
      rw [upd_same] at hB2
      obtain rfl := Option.some.inj hB2
      exact ⟨B, hB1, .inr ⟨hBl.symm, by rw [hBz, ← hB'], upd_same _ _ _⟩⟩
    · rw [upd_ne _ _ hkj] at hB2
      exact ⟨B2, hB2, .inr ⟨rfl, rfl, upd_ne _ _ hkj⟩⟩
   have htake : L.take n = news := by rw [← hL, ← hnlen, List.take_left]
   have hrepl : RepL W ro φ h1 B'.elems.flatten (L.take n) := by rw [htake, ← hB']; exact hnl
   have r2 := r.block (W' := W') (ℓ := j) (B := B') (v := φ j)
    (by rw [← hW']; exact Keeps.setRow W b _ (.inl hb)) (fun b' hb' => .inr ⟨B, hB1, hb'⟩) (.inl ⟨B, hB1, .inr ⟨hBl.symm, by rw [hBz, ← hB'], rfl⟩⟩)
    ⟨fun i' e' he' => ?_, fun e' he' x hx => ?_, _, hrepl.map (fun x hx => ?_) hwo (fun _ h => h) hg, ?_⟩ (fun e' he' x hx => ?_)
   · have r3 := r2.put (d := o.dst) (x := .c (.v (.int .i64 (n : Int)))) (v := goInt (n : Int)) (.c (.v rfl)) .c hd
     rw [show upd φ j (φ j) = φ from upd_id φ j] at r3
     exact hK _ _ ro _ (r3.take hlab)
   · rw [← hB'] at he' ⊢
     exact hz1 i' e' he'
   · rw [← hB'] at he'
     exact (hne e' he').2.2 x hx
   · rw [← hB'] at hx
     obtain ⟨e', he', hx⟩ := List.mem_flatten.1 hx
     exact (hne e' he').2.1 x hx
   · rw [upd_same, if_pos (by rw [← hB'])]
     have hBz' : B'.z = 1 := by rw [← hB']
     have hBT' : B'.T = B.T := by rw [← hB']
     refine ⟨?_, .inr ⟨b, cap, _, ?_, Nat.zero_le _, by rw [hBT']; exact hheap, ?_, hcm, ?_, ?_⟩⟩
     · rw [List.length_take, hsize, hBl, hn, hBz']
       omega
     · rw [hBl]; exact hφ
     · rw [hBl]; exact hcap
     · rw [hBz', Nat.mul_one]; simpa using hsize.trans hcs
     · rw [hBl, hn, hBz', Nat.mul_one]
   · rw [← hB'] at he'
     have := (hne e' he').2.1 x hx
     exact this.map (fun k hk => .inl hk) fun k B2 hk hB2 => by
      obtain ⟨B0, h5, h6⟩ := hg k B2 hk hB2
      exact ⟨B0, h5, by rcases h6 with h6 | h6 <;> omega⟩
theorem J_buildC (ty : TypeId) (vs : List Value) (T E : TyA) (ho : o.op = .buildSlice ty 1 #[(0, .const (.agg vs.toArray))]) (hT : tyA P ty = some T) (hk : T.kind = 1) (hE : tyA P T.elem = some E)
  (hz : E.zero.length = E.size) (h0 : 0 < E.size) (hone : E.zero.all (·.oneCell') = true) (hlen : E.size ≤ 16777216) (hvl : vs.length = E.size) (hvo : vs.all (·.oneCell') = true) :
  J P o ℓ t h ⟨.row ℓ 1, [], [(ℓ, some ⟨true, T.elem, E.size, [vs.map fun v => .c (.v v)]⟩)]⟩ := by
 have key := J.rowNew (P := P) (o := o) (ℓ := ℓ) (t := t) (h := h) (elems := [vs.map fun v => AV.c (.v v)]) (T := T.elem) (z := E.size) (rd := [])
  (fun i e he => by
   have := List.mem_of_getElem? he
   simp at this
   rw [this]
   simp [hvl])
  (fun e he x hx => by
   simp at he
   rw [he] at hx
   exact cellish_zero _ x hx) (by simp) (fun C used N t1 h1 ro φ a W ht hh r => by
  obtain ⟨d, i, h2, h3, rfl⟩ := tyA_some hT
  obtain ⟨e, rfl⟩ := kind_slice hk
  simp only [descElem] at hE ⊢
  obtain ⟨de, ie, h4, h5, rfl⟩ := tyA_some hE
  simp only [] at hz h0 hone hlen hvl
  obtain ⟨z, h6, h7⟩ := zero_of (i := ie) (by intro e0; rw [e0] at hz; simp at hz; omega)
  rw [h7] at hz hone
  have hsz : z.cells.size = ie.size := by simpa using hz
  have hz0 : RepL W ro φ h1 (List.replicate 1 (z.cells.toList.map fun v => AV.c (.v v))).flatten ((Array.range (1 * ie.size)).map (z.cells[· % z.cells.size]!)).toList := by
   rw [← hsz, zeros_flat]
   have := prim_cells (h := h1) (W := W) (ro := ro) (φ := φ) (l := (List.replicate 1 z.cells.toList).flatten) (by
    rw [List.all_eq_true]
    intro x hx
    obtain ⟨e', he', hx⟩ := List.mem_flatten.1 hx
    rw [(List.mem_replicate.1 he').2] at hx
    exact List.all_eq_true.1 hone x hx)
   rwa [List.map_flatten, List.map_replicate] at this
  have hag : Rep W ro φ h1 (.agg (vs.map fun v => AV.c (.v v))) (.agg vs.toArray) := by
   have := prim_cells (h := h1) (W := W) (ro := ro) (φ := φ) (l := vs) hvo
   exact .agg this.1 this.2
  have hcz : (z.cells.toList.map fun v => AV.c (.v v)).length = ie.size := by simp [hsz]
  have hca : cellsA (.agg (vs.map fun v => AV.c (.v v))) = vs.map fun v => AV.c (.v v) := rfl
  obtain ⟨c, h8, h9⟩ := fill_run (h := h1) (W := W) (ro := ro) (φ := φ) (fun i => some (i * ie.size, ie.size)) (fun i => i * ie.size) [(0, .agg (vs.map fun v => AV.c (.v v)))] [(0, .agg vs.toArray)] _ _ hz0 rfl
   (fun j p v hj hj' => by
    match j with
    | 0 =>
      obtain rfl := Option.some.inj hj
      obtain rfl := Option.some.inj hj'
      exact hag
    | j + 1 => simp at hj)
   (fun p hpm => by
    simp at hpm
    subst hpm
    refine ⟨fun c hc => ?_, ?_, ?_⟩
    · rw [hca] at hc
      exact cellish_zero _ c hc
    · rw [hca, List.length_map, hvl]
    · rw [hca, List.length_map, hvl]
      simp [hsz])
  refine ⟨c.toList, ?_, ?_, fun e' he' x hx' => ?_⟩
  · have := run_buildSlice (P := P) W ty e 1 #[(0, .agg vs.toArray)] c ie z h2 h5 h6 (by omega) (by omega) (by simpa using h8)
    have hev : a.eval (.const (.agg vs.toArray)) = .agg vs.toArray := rfl
    simp [execOp, ho, hev, this]
  · have hfa : fillA (fun i => i * ie.size) (List.replicate 1 (z.cells.toList.map fun v => AV.c (.v v))).flatten [(0, .agg (vs.map fun v => AV.c (.v v)))] = [vs.map fun v => AV.c (.v v)].flatten := by
     simp only [fillA, List.foldl_cons, List.foldl_nil, putSeg, hca, Nat.zero_mul, List.take_zero, List.nil_append, Nat.zero_add, List.replicate_succ, List.replicate_zero, List.flatten_cons, List.flatten_nil, List.append_nil, List.length_map]
     rw [List.drop_of_length_le (by rw [hcz, hvl]; exact Nat.le_refl _), List.append_nil]
    rw [← hfa]
    exact h9
  · simp at he'
    rw [he'] at hx'
    obtain ⟨v, _, rfl⟩ := List.mem_map.1 hx'
    exact .c)
 exact key
end
end

def rA {α : Type} (f : α → List PV) (l : List α) : List (List AV) := l.map fun x => (f x).map .c
theorem rA_len {α : Type} (f : α → List PV) (l : List α) : (rA f l).length = l.length := by simp [rA]
theorem rA_nil {α : Type} (f : α → List PV) : rA f [] = [] := rfl
theorem rA_at {α : Type} {f : α → List PV} {l : List α} {i : Nat} {x : α} (h : l[i]? = some x) : (rA f l)[i]? = some ((f x).map .c) := by simp [rA, h]
theorem rA_set {α : Type} {f : α → List PV} (l : List α) (i : Nat) (x : α) : (rA f l).set i ((f x).map .c) = rA f (l.set i x) := by simp [rA, List.map_set]
theorem rA_one {α : Type} (f : α → List PV) (l : List α) (x : α) : rA f l ++ [(f x).map .c] = rA f (l ++ [x]) := by simp [rA]
theorem rA_pv {α : Type} (f : α → List PV) (l : List α) : rA f l = (l.map f).map fun e => e.map AV.c := by simp [rA]
theorem renL_pv (ρ : Nat → Nat) : ∀ l : List PV, AV.renL ρ (l.map .c) = l.map .c
 | [] => rfl
 | x :: l => by rw [List.map_cons, AV.renL, renL_pv ρ l]; rfl
theorem rA_ren {α : Type} (ρ : Nat → Nat) (f : α → List PV) (l : List α) : (rA f l).map (AV.renL ρ) = rA f l := by
 unfold rA
 rw [List.map_map]
 apply List.map_congr_left
 intro x _
 exact renL_pv ρ _
theorem rA_sc {α : Type} {used : Nat → Prop} {h : Nat → Option Blkd} (f : α → List PV) (l : List α) : (∀ e ∈ rA f l, ∀ x ∈ e, Sc used h x) = True := eq_true fun e he x hx => by
 obtain ⟨b, _, rfl⟩ := List.mem_map.1 he
 obtain ⟨p, _, rfl⟩ := List.mem_map.1 hx
 exact .c
theorem frz_rA {α : Type} {K : Nat → Bool} {h : Nat → Option Blkd} {j n : Nat} {T : TypeId} {z : Nat} {f : α → List PV} {l : List α} (hB : h j = some ⟨true, T, z, rA f l⟩) (hn : l.length = n) (hk : K j = false) (hz : ∀ x ∈ l, (f x).length = z) :
  Frz K h (.row j n) (.c (.sl z (l.map f))) := by
 refine Frz.row (B := ⟨true, T, z, rA f l⟩) hB rfl ?_ hk ?_ ?_ ?_
 · show (rA f l).length = n
   rw [rA_len, hn]
 · simp [rA_len]
 · intro i e e' h1 h2
   rw [rA_pv, List.getElem?_map, h2] at h1
   obtain rfl := Option.some.inj h1
   simp
 · intro i k e e' x p h1 h2 h3 h4
   rw [rA_pv, List.getElem?_map, h2] at h1
   obtain rfl := Option.some.inj h1
   rw [List.getElem?_map, h4] at h3
   obtain rfl := Option.some.inj h3
   exact .c p

theorem unbits_lt' : ∀ l : List UInt8, unbits l < 256 ^ l.length
 | [] => by simp [unbits]
 | c :: cs => by
   have := unbits_lt' cs
   have := c.toNat_lt
   rw [unbits, List.length_cons, Nat.pow_succ]
   omega
theorem next_len {n : Nat} {B l : List UInt8} {p q : Nat} (h : rnext n B p = .ok (l, q)) : l.length = n := by
 unfold rnext at h
 split at h
 · injection h with h; injection h with h1 h2
   rw [← h1, List.length_take, List.length_drop]
   omega
 · simp at h
theorem wbits_told (B : List UInt8) (hB : B.length ≤ 1000000) (p : Nat) (hp : p ≤ B.length) (e : Int) (k : Nat) (hk : k ≤ 8) : Told Tryz.prog 110 [.agg ((rC B p e).map .c), .c (.v (.int .i64 (k : Int)))] (.tup [.c (.v (.int .u64 (lft (rbits k) 0 B p e).1)), .agg ((rC B (lft (rbits k) 0 B p e).2.1 (lft (rbits k) 0 B p e).2.2).map .c)]) := by
 have hN := wnext_told B hB p hp e (k : Int) (by omega) (by omega)
 rw [Int.toNat_natCast] at hN
 obtain ⟨l, q, e', hL, hlk, hR⟩ : ∃ l q e', lft (rnext k) [] B p e = (l, q, e') ∧ l.length ≤ 8 ∧ lft (rbits k) 0 B p e = (((unbits l : Nat) : Int), q, e') := by
  by_cases h : e = 0
  · subst h
    cases hr : rnext k B p with
    | error x => exact ⟨[], p, x, lft_bad _ hr, by simp, lft_bad _ (rbind_bad hr)⟩
    | ok r => exact ⟨r.1, r.2, 0, lft_ok _ hr, by have := next_len (l := r.1) (q := r.2) hr; omega, lft_ok _ (by unfold rbits; rw [rbind_ok (x := r.1) (q := r.2) hr]; rfl)⟩
  · exact ⟨[], p, e, lft_e _ _ _ _ h, by simp, lft_e _ _ _ _ h⟩
 rw [hL] at hN
 rw [hR]
 simp only [] at hN ⊢
 have hmin : min (k : Int) 8 = (k : Int) := by omega
 have hbl := bytePV_l l
 unfold rC at hN ⊢
 refine VC.toldP ent_110 Tryz.func110 rfl Tryz.ntmps110 fun hb => ?_
 clear hb
 refine walkGF (hmin) ?_
 refine walkC (hN) ?_
 refine walkGF (hbl) ?_
 refine VC.loop (ι := {i : Nat // i ≤ l.length}) (fun i => [(5, .ref 16 1 0 0), (7, .ref 80 1 0 0), (8, .c (.v (.int .u64 ((unbits (l.take i.1) : Nat) : Int)))), (18, .c (.sl 1 (bytePV l))), (19, .c (.v (.int .i64 (l.length : Int)))), (20, .c (.v (.int .i64 (i.1 : Int))))])
  (fun i => [(16, ⟨false, 101, 3, [[.c (.v (.slice none 0 0)), .c (.v (.int .i64 0)), .c (.v (.int .i64 0))]]⟩), (80, ⟨false, 101, 3, [[.c (.sl 1 (bytePV B)), .c (.v (.int .i64 (q : Int))), .c (.v (.int .i64 e'))]]⟩)]) 800 (fun i => l.length - i.1) ⟨0, Nat.zero_le _⟩ ?_ ?_
 · refine weakXF (hbl) ?_
   simp [unbits]
 rintro ⟨i, hi⟩
 simp only [] at hi ⊢
 refine walkGF (hbl) ?_
 refine VC.cond (by rfl) (by trivial) (fun hc => ?_) (fun hc => ?_)
 · have hlt : i < l.length := by simp at hc; omega
   obtain ⟨c, hcx⟩ : ∃ c, l[i]? = some c := ⟨l[i], List.getElem?_eq_getElem hlt⟩
   have hcp : (bytePV l)[i]? = some [.v (.int .u8 (c.toNat : Int))] := by unfold bytePV; rw [List.getElem?_map, hcx]; rfl
   have hw1 : IntKind.i64.wrap ((i : Int) + 1) = ((i + 1 : Nat) : Int) := by rw [wrap64_id (by omega) (by omega)]; omega
   have hw8 : IntKind.i64.wrap (8 * (i : Int)) = ((8 * i : Nat) : Int) := by rw [wrap64_id (by omega) (by omega)]; omega
   have hwu : IntKind.u64.wrap ((8 * i : Nat) : Int) = ((8 * i : Nat) : Int) := by rw [IntKind.wrap_u64]; omega
   have hc8 := c.toNat_lt
   have hwc : IntKind.u64.wrap (c.toNat : Int) = (c.toNat : Int) := by rw [IntKind.wrap_u64]; omega
   have ht : l.take (i + 1) = l.take i ++ [c] := by rw [List.take_add_one, hcx]; rfl
   have hlen : (l.take i).length = i := by rw [List.length_take]; omega
   have hu : unbits (l.take (i + 1)) = unbits (l.take i) + c.toNat * 2 ^ (8 * i) := by rw [ht, unbits_snoc, hlen, Nat.pow_mul]
   have hu1 : unbits (l.take i) < 2 ^ (8 * i) := by
    have := unbits_lt' (l.take i)
    rw [hlen] at this
    rw [Nat.pow_mul]
    exact this
   have hu2 : unbits (l.take (i + 1)) < 18446744073709551616 := by
    have h1 := unbits_lt' (l.take (i + 1))
    refine Nat.lt_of_lt_of_le h1 ?_
    rw [show (18446744073709551616 : Nat) = 256 ^ 8 from rfl]
    exact Nat.pow_le_pow_right (by decide) (by rw [List.length_take]; omega)
   rw [hu] at hu2
   have hmn : min (8 * i) 64 = 8 * i := by omega
   have hsh : IntKind.u64.wrap ((c.toNat : Int) * 2 ^ (8 * i)) = ((c.toNat * 2 ^ (8 * i) : Nat) : Int) := by
    rw [IntKind.wrap_u64, show (c.toNat : Int) * 2 ^ (8 * i) = ((c.toNat * 2 ^ (8 * i) : Nat) : Int) from by simp]
    omega
   have ho : IntKind.u64.wrap ((BitVec.ofInt IntKind.u64.bits ((unbits (l.take i) : Nat) : Int) ||| BitVec.ofInt IntKind.u64.bits ((c.toNat * 2 ^ (8 * i) : Nat) : Int)).toNat : Int) = ((unbits (l.take (i + 1)) : Nat) : Int) := by
    rw [hu]
    exact or_shift hu1 hu2
   clear hu hu1 hu2 ht hlen
   generalize unbits (l.take i) = u at ho
   generalize hU : unbits (l.take (i + 1)) = U at ho
   generalize 8 * i = s8 at hw8 hwu hmn hsh ho
   have hs8 : ((s8 : Int)).toNat = s8 := Int.toNat_natCast _
   generalize hX : c.toNat * 2 ^ s8 = X at hsh ho
   clear hX
   (try simp only [go_sem, Int.reduceBEq, Int.reduceLE, Int.reduceLT, Int.reduceNeg, Nat.reduceAdd, Nat.reduceEqDiff, Nat.reduceLT, Nat.reduceLeDiff, Nat.reduceMul, Nat.reduceSub, reduceCtorEq, ↓reduceIte] at ho)
   refine walkGF (And.intro hbl (And.intro hcp (And.intro hw1 (And.intro hw8 (And.intro hwu (And.intro hwc (And.intro hmn (And.intro hsh ho)))))))) ?_
   refine .next ⟨i + 1, hlt⟩ ?_ (by simp only []; omega)
   refine weakXF (hbl) ?_
   rw [hU]
 · have hge : i = l.length := by simp at hc; omega
   subst hge
   rw [List.take_length]
   refine walkG ?_
   refine retX Tryz.results110 ?_
   exact ⟨.c _, frz3⟩
theorem wfixed_told (B : List UInt8) (hB : B.length ≤ 1000000) (p : Nat) (hp : p ≤ B.length) (e n : Int) (hn : n ≤ 1000000000) (hn' : -1000000000 ≤ n) : Told Tryz.prog 113 [.agg ((rC B p e).map .c), .c (.v (.int .i64 n))]
  (.tup [.c (.sl 1 (bytePV (lft (rnext n.toNat) [] B p e).1)), .agg ((rC B (lft (rnext n.toNat) [] B p e).2.1 (lft (rnext n.toNat) [] B p e).2.2).map .c)]) := by
 have hN := wnext_told B hB p hp e n hn hn'
 have hlen : (lft (rnext n.toNat) [] B p e).1.length ≤ 1000000000 := by
  by_cases h : e = 0
  · subst h
    cases hr : rnext n.toNat B p with
    | error x => rw [lft_bad _ hr]; simp
    | ok r => rw [lft_ok (v := r.1) (q := r.2) _ hr]; have := next_len (l := r.1) (q := r.2) hr; simp only []; omega
  · rw [lft_e _ _ _ _ h]; simp
 generalize lft (rnext n.toNat) [] B p e = L at hN hlen ⊢
 obtain ⟨l, q, e'⟩ := L
 simp only [] at hN hlen ⊢
 have hbl := bytePV_l l
 unfold rC at hN ⊢
 refine VC.toldP ent_113 Tryz.func113 rfl Tryz.ntmps113 fun hb => ?_
 clear hb
 refine walkG ?_
 refine walkC (hN) ?_
 refine walkGF (hbl) ?_
 refine AO.stepJw rfl (J_copy _ _ _ _ _ 112 l.length _ (bytePV l) rfl (by trivial) (by trivial) rfl rfl tyA_40 rfl tyA_5 rfl rfl rfl (by simp [Blkd.len]) rfl hbl) ?_
 refine walkG ?_
 refine retX Tryz.results113 ?_
 exact ⟨frz_rA (f := fun b : UInt8 => [PV.v (.int .u8 (b.toNat : Int))]) (l := l) (T := 5) (by show some _ = some _; rw [← bA_pv]; rfl) rfl rfl (by simp), frz3⟩
theorem wbytes_told (B : List UInt8) (hB : B.length ≤ 1000000) (p : Nat) (hp : p ≤ B.length) (e : Int) : Told Tryz.prog 111 [.agg ((rC B p e).map .c)]
  (.tup [.c (.sl 1 (bytePV (lft rbytes [] B p e).1)), .agg ((rC B (lft rbytes [] B p e).2.1 (lft rbytes [] B p e).2.2).map .c)]) := by
 have hN := wlong_told B hB p hp e
 by_cases h : e = 0
 · subst h
   cases hr : rlong B p with
   | error x =>
     rw [lft_bad _ hr] at hN
     rw [lft_bad (f := rbytes) _ (rbind_bad hr)]
     have e1 : (x != 0) = true := by simpa using fair_long.ers hr
     unfold rC at hN ⊢
     refine VC.toldP ent_111 Tryz.func111 rfl Tryz.ntmps111 fun hb => ?_
     clear hb
     refine walkB ?_
     refine walkC (hN) ?_
     refine walkBF (e1) ?_
     refine retX Tryz.results111 ?_
     exact ⟨.nil 1, frz3⟩
   | ok r =>
     obtain ⟨n, q⟩ := r
     rw [lft_ok _ hr] at hN
     have hq := (fair_long.fwd hp hr).2
     simp only [] at hN
     by_cases h1 : n < 0
     · rw [lft_bad (f := rbytes) _ (x := 11) (by unfold rbytes; rw [rbind_ok hr, if_pos h1]; rfl)]
       have e1 : decide (n < 0) = true := by simpa using h1
       have hF := wfail_told B p 0 11
       unfold rC at hN hF ⊢
       refine VC.toldP ent_111 Tryz.func111 rfl Tryz.ntmps111 fun hb => ?_
       clear hb
       refine walkB ?_
       refine walkC (hN) ?_
       refine walkBF (e1) ?_
       refine walkC (hF) ?_
       refine walkB ?_
       refine retX Tryz.results111 ?_
       exact ⟨.nil 1, frz3⟩
     have e1 : decide (n < 0) = false := by simpa using h1
     by_cases h2 : 20000 < n
     · rw [lft_bad (f := rbytes) _ (x := 15) (by unfold rbytes; rw [rbind_ok hr, if_neg h1, if_pos h2]; rfl)]
       have e2 : decide (n > 20000) = true := by simpa using h2
       have hF := wfail_told B p 0 15
       unfold rC at hN hF ⊢
       refine VC.toldP ent_111 Tryz.func111 rfl Tryz.ntmps111 fun hb => ?_
       clear hb
       refine walkB ?_
       refine walkC (hN) ?_
       refine walkBF (And.intro e1 e2) ?_
       refine walkC (hF) ?_
       refine walkB ?_
       refine retX Tryz.results111 ?_
       exact ⟨.nil 1, frz3⟩
     have e2 : decide (n > 20000) = false := by simpa using h2
     have hX := wfixed_told B hB q hq 0 n (by omega) (by omega)
     have hwn : IntKind.i64.wrap n = n := wrap64_id (by omega) (by omega)
     cases hx : rnext n.toNat B q with
     | error x =>
       rw [lft_bad (f := rbytes) _ (x := x) (by unfold rbytes; rw [rbind_ok hr, if_neg h1, if_neg h2, hx])]
       rw [lft_bad _ hx] at hX
       have e3 : (x != 0) = true := by simpa using (fair_next _).ers hx
       have hF := wfail_told B p 0 x
       unfold rC at hN hF hX ⊢
       refine VC.toldP ent_111 Tryz.func111 rfl Tryz.ntmps111 fun hb => ?_
       clear hb
       refine walkB ?_
       refine walkC (hN) ?_
       refine walkBF (And.intro e1 e2) ?_
       refine walkC (hX) ?_
       refine walkBF (e3) ?_
       refine walkC (hF) ?_
       refine walkB ?_
       refine retX Tryz.results111 ?_
       exact ⟨.nil 1, frz3⟩
     | ok r2 =>
       obtain ⟨l, q2⟩ := r2
       rw [lft_ok (f := rbytes) _ (v := l) (q := q2) (by unfold rbytes; rw [rbind_ok hr, if_neg h1, if_neg h2, hx])]
       rw [lft_ok _ hx] at hX
       simp only [] at hX
       unfold rC at hN hX ⊢
       refine VC.toldP ent_111 Tryz.func111 rfl Tryz.ntmps111 fun hb => ?_
       clear hb
       refine walkB ?_
       refine walkC (hN) ?_
       refine walkBF (And.intro e1 e2) ?_
       refine walkC (hX) ?_
       refine walkB ?_
       refine retX Tryz.results111 ?_
       exact ⟨.c _, frz3⟩
 · rw [lft_e _ _ _ _ h] at hN ⊢
   have e1 : (e != 0) = true := by simpa using h
   unfold rC at hN ⊢
   refine VC.toldP ent_111 Tryz.func111 rfl Tryz.ntmps111 fun hb => ?_
   clear hb
   refine walkB ?_
   refine walkC (hN) ?_
   refine walkBF (e1) ?_
   refine retX Tryz.results111 ?_
   exact ⟨.nil 1, frz3⟩
theorem bytes_len {B l : List UInt8} {p q : Nat} (h : rbytes B p = .ok (l, q)) : l.length ≤ 20000 := by
 obtain ⟨n, r, h1, h2⟩ := rbind_inv h
 split at h2
 · unfold rbad at h2
   simp at h2
 split at h2
 · unfold rbad at h2
   simp at h2
 · have := next_len h2
   omega
theorem wtext_told (B : List UInt8) (hB : B.length ≤ 1000000) (p : Nat) (hp : p ≤ B.length) (e : Int) : Told Tryz.prog 112 [.agg ((rC B p e).map .c)]
  (.tup [.c (.sl 1 (bytePV (lft rtext [] B p e).1)), .agg ((rC B (lft rtext [] B p e).2.1 (lft rtext [] B p e).2.2).map .c)]) := by
 have hN := wbytes_told B hB p hp e
 by_cases h : e = 0
 · subst h
   cases hr : rbytes B p with
   | error x =>
     rw [lft_bad _ hr] at hN
     rw [lft_bad (f := rtext) _ (rbind_bad hr)]
     have e1 : (x == 0) = false := by simpa using fair_bytes.ers hr
     unfold rC at hN ⊢
     refine VC.toldP ent_112 Tryz.func112 rfl Tryz.ntmps112 fun hb => ?_
     clear hb
     refine walkB ?_
     refine walkC (hN) ?_
     refine walkBF (e1) ?_
     refine retX Tryz.results112 ?_
     exact ⟨.c _, frz3⟩
   | ok r =>
     obtain ⟨l, q⟩ := r
     rw [lft_ok _ hr] at hN
     have hl := bytes_len hr
     have hU := uright_told l (by omega)
     simp only [] at hN
     cases hi : isRight l with
     | true =>
       rw [lft_ok (f := rtext) _ (v := l) (q := q) (by unfold rtext; rw [rbind_ok hr, if_pos hi]; rfl)]
       rw [hi] at hU
       unfold rC at hN ⊢
       refine VC.toldP ent_112 Tryz.func112 rfl Tryz.ntmps112 fun hb => ?_
       clear hb
       refine walkB ?_
       refine walkC (hN) ?_
       refine walkB ?_
       refine walkC (hU) ?_
       refine walkB ?_
       refine retX Tryz.results112 ?_
       exact ⟨.c _, frz3⟩
     | false =>
       rw [lft_bad (f := rtext) _ (x := 11) (by unfold rtext; rw [rbind_ok hr, if_neg (by rw [hi]; decide)]; rfl)]
       rw [hi] at hU
       have hF := wfail_told B p 0 11
       unfold rC at hN hF ⊢
       refine VC.toldP ent_112 Tryz.func112 rfl Tryz.ntmps112 fun hb => ?_
       clear hb
       refine walkB ?_
       refine walkC (hN) ?_
       refine walkB ?_
       refine walkC (hU) ?_
       refine walkB ?_
       refine walkC (hF) ?_
       refine walkB ?_
       refine retX Tryz.results112 ?_
       exact ⟨.nil 1, frz3⟩
 · rw [lft_e _ _ _ _ h] at hN ⊢
   have e1 : (e == 0) = false := by simpa using h
   unfold rC at hN ⊢
   refine VC.toldP ent_112 Tryz.func112 rfl Tryz.ntmps112 fun hb => ?_
   clear hb
   refine walkB ?_
   refine walkC (hN) ?_
   refine walkBF (e1) ?_
   refine retX Tryz.results112 ?_
   exact ⟨.c _, frz3⟩

def dB (ns : List NT) (r : Int) (B : List UInt8) (p : Nat) (e : Int) : Blkd := ⟨false, 106, 5, [[.c (.sl 10 (ns.map NT.cells)), .c (.v (.int .i64 r)), .c (.sl 1 (bytePV B)), .c (.v (.int .i64 (p : Int))), .c (.v (.int .i64 e))]]⟩
structure Got {α : Type} (R : Except Int (α × Nat)) (B : List UInt8) (e : Int) (v : α) (q : Nat) (e' : Int) : Prop where
 le : q ≤ B.length
 no : e ≠ 0 → e' = e
 bad : ∀ x, e = 0 → R = .error x → e' = x
 ok : ∀ w q', e = 0 → R = .ok (w, q') → v = w ∧ q = q' ∧ e' = 0
theorem got_lft {α : Type} {f : Rd α} (hf : Fair f) (d : α) {B : List UInt8} {p : Nat} (hp : p ≤ B.length) (e : Int) : Got (f B p) B e (lft f d B p e).1 (lft f d B p e).2.1 (lft f d B p e).2.2 := by
 by_cases h : e = 0
 · subst h
   cases hr : f B p with
   | error x =>
     rw [lft_bad _ hr]
     exact ⟨hp, fun h => absurd rfl h, fun y _ hy => by injection hy, fun w q' _ hy => by simp at hy⟩
   | ok r =>
     rw [lft_ok _ hr]
     refine ⟨(hf.fwd hp hr).2, fun h => absurd rfl h, fun y _ hy => by simp at hy, fun w q' _ hy => ?_⟩
     injection hy with hy
     rw [hy]
     exact ⟨rfl, rfl, rfl⟩
 · rw [lft_e _ _ _ _ h]
   exact ⟨hp, fun _ => rfl, fun y h0 => absurd h0 h, fun w q' h0 => absurd h0 h⟩
theorem lft_zero {α : Type} {f : Rd α} (d : α) {B : List UInt8} {p : Nat} {e : Int} (h : (lft f d B p e).2.2 ≠ 0) : (lft f d B p e).1 = d := by
 by_cases h0 : e = 0
 · subst h0
   cases hr : f B p with
   | error x => rw [lft_bad _ hr]
   | ok r => rw [lft_ok _ hr] at h; exact absurd rfl h
 · rw [lft_e _ _ _ _ h0]
theorem dfail_told (ns : List NT) (r : Int) (B : List UInt8) (p : Nat) (e x : Int) : ToldM Tryz.prog 119 [.ref 1000000 1 0 0, .c (.v (.int .i64 x))] [dB ns r B p e] [some (dB ns r B p (if e = 0 then x else e))] (.tup []) := by
 unfold dB
 by_cases h : e = 0
 · rw [if_pos h]
   have e1 : (e == 0) = true := by simpa using h
   refine VC.toldX ent_119 [] Tryz.func119 rfl Tryz.ntmps119 fun hb hbL => ?_
   clear hb hbL
   refine walkBF (e1) ?_
   exact retZ Tryz.results119
 · rw [if_neg h]
   have e1 : (e == 0) = false := by simpa using h
   refine VC.toldX ent_119 [] Tryz.func119 rfl Tryz.ntmps119 fun hb hbL => ?_
   clear hb hbL
   refine walkBF (e1) ?_
   exact retZ Tryz.results119
theorem dnumber_told {g : FuncId} (ns : List NT) (r : Int) (B : List UInt8) (p q : Nat) (e e' n : Int) (hg : Told Tryz.prog g [.agg ((rC B p e).map .c)] (.tup [.c (.v (.int .i64 n)), .agg ((rC B q e').map .c)])) :
  ToldM Tryz.prog 115 [.ref 1000000 1 0 0, .fn (.func g) [] []] [dB ns r B p e] [some (dB ns r B q e')] (.c (.v (.int .i64 n))) := by
 unfold dB
 unfold rC at hg
 refine VC.toldX ent_115 [] Tryz.func115 rfl Tryz.ntmps115 fun hb hbL => ?_
 clear hb hbL
 refine walkG ?_
 refine walkC (hg) ?_
 refine walkG ?_
 refine retX Tryz.results115 ?_
 exact .c _
theorem dtext_told {g : FuncId} (ns : List NT) (r : Int) (B : List UInt8) (p q : Nat) (e e' : Int) (l : List UInt8) (hg : Told Tryz.prog g [.agg ((rC B p e).map .c)] (.tup [.c (.sl 1 (bytePV l)), .agg ((rC B q e').map .c)])) :
  ToldM Tryz.prog 117 [.ref 1000000 1 0 0, .fn (.func g) [] []] [dB ns r B p e] [some (dB ns r B q e')] (.c (.sl 1 (bytePV l))) := by
 unfold dB
 unfold rC at hg
 refine VC.toldX ent_117 [] Tryz.func117 rfl Tryz.ntmps117 fun hb hbL => ?_
 clear hb hbL
 refine walkG ?_
 refine walkC (hg) ?_
 refine walkG ?_
 refine retX Tryz.results117 ?_
 exact .c _
theorem dplace_any {g : FuncId} (ns : List NT) (r : Int) (B : List UInt8) (p q : Nat) (e e' n : Int) (many : Nat) (hN : ToldM Tryz.prog 115 [.ref 1000000 1 0 0, .fn (.func g) [] []] [dB ns r B p e] [some (dB ns r B q e')] (.c (.v (.int .i64 n)))) :
  ToldM Tryz.prog 118 [.ref 1000000 1 0 0, .fn (.func g) [] [], .c (.v (.int .i64 (many : Int)))] [dB ns r B p e] [some (dB ns r B q (if n < 0 ∨ (many : Int) ≤ n then (if e' = 0 then 11 else e') else e'))] (.c (.v (.int .i64 (if n < 0 ∨ (many : Int) ≤ n then 0 else n)))) := by
 have hF := dfail_told ns r B q e' 11
 generalize hE : (if e' = 0 then (11 : Int) else e') = E at hF
 unfold dB at *
 by_cases h1 : n < 0
 · rw [if_pos (.inl h1), if_pos (.inl h1)]
   have e1 : decide (n < 0) = true := by simpa using h1
   refine VC.toldX ent_118 [] Tryz.func118 rfl Tryz.ntmps118 fun hb hbL => ?_
   clear hb hbL
   refine walkG ?_
   refine walkL [1000000] (hN) ?_
   refine walkBF (e1) ?_
   refine walkL [1000000] (hF) ?_
   refine walkB ?_
   refine retX Tryz.results118 ?_
   exact .c _
 have e1 : decide (n < 0) = false := by simpa using h1
 by_cases h2 : (many : Int) ≤ n
 · rw [if_pos (.inr h2), if_pos (.inr h2)]
   have e2 : decide (n ≥ (many : Int)) = true := by simpa using h2
   refine VC.toldX ent_118 [] Tryz.func118 rfl Tryz.ntmps118 fun hb hbL => ?_
   clear hb hbL
   refine walkG ?_
   refine walkL [1000000] (hN) ?_
   refine walkBF (And.intro e1 e2) ?_
   refine walkL [1000000] (hF) ?_
   refine walkB ?_
   refine retX Tryz.results118 ?_
   exact .c _
 · rw [if_neg (by omega), if_neg (by omega)]
   have e2 : decide (n ≥ (many : Int)) = false := by simpa using h2
   refine VC.toldX ent_118 [] Tryz.func118 rfl Tryz.ntmps118 fun hb hbL => ?_
   clear hb hbL
   refine walkG ?_
   refine walkL [1000000] (hN) ?_
   refine walkBF (And.intro e1 e2) ?_
   refine retX Tryz.results118 ?_
   exact .c _
theorem dcount_told (ns : List NT) (r : Int) (B : List UInt8) (hB : B.length ≤ 1000000) (p : Nat) (hp : p ≤ B.length) (e : Int) (k : Nat) (hk : k ≤ 300) : ∃ (m q : Nat) (e' : Int), Got (rcount k B p) B e m q e' ∧ (e' ≠ 0 → m = 0) ∧
  ToldM Tryz.prog 208 [.ref 1000000 1 0 0, .c (.v (.int .i64 (k : Int)))] [dB ns r B p e] [some (dB ns r B q e')] (.c (.v (.int .i64 (m : Int)))) := by
 have hw : IntKind.i64.wrap (300 - (k : Int)) = ((300 - k : Nat) : Int) := by rw [wrap64_id (by omega) (by omega)]; omega
 have hz : decide ((0 : Int) > ((300 - k : Nat) : Int)) = false := by simp
 have hL := wlong_told B hB p hp e
 have hbad : ∀ x : Int, x ≠ 0 → lft rlong 0 B p e = (0, p, x) → ToldM Tryz.prog 208 [.ref 1000000 1 0 0, .c (.v (.int .i64 (k : Int)))] [dB ns r B p e] [some (dB ns r B p x)] (.c (.v (.int .i64 ((0 : Nat) : Int)))) := by
  intro x hx hl
  rw [hl] at hL
  have hN := dnumber_told ns r B p p e x 0 hL
  have e1 : (x != 0) = true := by simpa using hx
  clear hL hl
  unfold dB at *
  refine VC.toldX ent_208 [] Tryz.func208 rfl Tryz.ntmps208 fun hb hbL => ?_
  clear hb hbL
  refine walkG ?_
  refine walkL [1000000] (hN) ?_
  refine walkBF (And.intro hw (And.intro hz e1)) ?_
  refine retX Tryz.results208 ?_
  exact .c _
 by_cases h : e ≠ 0
 · exact ⟨0, p, e, ⟨hp, fun _ => rfl, fun x h0 => absurd h0 h, fun w q' h0 => absurd h0 h⟩, fun _ => rfl, hbad e h (lft_e _ _ _ _ h)⟩
 obtain rfl : e = 0 := Decidable.not_not.1 h
 cases hr : rlong B p with
 | error x =>
   exact ⟨0, p, x, ⟨hp, fun h => absurd rfl h, fun y _ hy => by unfold rcount at hy; rw [rbind_bad hr] at hy; injection hy, fun w q' _ hy => by unfold rcount at hy; rw [rbind_bad hr] at hy; simp at hy⟩, fun _ => rfl, hbad x (fair_long.ers hr) (lft_bad _ hr)⟩
 | ok s =>
 obtain ⟨n, q⟩ := s
 clear hbad h
 have hq := (fair_long.fwd hp hr).2
 have hnb := by
  have := hr
  unfold rlong rvar at this
  exact this
 rw [lft_ok _ hr] at hL
 have hN := dnumber_told ns r B p q 0 0 n hL
 have hnr : -9223372036854775808 ≤ n ∧ n ≤ 9223372036854775807 := by
  split at hnb
  · simp at hnb
  · rename_i u j hu
    injection hnb with hnb
    injection hnb with hnb _
    have := vtk_bound 10 1 (by decide) (by decide) (by decide) hu
    rw [← hnb]
    unfold zagN
    split <;> omega
 clear hnb
 have hrc : rcount k B p = (if n < 0 then rbind rlong fun _ => if (300 : Int) - k < -n then rbad 15 else rret (-n).toNat else if (300 : Int) - k < n then rbad 15 else rret n.toNat) B q := by unfold rcount; rw [rbind_ok hr]
 by_cases h1 : n < 0
 · rw [if_pos h1] at hrc
   have e1 : decide (n < 0) = true := by simpa using h1
   have hL2 := wlong_told B hB q hq 0
   obtain ⟨n2, q2, x2, h2⟩ : ∃ a b c, lft rlong 0 B q 0 = (a, b, c) := ⟨_, _, _, rfl⟩
   rw [h2] at hL2
   have hN2 := dnumber_told ns r B q q2 0 x2 n2 hL2
   have hq2 : q2 ≤ B.length ∧ (x2 ≠ 0 → rlong B q = .error x2) ∧ (x2 = 0 → rlong B q = .ok (n2, q2)) := by
    cases hr2 : rlong B q with
    | error x =>
      rw [lft_bad _ hr2] at h2
      injection h2 with h2 h3
      injection h3 with h3 h4
      exact ⟨h3 ▸ hq, fun _ => by rw [h4], fun h => absurd (h4.trans h) (fair_long.ers hr2)⟩
    | ok s =>
      rw [lft_ok _ hr2] at h2
      injection h2 with h2 h3
      injection h3 with h3 h4
      exact ⟨h3 ▸ (fair_long.fwd hq hr2).2, fun h => absurd h4.symm h, fun _ => by rw [← h2, ← h3]⟩
   obtain ⟨hq2, hx2, hy2⟩ := hq2
   obtain ⟨M, hM⟩ : ∃ M, M = -(if n = -9223372036854775808 then n + 1 else n) := ⟨_, rfl⟩
   have hMr : 0 < M ∧ M ≤ 9223372036854775807 ∧ ((300 : Int) - k < -n ↔ (300 : Int) - k < M) ∧ (M ≤ 300 → M = -n) := by
    rw [hM]
    split <;> omega
   have hF := dfail_told ns r B q2 x2 15
   have hwn : IntKind.i64.wrap (0 - (if n = -9223372036854775808 then n + 1 else n)) = M := by
    rw [wrap64_id (by split <;> omega) (by split <;> omega), hM]
    omega
   have hwn1 : n = -9223372036854775808 → IntKind.i64.wrap (n + 1) = n + 1 := fun h => wrap64_id (by omega) (by omega)
   by_cases h3 : (300 : Int) - k < M
   · have e3 : decide (M > ((300 - k : Nat) : Int)) = true := by simp; omega
     obtain ⟨E, hE⟩ : ∃ E, E = if x2 = 0 then (15 : Int) else x2 := ⟨_, rfl⟩
     have hE0 : E ≠ 0 := by rw [hE]; split <;> omega
     have e4 : (E != 0) = true := by simpa using hE0
     rw [← hE] at hF
     refine ⟨0, q2, E, ⟨hq2, fun h => absurd rfl h, fun x _ hx => ?_, fun w q' _ hx => ?_⟩, fun _ => rfl, ?_⟩
     · rw [hrc] at hx
       by_cases hx0 : x2 = 0
       · rw [rbind_ok (hy2 hx0), if_pos (hMr.2.2.1.2 h3)] at hx
         unfold rbad at hx
         injection hx with hx
         rw [hE, if_pos hx0, hx]
       · rw [rbind_bad (hx2 hx0)] at hx
         injection hx with hx
         rw [hE, if_neg hx0, hx]
     · rw [hrc] at hx
       by_cases hx0 : x2 = 0
       · rw [rbind_ok (hy2 hx0), if_pos (hMr.2.2.1.2 h3)] at hx
         unfold rbad at hx
         simp at hx
       · rw [rbind_bad (hx2 hx0)] at hx
         simp at hx
     · clear hL hL2 h2 hx2 hy2 hr hrc hE
       unfold dB at *
       by_cases hmn : n = -9223372036854775808
       · rw [if_pos hmn] at hwn
         have e2 : (n == -9223372036854775808) = true := by simpa using hmn
         have hw1 := hwn1 hmn
         clear hwn1 hM hMr hmn
         refine VC.toldX ent_208 [] Tryz.func208 rfl Tryz.ntmps208 fun hb hbL => ?_
         clear hb hbL
         refine walkG ?_
         refine walkL [1000000] (hN) ?_
         refine walkBF (e1) ?_
         refine walkL [1000000] (hN2) ?_
         refine walkBF (And.intro e2 (And.intro hw1 (And.intro hwn (And.intro hw e3)))) ?_
         refine walkL [1000000] (hF) ?_
         refine walkBF (e4) ?_
         refine retX Tryz.results208 ?_
         exact .c _
       · rw [if_neg hmn] at hwn
         have e2 : (n == -9223372036854775808) = false := by simpa using hmn
         clear hwn1 hM hMr hmn
         refine VC.toldX ent_208 [] Tryz.func208 rfl Tryz.ntmps208 fun hb hbL => ?_
         clear hb hbL
         refine walkG ?_
         refine walkL [1000000] (hN) ?_
         refine walkBF (e1) ?_
         refine walkL [1000000] (hN2) ?_
         refine walkBF (And.intro e2 (And.intro hwn (And.intro hw e3))) ?_
         refine walkL [1000000] (hF) ?_
         refine walkBF (e4) ?_
         refine retX Tryz.results208 ?_
         exact .c _
   · have e3 : decide (M > ((300 - k : Nat) : Int)) = false := by simp; omega
     have hMn : M = -n := hMr.2.2.2 (by omega)
     have e2 : (n == -9223372036854775808) = false := by simp; omega
     rw [if_neg (by omega)] at hwn
     by_cases hx0 : x2 = 0
     · refine ⟨M.toNat, q2, 0, ⟨hq2, fun h => absurd rfl h, fun x _ hx => ?_, fun w q' _ hx => ?_⟩, fun h => absurd rfl h, ?_⟩
       · rw [hrc, rbind_ok (hy2 hx0), if_neg (fun h => h3 (hMr.2.2.1.1 h))] at hx
         unfold rret at hx
         simp at hx
       · rw [hrc, rbind_ok (hy2 hx0), if_neg (fun h => h3 (hMr.2.2.1.1 h))] at hx
         unfold rret at hx
         injection hx with hx
         injection hx with hx hx'
         exact ⟨by rw [hMn, hx], hx', rfl⟩
       · rw [show ((M.toNat : Nat) : Int) = M from by omega]
         clear hL hL2 h2 hx2 hy2 hr hrc hF hwn1 hM hMr hMn
         subst hx0
         unfold dB at *
         refine VC.toldX ent_208 [] Tryz.func208 rfl Tryz.ntmps208 fun hb hbL => ?_
         clear hb hbL
         refine walkG ?_
         refine walkL [1000000] (hN) ?_
         refine walkBF (e1) ?_
         refine walkL [1000000] (hN2) ?_
         refine walkBF (And.intro e2 (And.intro hwn (And.intro hw e3))) ?_
         refine retX Tryz.results208 ?_
         exact .c _
     · have e4 : (x2 != 0) = true := by simpa using hx0
       refine ⟨0, q2, x2, ⟨hq2, fun h => absurd rfl h, fun x _ hx => ?_, fun w q' _ hx => ?_⟩, fun _ => rfl, ?_⟩
       · rw [hrc, rbind_bad (hx2 hx0)] at hx
         injection hx
       · rw [hrc, rbind_bad (hx2 hx0)] at hx
         simp at hx
       · clear hL hL2 h2 hx2 hy2 hr hrc hF hwn1 hM hMr hMn
         unfold dB at *
         refine VC.toldX ent_208 [] Tryz.func208 rfl Tryz.ntmps208 fun hb hbL => ?_
         clear hb hbL
         refine walkG ?_
         refine walkL [1000000] (hN) ?_
         refine walkBF (e1) ?_
         refine walkL [1000000] (hN2) ?_
         refine walkBF (And.intro e2 (And.intro hwn (And.intro hw (And.intro e3 e4)))) ?_
         refine retX Tryz.results208 ?_
         exact .c _
 · rw [if_neg h1] at hrc
   have e1 : decide (n < 0) = false := by simpa using h1
   by_cases h3 : (300 : Int) - k < n
   · rw [if_pos h3] at hrc
     have e3 : decide (n > ((300 - k : Nat) : Int)) = true := by simp; omega
     have hF := dfail_told ns r B q 0 15
     rw [if_pos rfl] at hF
     refine ⟨0, q, 15, ⟨hq, fun h => absurd rfl h, fun x _ hx => ?_, fun w q' _ hx => ?_⟩, fun _ => rfl, ?_⟩
     · rw [hrc] at hx
       unfold rbad at hx
       injection hx
     · rw [hrc] at hx
       unfold rbad at hx
       simp at hx
     · clear hL hr hrc
       unfold dB at *
       refine VC.toldX ent_208 [] Tryz.func208 rfl Tryz.ntmps208 fun hb hbL => ?_
       clear hb hbL
       refine walkG ?_
       refine walkL [1000000] (hN) ?_
       refine walkBF (And.intro e1 (And.intro hw e3)) ?_
       refine walkL [1000000] (hF) ?_
       refine walkB ?_
       refine retX Tryz.results208 ?_
       exact .c _
   · rw [if_neg h3] at hrc
     have e3 : decide (n > ((300 - k : Nat) : Int)) = false := by simp; omega
     refine ⟨n.toNat, q, 0, ⟨hq, fun h => absurd rfl h, fun x _ hx => ?_, fun w q' _ hx => ?_⟩, fun h => absurd rfl h, ?_⟩
     · rw [hrc] at hx
       unfold rret at hx
       simp at hx
     · rw [hrc] at hx
       unfold rret at hx
       injection hx with hx
       injection hx with hx hx'
       exact ⟨hx, hx', rfl⟩
     · rw [show ((n.toNat : Nat) : Int) = n from by omega]
       clear hL hr hrc
       unfold dB at *
       refine VC.toldX ent_208 [] Tryz.func208 rfl Tryz.ntmps208 fun hb hbL => ?_
       clear hb hbL
       refine walkG ?_
       refine walkL [1000000] (hN) ?_
       refine walkBF (And.intro e1 (And.intro hw e3)) ?_
       refine retX Tryz.results208 ?_
       exact .c _

/-! What the loops over blocks run through: as the plain readers, but with a place where these refuse. -/
abbrev Item := List (List UInt8) × VT
def itemS (map : Bool) (B : List UInt8) (val : Nat → Int → VT × Nat × Int) (p : Nat) : Item × Nat × Int :=
 if map = true then (([(lft rtext [] B p 0).1], (val (lft rtext [] B p 0).2.1 (lft rtext [] B p 0).2.2).1), (val (lft rtext [] B p 0).2.1 (lft rtext [] B p 0).2.2).2) else (([], (val p 0).1), (val p 0).2)
def rowS (step : Nat → Item × Nat × Int) : Nat → List VT → List (List UInt8) → Nat → Except (Nat × Int) (List VT × List (List UInt8) × Nat)
 | 0, xs, ks, p => .ok (xs, ks, p)
 | m + 1, xs, ks, p => if (step p).2.2 = 0 then rowS step m (xs ++ [(step p).1.2]) (ks ++ (step p).1.1) (step p).2.1 else .error (step p).2
def headS (f : List VT → List (List UInt8) → Nat → (List VT × List (List UInt8)) × Nat × Int) (step : Nat → Item × Nat × Int) (m : Nat) (xs : List VT) (ks : List (List UInt8)) (p : Nat) (e : Int) : (List VT × List (List UInt8)) × Nat × Int :=
 if m = 0 then ((xs, ks), p, e) else match rowS step m xs ks p with
  | .error r => (([], []), r)
  | .ok t => f t.1 t.2.1 t.2.2
def blkS (step : Nat → Item × Nat × Int) (cnt : Nat → Nat → Nat × Nat × Int) : Nat → List VT → List (List UInt8) → Nat → (List VT × List (List UInt8)) × Nat × Int
 | 0, xs, ks, p => ((xs, ks), p, 15)
 | k + 1, xs, ks, p => headS (blkS step cnt k) step (cnt xs.length p).1 xs ks (cnt xs.length p).2.1 (cnt xs.length p).2.2
theorem count_le {k : Nat} {B : List UInt8} {p q m : Nat} (h : rcount k B p = .ok (m, q)) : k ≤ 300 → m + k ≤ 300 := fun hk => by
 obtain ⟨n, r, h1, h2⟩ := rbind_inv h
 split at h2
 · obtain ⟨n2, r2, h6, h7⟩ := rbind_inv h2
   split at h7
   · unfold rbad at h7; simp at h7
   · unfold rret at h7
     injection h7 with h7
     injection h7 with h7 _
     omega
 · split at h2
   · unfold rbad at h2; simp at h2
   · unfold rret at h2
     injection h2 with h2
     injection h2 with h2 _
     omega
def StepOk {α : Type} (f : Rd α) (B : List UInt8) (step : Nat → α × Nat × Int) : Prop := ∀ p, p ≤ B.length → Got (f B p) B 0 (step p).1 (step p).2.1 (step p).2.2
theorem Got.is {α : Type} {f : Rd α} (hf : Fair f) {B : List UInt8} {p : Nat} {v : α} {q : Nat} {e' : Int} (h : Got (f B p) B 0 v q e') : (e' = 0 → f B p = .ok (v, q)) ∧ (e' ≠ 0 → f B p = .error e') := by
 cases hr : f B p with
 | error x =>
   have := h.bad x rfl hr
   exact ⟨fun h0 => absurd (this.symm.trans h0) (hf.ers hr), fun _ => by rw [this]⟩
 | ok r =>
   obtain ⟨h1, h2, h3⟩ := h.ok r.1 r.2 rfl hr
   exact ⟨fun _ => by rw [h1, h2], fun h0 => absurd h3 h0⟩
theorem got_of {α : Type} {f : Rd α} {B : List UInt8} {p : Nat} {v : α} {q : Nat} {e' : Int} (hq : q ≤ B.length) (h1 : e' = 0 → f B p = .ok (v, q)) (h2 : e' ≠ 0 → f B p = .error e') : Got (f B p) B 0 v q e' := by
 refine ⟨hq, fun h => absurd rfl h, fun x _ hx => ?_, fun w q' _ hx => ?_⟩
 · by_cases h : e' = 0
   · rw [h1 h] at hx; simp at hx
   · rw [h2 h] at hx; injection hx
 · by_cases h : e' = 0
   · rw [h1 h] at hx
     injection hx with hx
     injection hx with hx hx'
     exact ⟨hx, hx', h⟩
   · rw [h2 h] at hx; simp at hx
theorem rowS_got {item : Rd Item} (hf : Fair item) {B : List UInt8} {step : Nat → Item × Nat × Int} (hs : StepOk item B step) : ∀ (m : Nat) (xs : List VT) (ks : List (List UInt8)) (p : Nat), p ≤ B.length →
  (∀ t, rowS step m xs ks p = .ok t → t.2.2 ≤ B.length ∧ rrow item m xs ks B p = .ok ((t.1, t.2.1), t.2.2)) ∧ (∀ r, rowS step m xs ks p = .error r → r.1 ≤ B.length ∧ r.2 ≠ 0 ∧ rrow item m xs ks B p = .error r.2)
 | 0, xs, ks, p, hp => by
   rw [rowS, rrow]
   refine ⟨fun t h => ?_, fun r h => by simp at h⟩
   injection h with h
   subst h
   exact ⟨hp, rfl⟩
 | m + 1, xs, ks, p, hp => by
   rw [rowS, rrow]
   have hg := hs p hp
   have hi := hg.is hf
   split
   · rename_i h0
     rw [rbind_ok (hi.1 h0)]
     exact rowS_got hf hs m _ _ _ hg.le
   · rename_i h0
     rw [rbind_bad (hi.2 h0)]
     refine ⟨fun t h => by simp at h, fun r h => ?_⟩
     injection h with h
     subst h
     exact ⟨hg.le, h0, rfl⟩
theorem rowS_len {step : Nat → Item × Nat × Int} : ∀ (m : Nat) (xs : List VT) (ks : List (List UInt8)) (p : Nat) (t : List VT × List (List UInt8) × Nat), rowS step m xs ks p = .ok t → t.1.length = xs.length + m
 | 0, xs, ks, p, t, h => by
   rw [rowS] at h
   injection h with h
   subst h
   rfl
 | m + 1, xs, ks, p, t, h => by
   rw [rowS] at h
   split at h
   · have := rowS_len m _ _ _ t h
     simp at this
     omega
   · simp at h
def CntOk (B : List UInt8) (cnt : Nat → Nat → Nat × Nat × Int) : Prop := ∀ h p, h ≤ 300 → p ≤ B.length → Got (rcount h B p) B 0 (cnt h p).1 (cnt h p).2.1 (cnt h p).2.2 ∧ ((cnt h p).2.2 ≠ 0 → (cnt h p).1 = 0)
theorem blkS_got {item : Rd Item} (hf : Fair item) {B : List UInt8} {step : Nat → Item × Nat × Int} (hs : StepOk item B step) {cnt : Nat → Nat → Nat × Nat × Int} (hc : CntOk B cnt) : ∀ (k : Nat) (xs : List VT) (ks : List (List UInt8)) (p : Nat), p ≤ B.length → xs.length ≤ 300 →
  Got (rblks item k xs ks B p) B 0 (blkS step cnt k xs ks p).1 (blkS step cnt k xs ks p).2.1 (blkS step cnt k xs ks p).2.2
 | 0, xs, ks, p, hp, _ => by
   rw [rblks, blkS]
   exact got_of hp (fun h => absurd h (show ¬ ((15 : Int) = 0) by decide)) fun _ => rfl
 | k + 1, xs, ks, p, hp, hx => by
   rw [rblks, blkS, headS]
   obtain ⟨hg, hz⟩ := hc xs.length p hx hp
   have hi := hg.is (fair_count _)
   generalize cnt xs.length p = c at hg hz hi
   by_cases h0 : c.1 = 0
   · rw [if_pos h0]
     refine got_of hg.le (fun h => ?_) fun h => ?_
     · rw [rbind_ok (hi.1 h), if_pos h0]; rfl
     · rw [rbind_bad (hi.2 h)]
   · rw [if_neg h0]
     have he : c.2.2 = 0 := Decidable.not_not.1 fun h => h0 (hz h)
     have hr := rowS_got hf hs c.1 xs ks c.2.1 hg.le
     have hm := count_le (hi.1 he) hx
     have hb : (rbind (rcount xs.length) fun m => if m = 0 then rret (xs, ks) else rbind (rrow item m xs ks) fun q => rblks item k q.1 q.2) B p = rbind (rrow item c.1 xs ks) (fun q => rblks item k q.1 q.2) B c.2.1 := by rw [rbind_ok (hi.1 he), if_neg h0]
     rw [hb]
     cases hrw : rowS step c.1 xs ks c.2.1 with
     | error r =>
       obtain ⟨h1, h2, h3⟩ := hr.2 r hrw
       simp only []
       refine got_of h1 (fun h => absurd h h2) fun _ => ?_
       rw [rbind_bad h3]
     | ok t =>
       obtain ⟨h1, h2⟩ := hr.1 t hrw
       have hl := rowS_len _ _ _ _ _ hrw
       simp only []
       rw [rbind_ok h2]
       exact blkS_got hf hs hc k t.1 t.2.1 t.2.2 h1 (by omega)
theorem itemS_ok {f : Rd VT} (hf : Fair f) {B : List UInt8} {val : Nat → Int → VT × Nat × Int} (hv : ∀ p e, p ≤ B.length → Got (f B p) B e (val p e).1 (val p e).2.1 (val p e).2.2) (map : Bool) : StepOk (ritem map f) B (itemS map B val) := by
 intro p hp
 unfold itemS ritem
 cases map with
 | true =>
   rw [if_pos rfl, if_pos rfl]
   have ht := got_lft fair_text [] hp 0
   have hti := ht.is fair_text
   have hg := hv (lft rtext [] B p 0).2.1 (lft rtext [] B p 0).2.2 ht.le
   generalize lft rtext [] B p 0 = t at ht hti hg
   by_cases h0 : t.2.2 = 0
   · rw [h0] at hg ⊢
     have hvi := hg.is hf
     refine got_of hg.le (fun h => ?_) fun h => ?_
     · rw [rbind_ok (hti.1 h0), rbind_ok (hvi.1 h)]; rfl
     · rw [rbind_ok (hti.1 h0), rbind_bad (hvi.2 h)]
   · have := hg.no h0
     refine got_of hg.le (fun h => absurd (this.symm.trans h) h0) fun h => ?_
     rw [rbind_bad (hti.2 h0)]
     simp only []
     rw [this]
 | false =>
   rw [if_neg (by decide), if_neg (by decide)]
   have hg := hv p 0 hp
   have hvi := hg.is hf
   refine got_of hg.le (fun h => ?_) fun h => ?_
   · rw [rbind_ok (hvi.1 h)]; rfl
   · rw [rbind_bad (hvi.2 h)]
def ValT (ns : List NT) (r : Int) (B : List UInt8) (a : Int) (dep : Nat) (val : Nat → Int → VT × Nat × Int) : Prop := ∀ p e, p ≤ B.length →
 ToldM Tryz.prog 62 [.ref 1000000 1 0 0, .c (.v (.int .i64 a)), .c (.v (.int .i64 (dep : Int)))] [dB ns r B p e] [some (dB ns r B (val p e).2.1 (val p e).2.2)] (val p e).1.av
theorem rA_vv (l : List VT) (x : VT) : rA VT.cells l ++ [x.cells.map .c] = rA VT.cells (l ++ [x]) := by simp [rA]
theorem rA_sv (l : List (List UInt8)) (x : List UInt8) : rA sPV l ++ [[.c (.v (.string (bstr x)))]] = rA sPV (l ++ [x]) := rA_one sPV l x
theorem pvOk19 (l : List UInt8) : bytesOk (bytePV l) = True := eq_true (bytePV_ok l)
theorem ditems_told (ns : List NT) (r : Int) (B : List UInt8) (hB : B.length ≤ 1000000) (nd : NT) (dep : Nat) (val : Nat → Int → VT × Nat × Int) (hV : ValT ns r B nd.items dep val) (hle : ∀ p e, p ≤ B.length → (val p e).2.1 ≤ B.length)
  (cnt : Nat → Nat → Nat × Nat × Int) (hC : ∀ h p : Nat, h ≤ 300 → p ≤ B.length → ToldM Tryz.prog 208 [.ref 1000000 1 0 0, .c (.v (.int .i64 (h : Int)))] [dB ns r B p 0] [some (dB ns r B (cnt h p).2.1 (cnt h p).2.2)] (.c (.v (.int .i64 ((cnt h p).1 : Int)))))
  (hcl : ∀ h p, h ≤ 300 → p ≤ B.length → (cnt h p).1 + h ≤ 300 ∧ (cnt h p).2.1 ≤ B.length ∧ ((cnt h p).2.2 ≠ 0 → (cnt h p).1 = 0)) (p0 : Nat) (hp0 : p0 ≤ B.length) (F : (List VT × List (List UInt8)) × Nat × Int)
  (hF : F = blkS (itemS (nd.kind == 12) B val) cnt 301 [] [] p0) :
  ToldM Tryz.prog 170 [.ref 1000000 1 0 0, nd.av, .c (.v (.int .i64 (dep : Int)))] [dB ns r B p0 0] [some (dB ns r B F.2.1 F.2.2)] (.tup [.c (.sl 6 (F.1.1.map VT.cells)), .c (.sl 1 (F.1.2.map sPV))]) := by
 rw [blkS] at hF
 have hC0 := hC 0 p0 (by decide) hp0
 have hl0 := hcl 0 p0 (by decide) hp0
 simp only [List.length_nil] at hF
 obtain ⟨m0, q0, x0, hc0⟩ : ∃ a b c, cnt 0 p0 = (a, b, c) := ⟨_, _, _, rfl⟩
 rw [hc0] at hC0 hl0 hF
 simp only [] at hC0 hl0 hF
 rw [show ((0 : Nat) : Int) = 0 from rfl] at hC0
 rw [NT.av_eq]
 unfold dB at *
 refine VC.toldX ent_170 [] Tryz.func170 rfl Tryz.ntmps170 fun hb hbL => ?_
 clear hb hbL
 refine walkG ?_
 refine walkL [1000000] (hC0) ?_
 refine walkG ?_
 refine VC.nil 6 43 6 (by rfl) (by trivial) (by rfl) ?_
 refine VC.nil 7 9 1 (by rfl) (by trivial) (by rfl) ?_
 generalize hm12 : (nd.kind == 12) = M at hF
 refine VC.loop (ι := {s : (List VT × List (List UInt8) × Nat) × Nat × Int × Nat // s.1.1.length + s.2.1 ≤ 300 ∧ s.1.2.1.length ≤ s.1.1.length ∧ s.1.2.2 ≤ B.length ∧ (s.2.2.1 ≠ 0 → s.2.1 = 0) ∧ 300 ≤ s.1.1.length + s.2.2.2 ∧ F = headS (blkS (itemS M B val) cnt s.2.2.2) (itemS M B val) s.2.1 s.1.1 s.1.2.1 s.1.2.2 s.2.2.1})
  (fun s => [(0, .ref 1000000 1 0 0), (2, .c (.v (.int .i64 (dep : Int)))), (4, .ref 0 1 0 0), (6, .row 48 s.1.1.1.length), (7, .row 56 s.1.1.2.1.length), (8, .c (.v (.int .i64 (s.1.2.1 : Int))))])
  (fun s => [(0, ⟨false, 33, 10, [nd.cells.map .c]⟩), (48, ⟨true, 43, 6, rA VT.cells s.1.1.1⟩), (56, ⟨true, 9, 1, rA sPV s.1.1.2.1⟩), (1000000, ⟨false, 106, 5, [[.c (.sl 10 (ns.map NT.cells)), .c (.v (.int .i64 r)), .c (.sl 1 (bytePV B)), .c (.v (.int .i64 (s.1.1.2.2 : Int))), .c (.v (.int .i64 s.1.2.2.1))]]⟩)]) 800 (fun s => s.1.2.2.2)
  ⟨(([], [], q0), m0, x0, 300), by simpa using hl0.1, by simp, hl0.2.1, hl0.2.2, by simp, hF⟩ ?_ ?_
 · refine weakXF (And.intro @ncells_mk (And.intro @rA_len @rA_sc)) ?_
   exact ⟨rfl, rfl⟩
 rintro ⟨⟨⟨xs, ks, p⟩, m, e, k⟩, h1, h2, h3, h4, h5, h6⟩
 simp only [] at h1 h2 h3 h4 h5 h6 ⊢
 refine walkG ?_
 refine VC.cond (by rfl) (by trivial) (fun hc => ?_) (fun hc => ?_)
 rotate_left
 · have hm0 : m = 0 := by simp at hc; omega
   subst hm0
   rw [headS, if_pos rfl] at h6
   subst h6
   refine walkGF (@rA_len) ?_
   refine retXF (And.intro @rA_len @rA_ren) Tryz.results170 ?_
   exact ⟨frz_rA (f := VT.cells) (l := xs) (T := 43) rfl rfl rfl fun x _ => len_vcells x, frz_rA (f := sPV) (l := ks) (T := 9) rfl rfl rfl fun x _ => rfl⟩
 have hm0 : 0 < m := by simp at hc; omega
 have he0 : e = 0 := Decidable.not_not.1 fun h => by have := h4 h; omega
 subst he0
 rw [headS, if_neg (by omega)] at h6
 refine walkG ?_
 obtain ⟨RW, hRW⟩ : ∃ RW, RW = rowS (itemS M B val) m xs ks p := ⟨_, rfl⟩
 rw [← hRW] at h6
 refine VC.loop (ι := {s : Nat × List VT × List (List UInt8) × Nat // s.1 ≤ m ∧ s.2.1.length = xs.length + s.1 ∧ s.2.2.1.length ≤ s.2.1.length ∧ s.2.2.2 ≤ B.length ∧ RW = rowS (itemS M B val) (m - s.1) s.2.1 s.2.2.1 s.2.2.2})
  (fun s => [(0, .ref 1000000 1 0 0), (2, .c (.v (.int .i64 (dep : Int)))), (4, .ref 0 1 0 0), (6, .row 48 s.1.2.1.length), (7, .row 56 s.1.2.2.1.length), (17, .c (.v (.int .i64 (m : Int)))), (18, .c (.v (.int .i64 (s.1.1 : Int))))])
  (fun s => [(0, ⟨false, 33, 10, [nd.cells.map .c]⟩), (48, ⟨true, 43, 6, rA VT.cells s.1.2.1⟩), (56, ⟨true, 9, 1, rA sPV s.1.2.2.1⟩), (1000000, ⟨false, 106, 5, [[.c (.sl 10 (ns.map NT.cells)), .c (.v (.int .i64 r)), .c (.sl 1 (bytePV B)), .c (.v (.int .i64 (s.1.2.2.2 : Int))), .c (.v (.int .i64 0))]]⟩)]) 2000 (fun s => m - s.1.1)
  ⟨(0, xs, ks, p), Nat.zero_le _, rfl, h2, h3, hRW⟩ ?_ ?_
 · refine weakXF (And.intro @ncells_mk (And.intro @rA_len @rA_sc)) ?_
   exact ⟨Nat.le_refl _, Nat.le_refl _⟩
 rintro ⟨⟨i, ys, js, q⟩, i1, i2, i3, i4, i5⟩
 simp only [] at i1 i2 i3 i4 i5 ⊢
 have hyl : (rA VT.cells ys).length = ys.length := rA_len _ _
 have hjl : (rA sPV js).length = js.length := rA_len _ _
 refine walkG ?_
 refine VC.cond (by rfl) (by trivial) (fun hd => ?_) (fun hd => ?_)
 rotate_left
 · have hie : i = m := by simp at hd; omega
   rw [hie, Nat.sub_self, rowS] at i5
   rw [i5] at h6
   simp only [] at h6
   obtain ⟨k, rfl⟩ : ∃ k', k = k' + 1 := ⟨k - 1, by omega⟩
   rw [blkS] at h6
   have hC1 := hC ys.length q (by omega) i4
   have hl1 := hcl ys.length q (by omega) i4
   obtain ⟨m1, q1, x1, hc1⟩ : ∃ a b c, cnt ys.length q = (a, b, c) := ⟨_, _, _, rfl⟩
   rw [hc1] at hC1 hl1 h6
   simp only [] at hC1 hl1 h6
   refine walkGF (hyl) ?_
   refine walkLF (And.intro @rA_ren @rA_len) [1000000] (hC1) ?_
   refine walkG ?_
   refine .next ⟨((ys, js, q1), m1, x1, k), by simp only []; omega, i3, hl1.2.1, hl1.2.2, by simp only []; omega, h6⟩ ?_ (by simp only []; omega)
   refine weakXF (And.intro @ncells_mk (And.intro @rA_len @rA_sc)) ?_
   exact ⟨Nat.le_refl _, Nat.le_refl _⟩
 have hlt : i < m := by simp at hd; omega
 obtain ⟨z, hz⟩ : ∃ z, m - i = z + 1 := ⟨m - i - 1, by omega⟩
 have hz' : m - (i + 1) = z := by omega
 rw [hz, rowS] at i5
 have hw : IntKind.i64.wrap ((i : Int) + 1) = ((i + 1 : Nat) : Int) := by rw [wrap64_id (by omega) (by omega)]; omega
 cases M with
 | true =>
   have e12 : (nd.kind == 12) = true := hm12
   have hT := dtext_told ns r B q (lft rtext [] B q 0).2.1 0 (lft rtext [] B q 0).2.2 (lft rtext [] B q 0).1 (wtext_told B hB q i4 0)
   have htl := (got_lft fair_text [] i4 0).le
   rw [itemS, if_pos rfl] at i5
   obtain ⟨y, q1, e1, hL⟩ : ∃ a b c, lft rtext [] B q 0 = (a, b, c) := ⟨_, _, _, rfl⟩
   rw [hL] at hT htl i5
   simp only [] at hT htl i5
   have hX := hV q1 e1 htl
   have hql := hle q1 e1 htl
   obtain ⟨v, q2, e2, hvv⟩ : ∃ a b c, val q1 e1 = (a, b, c) := ⟨_, _, _, rfl⟩
   rw [hvv] at hX hql i5
   simp only [] at hX hql i5
   rw [VT.av_eq] at hX
   have hby : bytesOf (bytePV y) = y := bytesOf_pv y
   have hbk := pvOk19 y
   have hk1 := rA_sv js y
   unfold dB at hT hX
   by_cases h0 : e2 = 0
   · rw [if_pos h0] at i5
     subst h0
     refine walkBF (And.intro @ncells_mk e12) ?_
     refine walkLF (And.intro @rA_ren @rA_len) [1000000] (hT) ?_
     refine walkBF (And.intro @ncells_mk (And.intro hby (And.intro hbk (And.intro hk1 hjl)))) ?_
     refine walkLF (And.intro @rA_ren @rA_len) [1000000] (hX) ?_
     refine walkBF (And.intro @len_vcells (And.intro @take_vcells (And.intro @take_vcellsC (And.intro hyl (And.intro @rA_vv hw))))) ?_
     refine .next ⟨(i + 1, ys ++ [v], js ++ [y], q2), hlt, by simp only [List.length_append, List.length_singleton]; omega, by simp only [List.length_append, List.length_singleton]; omega, hql, by rw [i5, hz']⟩ ?_ (by simp only []; omega)
     refine weakXF (And.intro @ncells_mk (And.intro @rA_len @rA_sc)) ?_
     exact ⟨⟨by simp, by simp⟩, Nat.le_refl _, Nat.le_refl _⟩
   · rw [if_neg h0] at i5
     rw [i5] at h6
     simp only [] at h6
     subst h6
     have e0 : (e2 != 0) = true := by simpa using h0
     refine walkBF (And.intro @ncells_mk e12) ?_
     refine walkLF (And.intro @rA_ren @rA_len) [1000000] (hT) ?_
     refine walkBF (And.intro @ncells_mk (And.intro hby (And.intro hbk (And.intro hk1 hjl)))) ?_
     refine walkLF (And.intro @rA_ren @rA_len) [1000000] (hX) ?_
     refine walkBF (And.intro @len_vcells (And.intro @take_vcells (And.intro @take_vcellsC (And.intro hyl (And.intro @rA_vv e0))))) ?_
     refine retXF (And.intro @rA_len @rA_ren) Tryz.results170 ?_
     exact ⟨.nil 6, .nil 1⟩
 | false =>
   have e12 : (nd.kind == 12) = false := hm12
   rw [itemS, if_neg Bool.false_ne_true] at i5
   have hX := hV q 0 i4
   have hql := hle q 0 i4
   obtain ⟨v, q2, e2, hvv⟩ : ∃ a b c, val q 0 = (a, b, c) := ⟨_, _, _, rfl⟩
   rw [hvv] at hX hql i5
   simp only [List.append_nil] at hX hql i5
   rw [VT.av_eq] at hX
   unfold dB at hX
   by_cases h0 : e2 = 0
   · rw [if_pos h0] at i5
     subst h0
     refine walkBF (And.intro @ncells_mk e12) ?_
     refine walkLF (And.intro @rA_ren @rA_len) [1000000] (hX) ?_
     refine walkBF (And.intro @len_vcells (And.intro @take_vcells (And.intro @take_vcellsC (And.intro hyl (And.intro @rA_vv hw))))) ?_
     refine .next ⟨(i + 1, ys ++ [v], js, q2), hlt, by simp only [List.length_append, List.length_singleton]; omega, by simp only [List.length_append, List.length_singleton]; omega, hql, by rw [i5, hz']⟩ ?_ (by simp only []; omega)
     refine weakXF (And.intro @ncells_mk (And.intro @rA_len @rA_sc)) ?_
     exact ⟨by simp, Nat.le_refl _, Nat.le_refl _⟩
   · rw [if_neg h0] at i5
     rw [i5] at h6
     simp only [] at h6
     subst h6
     have e0 : (e2 != 0) = true := by simpa using h0
     refine walkBF (And.intro @ncells_mk e12) ?_
     refine walkLF (And.intro @rA_ren @rA_len) [1000000] (hX) ?_
     refine walkBF (And.intro @len_vcells (And.intro @take_vcells (And.intro @take_vcellsC (And.intro hyl (And.intro @rA_vv e0))))) ?_
     refine retXF (And.intro @rA_len @rA_ren) Tryz.results170 ?_
     exact ⟨.nil 6, .nil 1⟩
end
end Go.Proofs.YtepneflbhpidbaaGreatDoor
