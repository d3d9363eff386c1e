/- Texts that lead to the law ShowTells, joined. -/
import Derived.Test.YtepneflbhpidbaaGreatDoorProg
import Derived.WalkKit
import Derived.WalkSpells
import Derived.WalkLawsBesides
import Derived.Handy
import Derived.Lib.Hide
import Derived.Laws.BytesArg
import Derived.Lib.SlBytesConst
import Derived.Test.YtepneflbhpidbaaGreatDoorPkShowTellsXTy
import Derived.RangeFuncNested
import Derived.RangeFuncBound
import Derived.RangeFuncCalls
import Derived.RangeFuncLeaves
import Derived.RangeFuncBox
import Derived.Shelf.Abstract
import Derived.Shelf.RegionOpen
import Derived.OwnWalkIn
import Derived.TacticsInMore
import Derived.LoopNIn
import Derived.LoopIn
import Derived.Maps.AppendAt
import Derived.Sort.EveryDepth
import Derived.Test.YtepneflbhpidbaaGreatDoorShelf
import Derived.Sort.OwnSorted
import Derived.Test.YtepneflbhpidbaaGreatDoorPkShowTellsXAbB
import Derived.Test.YtepneflbhpidbaaGreatDoorShi
import Derived.Test.YtepneflbhpidbaaGreatDoorPkShowTellsXAc
namespace Go.Proofs.YtepneflbhpidbaaGreatDoor
set_option maxRecDepth 100000
set_option maxHeartbeats 6400000
open Go.RowKit
set_option linter.unusedVariables false
set_option linter.unusedSimpArgs false

def BytesAt (w : World) (a : Option Addr) (b off : Nat) (l : List UInt8) : Prop :=
 (l ≠ [] → a = some ⟨b, off, none⟩) ∧ ∀ j, j < l.length → w.cell? ⟨b, off + j, none⟩ = some (.int .u8 ((l[j]?.getD 0).toNat : Int))
def str (l : List UInt8) : ByteArray := ⟨l.toArray⟩
theorem str_eq (l : List UInt8) : str l = ⟨l.toArray⟩ := rfl
theorem str_toList (l : List UInt8) : (str l).toList = l := by rw [ByteArray.toList_eq]; rfl
theorem str_size (l : List UInt8) : (str l).size = l.length := by simp [str, ByteArray.size]
theorem str_of (s : ByteArray) : str s.data.toList = s := by cases s; rfl
theorem BytesAt.keep {w w' : World} {a : Option Addr} {b off : Nat} {l : List UInt8} (h : BytesAt w a b off l) {B : Nat} (hb : Below B w w') (hlt : l ≠ [] → b < B) : BytesAt w' a b off l := by
 refine ⟨h.1, fun j hj => ?_⟩
 rw [← h.2 j hj]
 exact hb.cell (p := ⟨b, off + j, none⟩) (hlt (by intro e; subst e; simp at hj))
theorem BytesAt.lt {w : World} {a : Option Addr} {b off : Nat} {l : List UInt8} (h : BytesAt w a b off l) (hne : l ≠ []) : b < w.heap.size := by
 have := h.2 0 (List.length_pos_iff.2 hne)
 rcases Nat.lt_or_ge b w.heap.size with h | h
 · exact h
 · simp [World.cell?, Array.getElem?_eq_none h] at this
theorem BytesAt.below {w w' : World} {a : Option Addr} {b off : Nat} {l : List UInt8} (h : BytesAt w a b off l) (hb : Below w.heap.size w w') : BytesAt w' a b off l :=
 h.keep hb fun hne => h.lt hne

inductive JT where
 | mk (k : Int) (n : Int) (s : List UInt8) (ks : List (List UInt8)) (xs : List JT)
def idxS (key : List UInt8) (ks : List (List UInt8)) : Int := match ks.findIdx? (fun k => decide (key = k)) with | some i => (i : Int) | none => -1
theorem idxS_at {key : List UInt8} {ks : List (List UInt8)} {i : Nat} (h : ks[i]? = some key) (h0 : ∀ j, j < i → ks[j]? ≠ some key) : idxS key ks = (i : Int) := by
 unfold idxS
 have hi := (List.getElem?_eq_some_iff.1 h)
 have : ks.findIdx? (fun k => decide (key = k)) = some i := by
  rw [List.findIdx?_eq_some_iff_getElem]
  refine ⟨hi.1, by simp [hi.2], fun j hj => ?_⟩
  simp
  intro e
  exact h0 j hj (by rw [List.getElem?_eq_getElem (by have := hi.1; omega), e])
 rw [this]
theorem idxS_none {key : List UInt8} {ks : List (List UInt8)} (h0 : ∀ j, j < ks.length → ks[j]? ≠ some key) : idxS key ks = -1 := by
 unfold idxS
 have : ks.findIdx? (fun k => decide (key = k)) = none := by
  rw [List.findIdx?_eq_none_iff]
  intro x hx
  simp
  intro e
  obtain ⟨j, hj, hx⟩ := List.getElem_of_mem hx
  exact h0 j hj (by rw [List.getElem?_eq_getElem hj, hx, e])
 rw [this]

mutual
def JT.inr : JT → Prop
 | .mk k n s ks xs => (-9223372036854775808 ≤ n ∧ n ≤ 9223372036854775807) ∧ JT.inrL xs
def JT.inrL : List JT → Prop
 | [] => True
 | x :: xs => x.inr ∧ JT.inrL xs
end
theorem inrL_mem : ∀ {xs : List JT}, JT.inrL xs → ∀ x ∈ xs, x.inr
 | x :: xs, h, y, hy => by
   rcases List.mem_cons.1 hy with rfl | hy
   · exact h.1
   · exact inrL_mem h.2 y hy
theorem inrL_of : ∀ {xs : List JT}, (∀ x ∈ xs, x.inr) → JT.inrL xs
 | [], _ => trivial
 | x :: xs, h => ⟨h x (by simp), inrL_of fun y hy => h y (by simp [hy])⟩

def sPV (s : List UInt8) : List PV := [.v (.string (str s))]
theorem sPV_eq (s : List UInt8) : sPV s = [.v (.string (str s))] := rfl
theorem str_dl (l : List UInt8) : (str l).data.toList = l := by simp [str]
mutual
def JT.cells : JT → List PV
 | .mk k n s ks xs => [.v (.int .i64 k), .v (.int .i64 n), .v (.string (str s)), .sl 5 (JT.cellsL xs), .sl 1 (ks.map sPV)]
def JT.cellsL : List JT → List (List PV)
 | [] => []
 | x :: xs => x.cells :: JT.cellsL xs
end
theorem cellsL_map : ∀ (xs : List JT), JT.cellsL xs = xs.map JT.cells
 | [] => by simp [JT.cellsL]
 | x :: xs => by simp [JT.cellsL, cellsL_map xs]
def JT.av (t : JT) : AV := .agg (t.cells.map .c)
theorem JT.av_eq (t : JT) : t.av = .agg (t.cells.map .c) := rfl
mutual
def tdeep : JT → Nat
 | .mk k n s ks xs => if k = 5 ∨ k = 6 then tdeeps 1 xs else 0
def tdeeps : Nat → List JT → Nat
 | n, [] => n
 | n, x :: xs => tdeeps (max n (1 + tdeep x)) xs
end
theorem cells_mk (k n : Int) (s : List UInt8) (ks : List (List UInt8)) (xs : List JT) : (JT.mk k n s ks xs).cells = [.v (.int .i64 k), .v (.int .i64 n), .v (.string (str s)), .sl 5 (xs.map JT.cells), .sl 1 (ks.map sPV)] := by simp [JT.cells, cellsL_map]
theorem len_cells (t : JT) : t.cells.length = 5 := by cases t; simp [JT.cells]
theorem take_cells (t : JT) : t.cells.take 5 = t.cells := List.take_of_length_le (by rw [len_cells]; exact Nat.le_refl _)
theorem take_cellsC (t : JT) : (t.cells.map AV.c).take 5 = t.cells.map .c := List.take_of_length_le (by rw [List.length_map, len_cells]; exact Nat.le_refl _)
theorem tdeeps_snoc : ∀ (xs : List JT) (x : JT) (n : Nat), tdeeps n (xs ++ [x]) = max (tdeeps n xs) (1 + tdeep x)
 | [], x, n => by simp [tdeeps]
 | y :: xs, x, n => by simp only [List.cons_append, tdeeps]; exact tdeeps_snoc xs x _
theorem tdeeps_le : ∀ (xs : List JT) (n : Nat), n ≤ tdeeps n xs ∧ ∀ x ∈ xs, tdeep x + 1 ≤ tdeeps n xs
 | [], n => ⟨Nat.le_refl _, by simp⟩
 | y :: xs, n => by
   obtain ⟨h1, h2⟩ := tdeeps_le xs (max n (1 + tdeep y))
   simp only [tdeeps]
   refine ⟨by omega, fun x hx => ?_⟩
   rcases List.mem_cons.1 hx with rfl | hx
   · omega
   · exact h2 x hx

def iPV (n : Int) : List PV := [.v (.int .i64 n)]
structure FT where
 name : List UInt8
 aliases : List (List UInt8)
 type : Int
 has : Bool
 dflt : JT
def FT.cells (f : FT) : List PV := .v (.string (str f.name)) :: .sl 1 (f.aliases.map sPV) :: .v (.int .i64 f.type) :: .v (.bool f.has) :: f.dflt.cells
structure NT where
 kind : Int
 name : List UInt8
 aliases : List (List UInt8)
 fields : List FT
 symbols : List (List UInt8)
 has : Bool
 dflt : List UInt8
 size : Int
 items : Int
 branches : List Int
def NT.cells (n : NT) : List PV := [.v (.int .i64 n.kind), .v (.string (str n.name)), .sl 1 (n.aliases.map sPV), .sl 9 (n.fields.map FT.cells), .sl 1 (n.symbols.map sPV), .v (.bool n.has), .v (.string (str n.dflt)), .v (.int .i64 n.size), .v (.int .i64 n.items), .sl 1 (n.branches.map iPV)]
structure ST where
 nodes : List NT
 root : Int
def ST.cells (s : ST) : List PV := [.sl 10 (s.nodes.map NT.cells), .v (.int .i64 s.root)]
def FT.av (f : FT) : AV := .agg (f.cells.map .c)
def NT.av (n : NT) : AV := .agg (n.cells.map .c)
def ST.av (s : ST) : AV := .agg (s.cells.map .c)
theorem FT.av_eq (f : FT) : f.av = .agg (f.cells.map .c) := rfl
theorem NT.av_eq (n : NT) : n.av = .agg (n.cells.map .c) := rfl
theorem ST.av_eq (s : ST) : s.av = .agg (s.cells.map .c) := rfl
theorem iPV_eq (n : Int) : iPV n = [.v (.int .i64 n)] := rfl
theorem ncells_mk (n : NT) : n.cells = [.v (.int .i64 n.kind), .v (.string (str n.name)), .sl 1 (n.aliases.map sPV), .sl 9 (n.fields.map FT.cells), .sl 1 (n.symbols.map sPV), .v (.bool n.has), .v (.string (str n.dflt)), .v (.int .i64 n.size), .v (.int .i64 n.items), .sl 1 (n.branches.map iPV)] := rfl
theorem scells_mk (s : ST) : s.cells = [.sl 10 (s.nodes.map NT.cells), .v (.int .i64 s.root)] := rfl
theorem fcells_mk (f : FT) : f.cells = .v (.string (str f.name)) :: .sl 1 (f.aliases.map sPV) :: .v (.int .i64 f.type) :: .v (.bool f.has) :: f.dflt.cells := rfl
theorem len_fcells (f : FT) : f.cells.length = 9 := by simp [FT.cells, len_cells]
theorem len_ncells (n : NT) : n.cells.length = 10 := rfl
theorem len_scells (s : ST) : s.cells.length = 2 := rfl
theorem take_fcells (f : FT) : f.cells.take 9 = f.cells := List.take_of_length_le (by rw [len_fcells]; exact Nat.le_refl _)
theorem take_fcellsC (f : FT) : (f.cells.map AV.c).take 9 = f.cells.map .c := List.take_of_length_le (by rw [List.length_map, len_fcells]; exact Nat.le_refl _)
theorem take_ncells (n : NT) : n.cells.take 10 = n.cells := rfl
theorem take_ncellsC (n : NT) : (n.cells.map AV.c).take 10 = n.cells.map .c := rfl
theorem take_scells (s : ST) : s.cells.take 2 = s.cells := rfl
theorem take_scellsC (s : ST) : (s.cells.map AV.c).take 2 = s.cells.map .c := rfl
/-! The order of a schema's nodes. -/
def namedK (k : Int) : Bool := k == 9 || k == 10 || k == 14
def kidsN (n : NT) : List Int := if n.kind = 9 then n.fields.map (·.type) else if n.kind = 11 ∨ n.kind = 12 then [n.items] else if n.kind = 13 then n.branches else []
def kindAt (ns : List NT) (k : Nat) : Int := match ns[k]? with | some n => n.kind | none => 0
def walkK (ns : List NT) (f : Nat → Bool × Nat) : List Int → Nat → Bool × Nat
 | [], p => (true, p)
 | k :: ks, p => if k = (p : Int) then (if (f p).1 = true then walkK ns f ks (f p).2 else (false, (f p).2)) else if k < 0 ∨ k > (p : Int) ∨ namedK (kindAt ns k.toNat) = false then (false, p) else walkK ns f ks p
def walkM (ns : List NT) : Nat → Nat → Bool × Nat
 | 0, p => (false, p)
 | d + 1, p => match ns[p]? with | none => (false, p) | some n => walkK ns (walkM ns d) (kidsN n) (p + 1)
def orderedM (s : ST) : Bool := decide (0 < s.nodes.length) && (decide (s.nodes.length ≤ 200) && (decide (s.root = 0) && ((walkM s.nodes 33 0).1 && decide ((walkM s.nodes 33 0).2 = s.nodes.length))))
theorem walkK_le (ns : List NT) (f : Nat → Bool × Nat) (hf : ∀ p, p ≤ ns.length → p ≤ (f p).2 ∧ (f p).2 ≤ ns.length) : ∀ (ks : List Int) (p : Nat), p ≤ ns.length → p ≤ (walkK ns f ks p).2 ∧ (walkK ns f ks p).2 ≤ ns.length
 | [], p, h => ⟨Nat.le_refl _, h⟩
 | k :: ks, p, h => by
   rw [walkK]
   have h1 := hf p h
   split
   · split
     · have h2 := walkK_le ns f hf ks (f p).2 h1.2
       omega
     · exact h1
   · split
     · exact ⟨Nat.le_refl _, h⟩
     · exact walkK_le ns f hf ks p h
theorem walkM_le (ns : List NT) : ∀ (d p : Nat), p ≤ ns.length → p ≤ (walkM ns d p).2 ∧ (walkM ns d p).2 ≤ ns.length
 | 0, p, h => ⟨Nat.le_refl _, h⟩
 | d + 1, p, h => by
   rw [walkM]
   split
   · exact ⟨Nat.le_refl _, h⟩
   · rename_i n hn
     have hp : p < ns.length := (List.getElem?_eq_some_iff.1 hn).1
     have := walkK_le ns _ (walkM_le ns d) (kidsN n) (p + 1) hp
     omega
def Stand (ns : List NT) (a b : Nat) : Prop :=
 (∀ (i : Nat) (n : NT), a ≤ i → i < b → ns[i]? = some n → ∀ k ∈ kidsN n, 0 ≤ k ∧ k < (b : Int) ∧ (k ≤ (i : Int) → namedK (kindAt ns k.toNat) = true)) ∧ (∀ i : Nat, a < i → i < b → ∃ (j : Nat) (n : NT), a ≤ j ∧ j < i ∧ ns[j]? = some n ∧ (i : Int) ∈ kidsN n)
def Met (ns : List NT) (a : Nat) (done : List Int) (b : Nat) : Prop :=
 a < b ∧ (∀ k ∈ done, 0 ≤ k ∧ k < (b : Int) ∧ (k ≤ (a : Int) → namedK (kindAt ns k.toNat) = true)) ∧ (∀ (i : Nat) (n : NT), a < i → i < b → ns[i]? = some n → ∀ k ∈ kidsN n, 0 ≤ k ∧ k < (b : Int) ∧ (k ≤ (i : Int) → namedK (kindAt ns k.toNat) = true))
  ∧ (∀ i : Nat, a < i → i < b → (i : Int) ∈ done ∨ ∃ (j : Nat) (n : NT), a < j ∧ j < i ∧ ns[j]? = some n ∧ (i : Int) ∈ kidsN n)
theorem walkK_met (ns : List NT) (f : Nat → Bool × Nat) (hf : ∀ p q, f p = (true, q) → p < q ∧ Stand ns p q) (a : Nat) : ∀ (ks : List Int) (done : List Int) (p q : Nat), Met ns a done p → walkK ns f ks p = (true, q) → Met ns a (done ++ ks) q
 | [], done, p, q, h, hw => by
   rw [walkK] at hw
   obtain rfl : p = q := (Prod.mk.inj hw).2
   rwa [List.append_nil]
 | k :: ks, done, p, q, h, hw => by
   rw [walkK] at hw
   obtain ⟨h0, h1, h2, h3⟩ := h
   have hc : done ++ k :: ks = (done ++ [k]) ++ ks := by simp
   rw [hc]
   split at hw
   · rename_i hk
     split at hw
     · rename_i hb
       obtain ⟨hlt, hs⟩ := hf p (f p).2 (by rw [← hb])
       refine walkK_met ns f hf a ks (done ++ [k]) (f p).2 q ⟨by omega, ?_, ?_, ?_⟩ hw
       · intro k' hk'
         rcases List.mem_append.1 hk' with h | h
         · have := h1 k' h
           exact ⟨this.1, by omega, this.2.2⟩
         · obtain rfl := List.mem_singleton.1 h
           exact ⟨by omega, by omega, fun h => by omega⟩
       · intro i n hi1 hi2 hn k' hk'
         by_cases hip : i < p
         · have := h2 i n hi1 hip hn k' hk'
           exact ⟨this.1, by omega, this.2.2⟩
         · exact hs.1 i n (by omega) hi2 hn k' hk'
       · intro i hi1 hi2
         by_cases hip : i < p
         · rcases h3 i hi1 hip with h | h
           · exact .inl (List.mem_append.2 (.inl h))
           · exact .inr h
         · by_cases hie : i = p
           · exact .inl (List.mem_append.2 (.inr (by rw [hie, hk]; simp)))
           · obtain ⟨j, n, hj1, hj2, hn, hm⟩ := hs.2 i (by omega) hi2
             exact .inr ⟨j, n, by omega, hj2, hn, hm⟩
     · simp at hw
   · rename_i hk
     split at hw
     · simp at hw
     · rename_i hc2
       refine walkK_met ns f hf a ks (done ++ [k]) p q ⟨h0, ?_, h2, ?_⟩ hw
       · intro k' hk'
         rcases List.mem_append.1 hk' with h | h
         · exact h1 k' h
         · obtain rfl := List.mem_singleton.1 h
           have hnn : namedK (kindAt ns k'.toNat) = true := by
            cases hb : namedK (kindAt ns k'.toNat) with
            | true => rfl
            | false => exact absurd (.inr (.inr hb)) hc2
           have : ¬ (k' < 0) := fun h => hc2 (.inl h)
           have : ¬ (k' > (p : Int)) := fun h => hc2 (.inr (.inl h))
           exact ⟨by omega, by omega, fun _ => hnn⟩
       · intro i hi1 hi2
         rcases h3 i hi1 hi2 with h | h
         · exact .inl (List.mem_append.2 (.inl h))
         · exact .inr h
theorem walkM_stand (ns : List NT) : ∀ (d p q : Nat), walkM ns d p = (true, q) → p < q ∧ Stand ns p q
 | 0, p, q, h => by simp [walkM] at h
 | d + 1, p, q, h => by
   rw [walkM] at h
   split at h
   · simp at h
   · rename_i n hn
     have hm := walkK_met ns _ (walkM_stand ns d) p (kidsN n) [] (p + 1) q ⟨by omega, by simp, fun i n h1 h2 => by omega, fun i h1 h2 => by omega⟩ h
     rw [List.nil_append] at hm
     obtain ⟨h0, h1, h2, h3⟩ := hm
     refine ⟨h0, ?_, ?_⟩
     · intro i n' hi1 hi2 hn' k hk
       by_cases hi : i = p
       · subst hi
         rw [hn] at hn'
         obtain rfl := Option.some.inj hn'
         exact h1 k hk
       · exact h2 i n' (by omega) hi2 hn' k hk
     · intro i hi1 hi2
       rcases h3 i hi1 hi2 with h | ⟨j, n', hj1, hj2, hn', hm⟩
       · exact ⟨p, n, by omega, hi1, hn, h⟩
       · exact ⟨j, n', by omega, hj2, hn', hm⟩
theorem ordered_stand {s : ST} (h : orderedM s = true) : Stand s.nodes 0 s.nodes.length := by
 unfold orderedM at h
 simp only [Bool.and_eq_true, decide_eq_true_eq] at h
 obtain ⟨_, _, _, h1, h2⟩ := h
 exact (walkM_stand s.nodes 33 0 _ (by rw [← h1, ← h2])).2
section
open Go.RowKit Go.Shelf
attribute [local go_sem] Oper.semAt_some
def upTo {α : Type} (f : Nat → α) (k : Nat) : List α := (List.range k).map f
theorem upTo_succ {α : Type} (f : Nat → α) (k : Nat) : upTo f (k + 1) = upTo f k ++ [f k] := by simp [upTo, List.range_succ]
theorem upTo_length {α : Type} (f : Nat → α) (k : Nat) : (upTo f k).length = k := by simp [upTo]
theorem upTo_all {α : Type} [Inhabited α] (zs : List α) (d : α) : upTo (fun j => zs[j]?.getD d) zs.length = zs := by
 apply List.ext_getElem
 · simp [upTo]
 · intro i h1 h2
   simp [upTo, h2]
theorem values1_in (F : Fence) (n : Nat) (h7 : F.fn 235) (hro : F.round = none) (hn : 1 ≤ n) (l Bs o n₀ b off len cap : Nat) (zs : List (List UInt8)) (hreach : len * 16 ≤ 140737488351232) (hb : b < n₀) (J Jx : List (List UInt8) → World → Prop)
  (hY : ∀ pre x W, J pre W → pre.length < len → YieldAt F (n - 1) Tryz.prog l #[.string (str x)] W fun e W' =>
   (e = .returned (.bool true) ∧ J (pre ++ [x]) W' ∧ Below n₀ W W') ∨ (e = .returned (.bool false) ∧ Jx (pre ++ [x]) W'))
  (W : World) (hBs : W.cell? ⟨Bs, o, none⟩ = some (.slice (some ⟨b, off, none⟩) len cap)) (hc : ∀ j, j < len → W.cell? ⟨b, off + j, none⟩ = some (.string (str (zs[j]?.getD [])))) (h0 : J [] W) :
  CallsIn F n Tryz.prog 235 #[.func (.yield l) #[] #[], .pointer (some ⟨Bs, o, none⟩)] W fun e W' => (∃ v, e = .returned v) ∧
   ((∃ ys, ys = upTo (fun j => zs[j]?.getD []) len ∧ J ys W') ∨ (∃ pre, (∃ k, k ≤ len ∧ pre = upTo (fun j => zs[j]?.getD []) k) ∧ Jx pre W')) := by
 refine callsIn_of_wp Tryz.func235 rfl h7 ?_ hro
 simp only [Tryz.ntmps235, List.size_toArray, List.length_cons, List.length_nil, Nat.reduceAdd, Nat.reduceSub, Array.replicate_succ, Array.replicate_zero, List.push_toArray, List.append_toArray, List.nil_append, List.cons_append]
 gi_wp2
 gi_loopw [7] (fun i wr => ∃ k : Nat, k ≤ len ∧ i = .int .i64 k ∧ J (upTo (fun j => zs[j]?.getD []) k) wr ∧ Below n₀ W wr)
  (fun i _ => len - (intOf i).toNat)
 case atStart => exact ⟨0, Nat.zero_le _, rfl, h0, Below.refl _ _⟩
 case round =>
  obtain ⟨k, hk, rfl, hJs, hnx⟩ := hrel
  have hcx : k < len → wr.cell? ⟨b, off + k, none⟩ = some (.string (str (zs[k]?.getD []))) := fun h => (hnx.cell (p := ⟨b, off + k, none⟩) hb).trans (hc k h)
  by_cases hlt : k < len
  · obtain ⟨fn, tmps, assign, body, hy, hR⟩ := hY _ (zs[k]?.getD []) wr hJs (by rw [upTo_length]; exact hlt)
    have hcx' := hcx hlt
    gi_wp2
    refine hR.mono ?_
    rintro e W3 (⟨rfl, hJ3, hk3⟩ | ⟨rfl, hJx3⟩)
    · gi_wp2
      go_roundw
      case rel => exact ⟨k + 1, by omega, by simp, by rw [upTo_succ]; exact hJ3, hnx.trans hk3⟩
      case measure => simp [intOf]; omega
    · gi_wp2
      refine bodyPost_ret (results_none rfl _ _ _) rfl ?_
      exact ⟨⟨_, rfl⟩, .inr ⟨_, ⟨k + 1, by omega, (upTo_succ _ _).symm⟩, hJx3⟩⟩
  · obtain rfl : k = len := by omega
    gi_wp2
    go_end0
    exact ⟨⟨_, rfl⟩, .inl ⟨_, rfl, hJs⟩⟩
theorem values1_nil_in (F : Fence) (n : Nat) (h7 : F.fn 235) (hro : F.round = none) (l Bs o : Nat) (J : List (List UInt8) → World → Prop) (W : World) (a : Option Addr) (c : Nat) (hBs : W.cell? ⟨Bs, o, none⟩ = some (.slice a 0 c)) (h0 : J [] W) :
  CallsIn F n Tryz.prog 235 #[.func (.yield l) #[] #[], .pointer (some ⟨Bs, o, none⟩)] W fun e W' => (∃ v, e = .returned v) ∧ J [] W' := by
 refine callsIn_of_wp Tryz.func235 rfl h7 ?_ hro
 simp only [Tryz.ntmps235, List.size_toArray, List.length_cons, List.length_nil, Nat.reduceAdd, Nat.reduceSub, Array.replicate_succ, Array.replicate_zero, List.push_toArray, List.append_toArray, List.nil_append, List.cons_append]
 gi_wp2
 gi_loopw [7] (fun i wr => i = .int .i64 0 ∧ J [] wr) (fun _ _ => 0)
 case atStart => exact ⟨rfl, h0⟩
 case round =>
  obtain ⟨rfl, hJs⟩ := hrel
  gi_wp2
  go_end0
  exact ⟨⟨_, rfl⟩, hJs⟩
theorem upTo_take (zs : List (List UInt8)) {k : Nat} (hk : k ≤ zs.length) : upTo (fun j => zs[j]?.getD []) k = zs.take k := by
 apply List.ext_getElem
 · simp [upTo, hk]
 · intro i h1 h2
   have : i < zs.length := by simp [upTo] at h1; omega
   simp [upTo, this]
def Strs (n₀ : Nat) (W : World) (sv : Value) (zs : List (List UInt8)) : Prop :=
 ∃ a cap, sv = .slice a zs.length cap ∧ (zs ≠ [] → ∃ b off, a = some ⟨b, off, none⟩ ∧ b < n₀ ∧ ∀ j, j < zs.length → W.cell? ⟨b, off + j, none⟩ = some (.string (str (zs[j]?.getD []))))
theorem Strs.below {n₀ : Nat} {A B : World} (h : Below n₀ A B) {sv : Value} {zs : List (List UInt8)} : Strs n₀ A sv zs → Strs n₀ B sv zs
 | ⟨a, cap, e, hc⟩ => ⟨a, cap, e, fun hn => by
   obtain ⟨b, off, h1, h2, h3⟩ := hc hn
   exact ⟨b, off, h1, h2, fun j hj => (h.cell (p := ⟨b, off + j, none⟩) h2).trans (h3 j hj)⟩⟩
theorem values_stops (F : Fence) (n : Nat) (h7 : F.fn 235) (hro : F.round = none) (hn : 1 ≤ n) (Bs o n₀ : Nat) (sv : Value) (zs : List (List UInt8)) (hreach : zs.length * 16 ≤ 140737488351232) (w : World) (hBs : Bs < w.heap.size) (hn₀ : n₀ ≤ w.heap.size)
  (hc : w.cell? ⟨Bs, o, none⟩ = some sv) (hI : Strs n₀ w sv zs) :
  SeqStopsK F n Tryz.prog 235 #[.pointer (some ⟨Bs, o, none⟩)] (fun x : List UInt8 => #[Value.string (str x)]) (Below n₀) (fun ys => ys = zs) (fun pre => pre <+: zs) zs.length w := fun l J Jx W hW _ _ hY h0 => by
 have hc' := (hW.cell (p := ⟨Bs, o, none⟩) hBs).trans hc
 obtain ⟨a, cap, rfl, hcs⟩ := hI.below (hW.mono hn₀)
 by_cases hz : zs = []
 · subst hz
   exact (values1_nil_in F n h7 hro l Bs o J W a cap hc' h0).mono fun e W' ⟨he, hj⟩ => ⟨he, .inl ⟨_, rfl, hj⟩⟩
 · obtain ⟨b, off, rfl, hb, hcs⟩ := hcs hz
   refine (values1_in F n h7 hro hn l Bs o n₀ b off zs.length cap zs hreach hb J Jx hY W hc' hcs h0).mono ?_
   rintro e W' ⟨he, ⟨ys, rfl, hj⟩ | ⟨pre, ⟨k, hk, rfl⟩, hj⟩⟩
   · exact ⟨he, .inl ⟨_, upTo_all zs _, hj⟩⟩
   · exact ⟨he, .inr ⟨_, by rw [upTo_take zs hk]; exact List.take_prefix _ _, hj⟩⟩
def sV (s : List UInt8) : Value := .string (str s)
theorem sinfo : (Tryz.prog.info? 9).map (fun i => (i.zero, i.size, i.bytes)) = some (some (.string ⟨#[]⟩), 1, 16) := by kernel_rfl
theorem appendSeq_in (F : Fence) (n : Nat) (h3 : F.fn 243) (h7 : F.fn 235) (hro : F.round = none) (hn : 3 ≤ n) (Bs o : Nat) (sv : Value) (zs : List (List UInt8)) (hlen : zs.length ≤ maxLen) (hbytes : zs.length * 16 ≤ 140737488351232) (w : World) (hBs : Bs < w.heap.size)
  (hc : w.cell? ⟨Bs, o, none⟩ = some sv) (hI : Strs w.heap.size w sv zs) :
  CallsIn F n Tryz.prog 243 #[.slice none 0 0, .func (.func 235) #[] #[.pointer (some ⟨Bs, o, none⟩)]] w fun e W' => ∃ v, e = .returned v ∧ W'.ownsRow w.heap.size 9 1 v zs.length (zs.map sV) ∧ Below w.heap.size w W' := by
 have h1 : 1 ≤ n := by omega
 obtain ⟨i0, hi, hz0, hz1, hz2⟩ := info_parts sinfo
 refine callsIn_of_wp_marks Tryz.func243 rfl h3 ?_ hro
 simp only [Tryz.ntmps243, List.size_toArray, List.length_cons, List.length_nil, Nat.reduceAdd, Nat.reduceSub, Array.replicate_succ, Array.replicate_zero, List.push_toArray, List.append_toArray, List.nil_append, List.cons_append]
 gi_wp2
 have bO := Boxed.new w 29 (.slice none 0 0)
 have hB0 : Below w.heap.size w (w.alloc (.cells #[.slice none 0 0] 29)) := (Below.refl _ w).alloc (Nat.le_refl _) _
 refine wpIn_rangeFunc_ownG hro h1 (gf := 235) (lb := #[.pointer (some ⟨Bs, o, none⟩)]) rfl h7 (enters_of Tryz.func235 (by kernel_rfl) rfl)
  (values_stops F (n - 1) h7 hro (by omega) Bs o w.heap.size sv zs hbytes _ (by simp; omega) (by simp) ((hB0.cell (p := ⟨Bs, o, none⟩) hBs).trans hc) (hI.below hB0)) belowK_t (belowK_b (by simp)) (Below.refl _ _) (fun _ => rfl)
  (fun pre W => (∃ v, Boxed W w.heap.size 29 v ∧ W.ownsRow w.heap.size 9 1 v pre.length (pre.map sV) ∧ (v = .slice none 0 0 ↔ pre = [])) ∧ Below w.heap.size w W)
  (fun _ _ _ => False)
  (OwnFrom.and (Own.from (holdsRow_own w.heap.size w.heap.size 29 9 1 (fun pre => pre.length) (fun pre => pre.map sV) (fun pre v => v = .slice none 0 0 ↔ pre = [])) _) (ownFrom_below (Nat.le_refl _) (by simp)))
  (fun _ _ _ _ _ hs _ _ => hs)
  ⟨⟨_, bO, World.ownsRow_nil _ _ _ _, by simp⟩, hB0⟩
  (fun x => { tmps := #[.slice none 0 0, .func (.func 235) #[] #[.pointer (some ⟨Bs, o, none⟩)], .pointer (some ⟨w.heap.size, 0, none⟩), undef, .slice none 0 0, .string (str x), .func (.func 235) #[] #[.pointer (some ⟨Bs, o, none⟩)], .string (str x), undef, undef, undef, undef, undef], defers := [] }) ?assign ?body ?done ?stop
 case assign =>
  intro l x W K hK
  gi_wp2
  exact hK
 case body =>
  rintro l pre x W ⟨⟨v, hv, hrow, hnil⟩, hB⟩ hlt
  have hc := hv.cell
  gi_wp2_with (gi_at_builtin; refine wpListIn_append_own _ rfl _ _ 29 rfl w.heap.size 9 i0 (.string ⟨#[]⟩) 1 16 Tryz.underlying29 hi hz0 hz1 hz2 rfl (by decide) _ _ _ rfl (hrow.alloc _) ⟨W.heap.size, 0, none⟩ 1 1 [.string (str x)] rfl rfl (cell_one_new _ _ _) (by simp [Value.oneCell']) (by omega) (by omega) (by have := hB.size; simp; omega) ?_; intro v' w1 hown' hgrow _; obtain ⟨g', cap', rfl⟩ := ownsRow_succ hown'; obtain ⟨hv1, hv2, hr2, hk2, hb2⟩ := hv.appended (by decide) hrow hB.size (Nat.le_refl _) hown' hgrow; have hc1 := hv1.cell; have hf1 := hv1.frozen)
  exact ⟨hk2.from _, hb2, ⟨_, hv2, by simpa [sV] using hr2, by simp⟩, hB.trans hb2⟩
 case done =>
  rintro D ys W hD rfl ⟨⟨v, hv, hrow, hnil⟩, hB⟩ hK
  have hc := hv.cell
  gi_wp2
  refine ⟨by simp, .inl ⟨_, _, rfl, run_takeDeferred hK, ?_⟩⟩
  exact ⟨_, results_tmp rfl _ _ _, v, rfl, ownsRow_putObj hrow _ hK rfl, hB.trans (belowK_b (w := w) (Nat.le_refl _) W D _ _ (by simp at hD; omega) hK rfl rfl)⟩
 case stop =>
  rintro D c pre W _ _ h _
  exact h.elim
theorem appendSeq_plain (Bs o : Nat) (sv : Value) (zs : List (List UInt8)) (hlen : zs.length ≤ maxLen) (hbytes : zs.length * 16 ≤ 140737488351232) (w : World) (hBs : Bs < w.heap.size)
  (hc : w.cell? ⟨Bs, o, none⟩ = some sv) (hI : Strs w.heap.size w sv zs) :
  Calls Tryz.prog 243 #[.slice none 0 0, .func (.func 235) #[] #[.pointer (some ⟨Bs, o, none⟩)]] w fun e W' => ∃ v, e = .returned v ∧ W'.ownsRow w.heap.size 9 1 v zs.length (zs.map sV) ∧ Below w.heap.size w W' :=
 calls_of_every_depth (L := [243, 235]) (n := 3) fun D => appendSeq_in _ 3 (by simp [Fence.list]) (by simp [Fence.list]) rfl (Nat.le_refl _) Bs o sv zs hlen hbytes w hBs hc hI
end
section
open Go.RowKit Go.Sort
def sA (l : List (List UInt8)) : List (List AV) := l.map fun s => [AV.c (.v (.string (str s)))]
def sB (l : List (List UInt8)) : Blkd := ⟨true, 9, 1, sA l⟩
theorem sA_len (l : List (List UInt8)) : (sA l).length = l.length := by simp [sA]
theorem sA_ren (ρ : Nat → Nat) (l : List (List UInt8)) : (sA l).map (AV.renL ρ) = sA l := by
 induction l with
 | nil => rfl
 | cons x l ih => show AV.renL ρ _ :: (sA l).map _ = _; rw [ih]; rfl
theorem sA_sc {used : Nat → Prop} {h : Nat → Option Blkd} (l : List (List UInt8)) : (∀ e ∈ sA l, ∀ x ∈ e, Sc used h x) = True := eq_true fun e he x hx => by
 obtain ⟨b, _, rfl⟩ := List.mem_map.1 he
 simp at hx
 subst hx
 exact .c
theorem sA_flat (l : List (List UInt8)) : (sA l).flatten = l.map fun s => AV.c (.v (.string (str s))) := by
 induction l with
 | nil => rfl
 | cons x l ih => show _ ++ (sA l).flatten = _; rw [ih]; rfl
theorem own_of_brep {W : World} {ro : Nat → Prop} {φ : Nat → Value} {h : Nat → Option Blkd} {j : Nat} {l : List (List UInt8)} (hB : BRep W ro φ h j (sB l)) : W.ownsRow 0 9 1 (φ j) l.length (l.map sV) := by
 obtain ⟨h1, h2, vs, h3, h4⟩ := hB
 rw [if_pos (show (sB l).row = true from rfl)] at h4
 have hvs : vs = l.map sV := by
  have h5 : RepL W ro φ h (l.map fun s => AV.c (.v (.string (str s)))) vs := by rw [← sA_flat]; exact h3
  apply List.ext_getElem?
  intro k
  by_cases hk : k < l.length
  · have hkv : k < vs.length := by rw [h5.1]; simpa using hk
    have := h5.2 k _ _ (by rw [List.getElem?_map, List.getElem?_eq_getElem hk]; rfl) (List.getElem?_eq_getElem hkv)
    rw [List.getElem?_eq_getElem hkv, rep_prim this, List.getElem?_map, List.getElem?_eq_getElem hk]
    rfl
  · rw [List.getElem?_eq_none (by rw [h5.1]; simpa using hk), List.getElem?_eq_none (by simpa using hk)]
 subst hvs
 have : (sB l).len = l.length := sA_len l
 rw [this] at h4
 exact h4
theorem brep_of_own {W : World} {ro : Nat → Prop} {φ : Nat → Value} {h : Nat → Option Blkd} {j : Nat} {l : List (List UInt8)} (ho : W.ownsRow 0 9 1 (φ j) l.length (l.map sV)) : BRep W ro φ h j (sB l) := by
 refine ⟨fun i e he => ?_, fun e he x hx => ?_, l.map sV, ?_, ?_⟩
 · obtain ⟨s, _, rfl⟩ := List.mem_map.1 (List.mem_of_getElem? he)
   rfl
 · obtain ⟨s, _, rfl⟩ := List.mem_map.1 he
   simp at hx
   subst hx
   rfl
 · show RepL W ro φ h (sA l).flatten _
   rw [sA_flat]
   refine ⟨by simp, fun k x v hx hv => ?_⟩
   rw [List.getElem?_map] at hx hv
   obtain ⟨s, h1, rfl⟩ := Option.map_eq_some_iff.1 hx
   rw [h1] at hv
   obtain rfl := Option.some.inj hv
   exact .c (.v rfl)
 · rw [if_pos (show (sB l).row = true from rfl)]
   have : (sB l).len = l.length := sA_len l
   rw [this]
   exact ho
theorem hok_one {W : World} {ro : Nat → Prop} {φ : Nat → Value} {B : Blkd} (hB : BRep W ro φ (LentL [some B]) 1000000 B) (ho : ∀ b, blkOf (φ 1000000) = some b → ¬ ro b) : HOk W ro φ (LentL [some B]) := by
 have key : ∀ j B1, LentL [some B] j = some B1 → j = 1000000 ∧ B1 = B := by
  intro j B1 hj
  obtain ⟨h1, h2⟩ := lentL_some hj
  have h3 := (List.getElem?_eq_some_iff.1 h2).1
  simp at h3
  obtain rfl : j = 1000000 := by omega
  simp at h2
  exact ⟨rfl, h2.symm⟩
 refine ⟨fun j B1 hj => ?_, fun j k B1 B2 b hj hk hne => ?_, fun j B1 b hj hb => ?_⟩
 · obtain ⟨rfl, rfl⟩ := key j B1 hj
   exact hB
 · exact absurd ((key j B1 hj).1.trans (key k B2 hk).1.symm) hne
 · obtain ⟨rfl, rfl⟩ := key j B1 hj
   exact ho b hb
theorem row_arg {W : World} {ro : Nat → Prop} {φ : Nat → Value} {B : Blkd} {vs : List Value} {n : Nat} (hn : B.len = n) (hl : RepL W ro φ (LentL ([B].map some)) [.row 1000000 n] vs) : vs = [φ 1000000] := by
 obtain ⟨h1, h2⟩ := hl
 match vs, h1, h2 with
 | [v], _, h2 =>
   have := h2 0 _ v rfl rfl
   cases this with
   | row _ hv => rw [hv B (by simp [LentL]) hn]
def srt (l : List (List UInt8)) : List (List UInt8) := l.mergeSort fun x y => decide (x ≤ y)
theorem srt_len (l : List (List UInt8)) : (srt l).length = l.length := by simp [srt]
theorem appendSeq_told (l : List (List UInt8)) (hl : l.length ≤ 4294967296) :
  ToldM Tryz.prog 243 [.c (.v (.slice none 0 0)), .fn (.func 235) [] [.pp [.sl 1 (l.map sPV)]]] [] [some (sB l)] (.row 1000000 l.length) := by
 refine ⟨ent_243, trivial, ⟨?_, ?_⟩, fun W ro φ vs hro hgk hal hok => ?_⟩
 · exact .row ⟨by omega, by simp⟩ fun B hB => by simp [LentL] at hB; subst hB; exact Nat.le_of_eq (sA_len l).symm
 · intro b hb B hB e he
   simp at hb
   subst hb
   obtain rfl := Option.some.inj hB
   exact fun x hx => (of_eq_true (sA_sc l)) e he x hx
 · obtain ⟨h1, h2⟩ := hal
   match vs, h1, h2 with
   | [v0, v1], _, h2 =>
     have e0 := rep_prim (h2 0 _ v0 rfl rfl)
     have e1 := h2 1 _ v1 rfl rfl
     subst e0
     cases e1 with
     | @fn _ _ _ us us' q1 q2 q3 q4 =>
       obtain rfl : us = [] := List.eq_nil_of_length_eq_zero q1
       match us', q3, q4 with
       | [p], _, q4 =>
         have e2 := q4 0 _ p rfl rfl
         cases e2 with
         | @pp _ b off vs hb hc hp =>
           match vs, hp with
           | [sv], hp =>
             have hsv := hp.2 0 _ sv rfl rfl
             have hcell : W.cell? ⟨b, off, none⟩ = some sv := by have := hc 0 (by simp); simpa using this
             have hS : Strs W.heap.size W sv l := by
              cases hsv with
              | @sl _ _ a c vss hn hcc hnil ha hll hz hz' hx =>
                refine ⟨a, c, by simp, fun hne => ?_⟩
                obtain ⟨b', off', rfl, hb', hcs⟩ := ha (by simpa using hne)
                refine ⟨b', off', rfl, hro b' hb', fun j hj => ?_⟩
                have hjv : j < vss.length := by rw [hll]; simpa using hj
                have hvj := List.getElem?_eq_getElem hjv
                have hlen := hz' j _ hvj
                have hx1 := hx j 0 (sPV l[j]) vss[j] (.v (.string (str l[j]))) (vss[j]'hjv)[0] (by rw [List.getElem?_map, List.getElem?_eq_getElem hj]; rfl) hvj rfl (List.getElem?_eq_getElem _)
                have hcc := hcs j _ hvj 0 (by omega)
                rw [List.getElem?_eq_getElem (by omega)] at hcc
                have hxe := rep_prim (h := h0) (φ := φ0) (.c hx1)
                rw [Nat.mul_one, Nat.add_zero] at hcc
                rw [hcc, hxe, List.getElem?_eq_getElem hj]
                rfl
             refine (appendSeq_plain b off sv l (by unfold maxLen; omega) (by omega) W (hro b hb) hcell hS).mono ?_
             rintro e W' ⟨v, rfl, hown, hbel⟩
             have hlt := World.ownsRow.lt hown
             refine ⟨v, ro, fun _ => v, rfl, ⟨hbel.os, hbel.tape, hbel.output, hbel.size, fun k hk _ => hbel.block k hk⟩, fun b h => h, fun b h => ⟨.inl h, Nat.lt_of_lt_of_le (hro b h) hbel.size⟩, ?_, ?_, ?_, ?_⟩
             · exact .row (by rcases hown.2 with ⟨q, _⟩ | ⟨_, _, _, q, _⟩ <;> rw [q] <;> rfl) fun B hB hn => rfl
             · refine hok_one (brep_of_own ?_) fun b hb' hrb => ?_
               · refine ⟨hown.1, ?_⟩
                 rcases hown.2 with h9 | ⟨g, cap, cur, h9, _, h10⟩
                 · exact .inl h9
                 · exact .inr ⟨g, cap, cur, h9, Nat.zero_le _, h10⟩
               · have := (hlt b (by rw [← own_blk hown]; exact hb')).1
                 have := hro b hrb
                 omega
             · intro j B' hj; exact absurd hj.2 (by have := hj.1; simp; omega)
             · intro j B b hj hb'
               exact .inl (hlt b (by rw [← own_blk hown]; exact hb')).1
theorem sort_told (l : List (List UInt8)) (hl : l.length ≤ 4294967296) : ToldM Tryz.prog 234 [.row 1000000 l.length] [sB l] [some (sB (srt l))] (.tup []) := by
 refine ⟨ent_234, ⟨rfl, trivial⟩, ⟨.tup (by simp), ?_⟩, fun W ro φ vs hro hgk hal hok => ?_⟩
 · intro b hb B hB e he
   simp at hb
   subst hb
   obtain rfl := Option.some.inj hB
   exact fun x hx => (of_eq_true (sA_sc (srt l))) e he x hx
 · obtain rfl := row_arg (B := sB l) (sA_len l) hal
   have hlen : LentL ([sB l].map some) 1000000 = some (sB l) := by simp [LentL]
   have hown := own_of_brep (hok.hp 1000000 _ hlen)
   have fin : ∀ W', W.grownBy W' (φ 1000000).ownBlock → W'.ownsRow 0 9 1 (φ 1000000) (srt l).length ((srt l).map sV) →
     ∃ v ro' φ', Ending.returned (.tuple #[]) = .returned v ∧ Keeps (fun b => ∃ j B, LentL ([sB l].map some) j = some B ∧ blkOf (φ j) = some b) W W' ∧ (∀ b, ro b → ro' b) ∧
      (∀ b, ro' b → (ro b ∨ W.heap.size ≤ b ∨ ∃ j B, LentL ([sB l].map some) j = some B ∧ blkOf (φ j) = some b) ∧ b < W'.heap.size) ∧ Rep W' ro' φ' (LentL [some (sB (srt l))]) (.tup []) v ∧ HOk W' ro' φ' (LentL [some (sB (srt l))]) ∧
      Goes (inL [sB l].length) φ φ' (LentL ([sB l].map some)) (LentL [some (sB (srt l))]) ∧ (∀ j B b, LentL [some (sB (srt l))] j = some B → blkOf (φ' j) = some b → W.heap.size ≤ b ∨ ∃ j B, LentL ([sB l].map some) j = some B ∧ blkOf (φ j) = some b) := by
    intro W' hg ho
    refine ⟨_, ro, φ, rfl, ⟨hg.os, hg.tape, hg.output, hg.size, fun k hk hm => hg.block k hk fun e => hm ⟨1000000, _, hlen, by rw [own_blk hown, e]⟩⟩, fun b h => h, fun b h => ⟨.inl h, Nat.lt_of_lt_of_le (hro b h) hg.size⟩, .tup (vs := []) rfl (by simp), hok_one (brep_of_own ho) fun b hb => hok.own 1000000 _ b hlen hb, ?_, ?_⟩
    · intro j B' hj hB'
      obtain rfl : j = 1000000 := by have := hj.1; have := hj.2; simp at this; omega
      simp [LentL] at hB'
      subst hB'
      exact ⟨_, hlen, .inr ⟨by show (sA l).length = (sA (srt l)).length; rw [sA_len, sA_len, srt_len], rfl, rfl⟩⟩
    · intro j B b hj hb
      obtain ⟨h1, h2⟩ := lentL_some hj
      have h3 := (List.getElem?_eq_some_iff.1 h2).1
      simp at h3
      obtain rfl : j = 1000000 := by omega
      exact .inr ⟨1000000, _, hlen, hb⟩
   rcases hown.2 with ⟨h1, h2⟩ | ⟨g, cap, cur, h1, _, h2, h3, h4, h5, h6⟩
   · obtain rfl : l = [] := List.eq_nil_of_length_eq_zero h2
     rw [h1]
     refine (Tryz.slices_Sort_string_none none 0 W).mono ?_
     rintro e W' ⟨rfl, rfl⟩
     exact fin W' ⟨rfl, rfl, rfl, Nat.le_refl _, fun _ _ _ => rfl⟩ (by rw [show srt [] = [] from by simp [srt]]; exact hown)
   · have hH : Holds encStr W g 0 l.toArray := holds_of_block h2 (by rw [← Nat.mul_one l.length]; exact h6)
     rw [h1]
     refine (Tryz.slices_Sort_string g 0 cap l W hH (Array.getElem?_eq_some_iff.1 h2).1 (by omega)).mono ?_
     rintro e W' ⟨rfl, n, os, rfl⟩
     refine fin _ ?_ ?_
     · rw [h1]; exact grownBy_sorted _
     · rw [h1]
       have := ownsRow_sorted (n := n) (os := os) (ts := srt l) (srt_len l) (Nat.zero_le g) h2 h3 h4 h5
       rw [srt_len]
       exact this
theorem lentL_gone (j : Nat) : LentL [none] j = none := by
 unfold LentL
 split
 · cases h : j - 1000000 with
   | zero => rfl
   | succ k => rfl
 · rfl
theorem compact_len (l : List (List UInt8)) : (Lib.compact l).length ≤ l.length := by
 unfold Lib.compact Lib.compactUpTo
 rw [List.length_map]
 exact Nat.le_trans (List.length_filter_le _ _) (by simp)
theorem compact_told (l : List (List UInt8)) (hl : l.length ≤ 4294967296) : ToldM Tryz.prog 220 [.row 1000000 l.length] [sB l] [none] (.c (.sl 1 ((Lib.compact l).map sPV))) := by
 refine ⟨ent_220, trivial, ⟨.c, fun b hb B hB => by simp at hb; subst hb; simp at hB⟩, fun W ro φ vs hro hgk hal hok => ?_⟩
 obtain rfl := row_arg (B := sB l) (sA_len l) hal
 have hlen : LentL ([sB l].map some) 1000000 = some (sB l) := by simp [LentL]
 have hown := own_of_brep (hok.hp 1000000 _ hlen)
 have hbl : ∀ b, blkOf (φ 1000000) = some b → b < W.heap.size := fun b hb => (World.ownsRow.lt hown b (by rw [← own_blk hown]; exact hb)).2
 have fin : ∀ (W' : World) (u : Value), W.grownBy W' (φ 1000000).ownBlock → PRep W' (fun b => ro b ∨ blkOf (φ 1000000) = some b) (.sl 1 ((Lib.compact l).map sPV)) u →
   ∃ v ro' φ', Ending.returned u = .returned v ∧ Keeps (fun b => ∃ j B, LentL ([sB l].map some) j = some B ∧ blkOf (φ j) = some b) W W' ∧ (∀ b, ro b → ro' b) ∧
    (∀ b, ro' b → (ro b ∨ W.heap.size ≤ b ∨ ∃ j B, LentL ([sB l].map some) j = some B ∧ blkOf (φ j) = some b) ∧ b < W'.heap.size) ∧ Rep W' ro' φ' (LentL [none]) (.c (.sl 1 ((Lib.compact l).map sPV))) v ∧ HOk W' ro' φ' (LentL [none]) ∧
    Goes (inL [sB l].length) φ φ' (LentL ([sB l].map some)) (LentL [none]) ∧ (∀ j B b, LentL [none] j = some B → blkOf (φ' j) = some b → W.heap.size ≤ b ∨ ∃ j B, LentL ([sB l].map some) j = some B ∧ blkOf (φ j) = some b) := by
  intro W' u hg hu
  refine ⟨u, _, φ, rfl, ⟨hg.os, hg.tape, hg.output, hg.size, fun k hk hm => hg.block k hk fun e => hm ⟨1000000, _, hlen, by rw [own_blk hown, e]⟩⟩, fun b h => .inl h, fun b h => ?_, .c hu, ⟨fun j B hj => ?_, fun j k B B' b hj => ?_, fun j B b hj => ?_⟩, fun j B hj hB => ?_, fun j B b hj => ?_⟩
  · rcases h with h | h
    · exact ⟨.inl h, Nat.lt_of_lt_of_le (hro b h) hg.size⟩
    · exact ⟨.inr (.inr ⟨1000000, _, hlen, h⟩), Nat.lt_of_lt_of_le (hbl b h) hg.size⟩
  all_goals first | (rw [lentL_gone] at hj; simp at hj) | (rw [lentL_gone] at hB; simp at hB)
 rcases hown.2 with ⟨h1, h2⟩ | ⟨g, cap, cur, h1, _, h2, h3, h4, h5, h6⟩
 · obtain rfl : l = [] := List.eq_nil_of_length_eq_zero h2
   rw [h1]
   refine (Tryz.slices_Compact_string_empty none 0 W).mono ?_
   rintro e W' ⟨rfl, rfl⟩
   exact fin W' _ ⟨rfl, rfl, rfl, Nat.le_refl _, fun _ _ _ => rfl⟩ (PRep.nil _ _ _)
 · have hH : Holds encStr W g 0 l.toArray := holds_of_block h2 (by rw [← Nat.mul_one l.length]; exact h6)
   rw [h1]
   refine (Tryz.slices_Compact_string g 0 cap l W hH (by omega) h3).mono ?_
   rintro e W' ⟨rfl, q, rfl⟩
   obtain ⟨ts, hts⟩ : ∃ ts, ts = Lib.compact l ++ List.replicate (l.length - (Lib.compact l).length) [] := ⟨_, rfl⟩
   have hcl := compact_len l
   have htl : ts.length = l.length := by rw [hts]; simp; omega
   rw [← hts]
   have hg := grownBy_sorted (w := W) (g := g) (n := q) (os := #[]) ts.toArray
   have ho := ownsRow_sorted (n := q) (os := #[]) (ts := ts) htl (Nat.zero_le g) h2 h3 h4 h5
   rw [grow_empty] at hg ho
   refine fin _ _ (by rw [h1]; exact hg) ?_
   rcases ho.2 with ⟨h7, _⟩ | ⟨g', cap', cur', h7, _, h8, h9, h10, h11, h12⟩
   · simp at h7
   · obtain ⟨rfl, rfl⟩ : g = g' ∧ cap = cap' := by simpa using h7
     have hm : ((Lib.compact l).map sPV).length = (Lib.compact l).length := by simp
     rw [← hm]
     refine .sl (vss := (Lib.compact l).map fun s => [sV s]) (by rw [hm]; omega) (by unfold maxLen at h4; omega) (fun h => by simp at h) (fun hne => ⟨g, 0, rfl, .inr (by rw [h1]; rfl), fun i vs hi => ?_⟩) (by simp) (fun i e he => ?_) (fun i vs hi => ?_) (fun i j e vs p v he hvs hp hv => ?_)
     · rw [List.getElem?_map] at hi
       obtain ⟨s, h13, rfl⟩ := Option.map_eq_some_iff.1 hi
       intro j hj
       obtain rfl : j = 0 := by simpa using hj
       have h14 : (cur'.toList.take (l.length * 1))[i]? = some (sV s) := by
        rw [h12, List.getElem?_map, hts, List.getElem?_append_left (List.getElem?_eq_some_iff.1 h13).1, h13]; rfl
       have hi2 : i < l.length := by have := (List.getElem?_eq_some_iff.1 h13).1; omega
       rw [List.getElem?_take_of_lt (by omega)] at h14
       have := cells_of_take h8 (l.length * 1) i (by rw [List.length_take]; simp; omega)
       rw [Nat.zero_add, List.getElem?_take_of_lt (by omega), h14] at this
       simpa using this
     · obtain ⟨s, _, rfl⟩ := List.mem_map.1 (List.mem_of_getElem? he); rfl
     · obtain ⟨s, _, rfl⟩ := List.mem_map.1 (List.mem_of_getElem? hi); rfl
     · rw [List.getElem?_map] at he hvs
       obtain ⟨s, h13, rfl⟩ := Option.map_eq_some_iff.1 he
       rw [h13] at hvs
       obtain rfl := Option.some.inj hvs
       match j, hp, hv with
       | 0, hp, hv =>
         obtain rfl := Option.some.inj hp
         obtain rfl := Option.some.inj hv
         exact .v rfl
end

def idxP {α : Type} (p : α → Bool) (l : List α) : Int := match l.findIdx? p with | some i => (i : Int) | none => -1
theorem idxP_at {α : Type} {p : α → Bool} {l : List α} {i : Nat} {x : α} (h : l[i]? = some x) (hx : p x = true) (h0 : ∀ j y, j < i → l[j]? = some y → p y = false) : idxP p l = (i : Int) := by
 unfold idxP
 obtain ⟨hlt, he⟩ := List.getElem?_eq_some_iff.1 h
 have : l.findIdx? p = some i := by
  rw [List.findIdx?_eq_some_iff_getElem]
  refine ⟨hlt, by rw [he]; exact hx, fun j hj => ?_⟩
  have := h0 j _ hj (List.getElem?_eq_getElem (by omega))
  simp [this]
 rw [this]
theorem idxP_none {α : Type} {p : α → Bool} {l : List α} (h0 : ∀ j y, j < l.length → l[j]? = some y → p y = false) : idxP p l = -1 := by
 unfold idxP
 have : l.findIdx? p = none := by
  rw [List.findIdx?_eq_none_iff]
  intro x hx
  obtain ⟨j, hj, he⟩ := List.getElem_of_mem hx
  exact h0 j x hj (by rw [List.getElem?_eq_getElem hj, he])
 rw [this]
theorem idxP_any {α : Type} (p : α → Bool) (l : List α) : decide (idxP p l ≥ 0) = l.any p := by
 unfold idxP
 cases h : l.findIdx? p with
 | some i =>
   have := (List.findIdx?_eq_some_iff_getElem.1 h)
   obtain ⟨h1, h2, _⟩ := this
   have h3 : l.any p = true := List.any_eq_true.2 ⟨l[i], List.getElem_mem _, h2⟩
   rw [h3]
   simp
 | none =>
   rw [List.findIdx?_eq_none_iff] at h
   have h3 : l.any p = false := List.any_eq_false.2 fun x hx => by simpa using h x hx
   rw [h3]
   rfl
theorem sc_pureL {used : Nat → Prop} {h : Nat → Option Blkd} {l : List AV} (hp : AV.pureL l = true) : (∀ x ∈ l, Sc used h x) = True := eq_true fun x hx => (pure_ofL l hp x hx).sc
theorem pureL_app (l m : List AV) : AV.pureL (l ++ m) = (AV.pureL l && AV.pureL m) := by
 induction l with
 | nil => simp [AV.pureL]
 | cons x l ih => simp [AV.pureL, ih, Bool.and_assoc]
section
attribute [local go_sem] opx opE ev okx gcond bnd okO AV.get AV.okb cAV upd_at putd_some putd_none wrs_nil wrs_cons look_nil look_cons st argT_at bpick_and bpick_or bpick_true bpick_false binV binI binS binVOk binOk isShift binSOk unV unVOk loadV loadP cellsA zeroA Blkd.len setE grown moreA moreR moreOk eqRes pv fillA fillE putSeg AV.cellish AV.pureL AV.pureB lentL_is ex_some AV.ren AV.renL renL_c Blkd.ren rho wrM renN lentOk rhoE keepM endOk tyA_2 tyA_3 tyA_4 tyA_5 tyA_6 tyA_7 tyA_8 tyA_9 tyA_10 tyA_11 tyA_12 tyA_13 tyA_14 tyA_15 tyA_16 tyA_17 tyA_18 tyA_19 tyA_21 tyA_22 tyA_23 tyA_24 tyA_29 tyA_30 tyA_31 tyA_32 tyA_33 tyA_34 tyA_35 tyA_36 tyA_37 tyA_38 tyA_39 tyA_40 tyA_41 tyA_42 tyA_43 tyA_48 tyA_72 tyA_76 tyA_85 tyA_86 tyA_87 tyA_88 tyA_97 tyA_100 tyA_101 tyA_102 tyA_103 tyA_104 tyA_105 tyA_106 tyA_128 tyA_137 tyA_138 tyA_139 tyA_140 tyA_141 tyA_142 tyA_147 tyA_148 tyA_149 tyA_167 tyA_168 tyA_169 tyA_170 tyA_172 tyA_176 tyA_177 tyA_178 tyA_186 tyA_196 tyA_231 tyA_232 tyA_233 tyA_257 tyA_262 tyA_268 tyA_270 tyA_272 tyA_281 tyA_285 tyA_287 tyA_290 tyA_291 tyA_292 tyA_293 tyA_294 tyA_295 tyA_296 tyA_298 tyA_299 Option.map_some Option.map_none Option.getD_some Option.getD_none Option.bind_some Option.bind_none List.getElem?_cons_zero List.getElem?_cons_succ List.getElem?_nil List.getElem?_toArray List.length_cons List.length_nil List.length_map List.forall_mem_map List.map_cons List.map_nil List.drop_zero List.drop_succ_cons List.drop_nil List.take_zero List.take_succ_cons List.take_nil List.mem_cons List.not_mem_nil or_false forall_eq_or_imp forall_eq List.set_cons_zero List.set_cons_succ List.cons_append List.nil_append List.append_nil List.foldl_cons List.foldl_nil List.replicate_succ List.replicate_zero List.all_cons List.all_nil if_true if_false Bool.false_eq_true ne_eq not_false_eq_true not_true_eq_false true_and and_true and_self true_implies imp_self implies_true forall_const beq_self_eq_true Bool.and_true Bool.true_and Bool.and_false Bool.false_and Bool.or_true Bool.true_or Bool.or_false Bool.false_or Bool.not_true Bool.not_false Bool.not_eq_eq_eq_not intKindOf Value.oneCell' Int.toNat_natCast beq_true beq_false Bool.not_eq_true false_implies false_or true_or or_true Nat.zero_add Nat.add_zero decide_true decide_false Int.cast_ofNat_Int Int.toNat_zero Int.toNat_one eq_self

theorem ixfS_told {g : FuncId} {fs cs : List AV} (hp : AV.pureL fs = true) (hp' : AV.pureL cs = true) (l : List (List UInt8)) (p : List UInt8 → Bool) (hk : ∀ x ∈ l, Told Tryz.prog g (fs ++ ([.c (.v (.string (str x)))] ++ cs)) (.c (.v (.bool (p x))))) :
  Told Tryz.prog 212 [.c (.sl 1 (l.map sPV)), .fn (.func g) fs cs] (.c (.v (.int .i64 (idxP p l)))) := by
 refine VC.told ent_212 Tryz.func212 rfl Tryz.ntmps212 (by simp) (by simp [AV.pureB, AV.pureL, hp, hp']) rfl fun hb => ?_
 simp only [List.mem_cons, List.not_mem_nil, or_false, forall_eq_or_imp, forall_eq, abd_c, pbd_sl, List.length_map] at hb
 have h1 := hb.1.1
 clear hb
 refine walkG ?_
 refine VC.loop (ι := {i : Nat // i ≤ l.length ∧ ∀ j x, j < i → l[j]? = some x → p x = false}) (fun i => [(0, .c (.sl 1 (l.map sPV))), (1, .fn (.func g) fs cs), (7, .c (.v (.int .i64 l.length))), (8, .c (.v (.int .i64 i.1)))]) (fun _ => []) 0 (fun i => l.length - i.1) ⟨0, Nat.zero_le _, by intro j x hj; omega⟩ ?_ ?_
 · simp only [sc_pureL hp, sc_pureL hp', Weak, eq_self, used_is, sc_any, sc_c, sc_pp, sc_ref, sc_row, sc_agg, sc_fn, ScL, some_imp, List.forall_mem_map, go_sem, Int.reduceBEq, Int.reduceLE, Int.reduceLT, Int.reduceNeg, Nat.reduceAdd, Nat.reduceEqDiff, Nat.reduceLT, Nat.reduceLeDiff, Nat.reduceMul, Nat.reduceSub, reduceCtorEq, ↓reduceIte]
   all_goals rfl
 rintro ⟨i, hi, ht⟩
 refine walkG ?_
 refine VC.cond (by rfl) (by trivial) (fun hc => ?_) (fun hc => ?_)
 · simp only [decide_eq_true_eq] at hc
   obtain ⟨x, hx⟩ : ∃ x, l[i]? = some x := ⟨l[i]'(by omega), List.getElem?_eq_getElem _⟩
   have hw : IntKind.i64.wrap ((i : Int) + 1) = (i : Int) + 1 := wrap64_id (by omega) (by omega)
   have hkx := hk x (List.mem_of_getElem? hx)
   (repeat (first | refine pass ?_ | refine VC.region (by rfl) (by rfl) ?_ | (refine AO.step fun K hK => ?_; simp only [List.getElem?_map, hx, sPV, go_sem, Int.reduceBEq, Int.reduceLE, Int.reduceLT, Int.reduceNeg, Nat.reduceAdd, Nat.reduceEqDiff, Nat.reduceLT, Nat.reduceLeDiff, Nat.reduceMul, Nat.reduceSub, reduceCtorEq, ↓reduceIte]; (first | refine gsel_skip ?_ | refine gsel_go ?_ | skip); (first | refine hK _ _ _ ?_ | refine ⟨by first | omega | exact ⟨_, rfl, rfl⟩ | exact fun _ => ⟨_, rfl, rfl⟩ | (intro h; simp only [List.getElem?_map, hx, sPV, h, true_and]; omega) | (clear hK; intro h; simp_all <;> omega), hK _ _ _ ?_⟩); clear hK K) | refine VC.draw mixP (by rfl) (by rfl) ?_ | refine ⟨okd_of (by kernel_rfl), ?_⟩ | refine BQ.other (by decide) ?_ | refine VC.seq ?_ | refine AO.nil ?_ | refine VC.block ?_))
   ((refine AO.step fun K hK => ?_; simp only [go_sem, Int.reduceBEq, Int.reduceLE, Int.reduceLT, Int.reduceNeg, Nat.reduceAdd, Nat.reduceEqDiff, Nat.reduceLT, Nat.reduceLeDiff, Nat.reduceMul, Nat.reduceSub, reduceCtorEq, ↓reduceIte, sPV, hp, hp', pureL_app, pureL_c, List.append_assoc]; (first | refine gsel_go ?_ | skip)); refine .inl ⟨_, hkx, hK _ _ _ ?_⟩; clear hK K)
   refine walkG ?_
   refine VC.cond (by rfl) (by trivial) (fun hpx => ?_) (fun hpx => ?_)
   · have hr := idxP_at hx hpx ht
     refine walkG ?_
     refine retX Tryz.results212 ?_
     rw [hr]
     exact .c _
   · refine walkGF (hw) ?_
     refine .next ⟨i + 1, by omega, fun j y hj hy => ?_⟩ ?_ (by simp only []; omega)
     · rcases Nat.lt_or_ge j i with h | h
       · exact ht j y h hy
       · obtain rfl : j = i := by omega
         rw [hx] at hy
         obtain rfl := Option.some.inj hy
         exact hpx
     simp only [sc_pureL hp, sc_pureL hp', Weak, eq_self, used_is, sc_any, sc_c, sc_pp, sc_ref, sc_row, sc_agg, sc_fn, ScL, some_imp, List.forall_mem_map, go_sem, Int.reduceBEq, Int.reduceLE, Int.reduceLT, Int.reduceNeg, Nat.reduceAdd, Nat.reduceEqDiff, Nat.reduceLT, Nat.reduceLeDiff, Nat.reduceMul, Nat.reduceSub, reduceCtorEq, ↓reduceIte]
     exact cI (by omega)
 · simp only [decide_eq_false_iff_not] at hc
   obtain rfl : i = l.length := by omega
   have hr := idxP_none ht
   refine walkG ?_
   refine retX Tryz.results212 ?_
   rw [hr]
   exact .c _
theorem cnfS_told {g : FuncId} {fs cs : List AV} (hp : AV.pureL fs = true) (hp' : AV.pureL cs = true) (l : List (List UInt8)) (p : List UInt8 → Bool) (hk : ∀ x ∈ l, Told Tryz.prog g (fs ++ ([.c (.v (.string (str x)))] ++ cs)) (.c (.v (.bool (p x))))) :
  Told Tryz.prog 179 [.c (.sl 1 (l.map sPV)), .fn (.func g) fs cs] (.c (.v (.bool (l.any p)))) := by
 have hi := ixfS_told hp hp' l p hk
 refine VC.told ent_179 Tryz.func179 rfl Tryz.ntmps179 (by simp) (by simp [AV.pureB, AV.pureL, hp, hp']) rfl fun hb => ?_
 clear hb
 refine walkG ?_
 refine walkCF (And.intro hp hp') (hi) ?_
 refine walkG ?_
 refine retX Tryz.results179 ?_
 exact frz_c (by rw [idxP_any])
section

def byteAt (l : List UInt8) (i : Nat) : UInt8 := l[i]?.getD 0
def ufirst (c : UInt8) : Nat := if c.toNat < 128 then 1 else if c.toNat < 194 then 0 else if c.toNat < 224 then 2 else if c.toNat < 240 then 3 else if c.toNat < 245 then 4 else 0
def ulo (a : UInt8) : Nat := if a.toNat = 224 then 160 else if a.toNat = 240 then 144 else 128
def uhi (a : UInt8) : Nat := if a.toNat = 237 then 159 else if a.toNat = 244 then 143 else 191
def usec (a b : UInt8) : Bool := decide (ulo a ≤ b.toNat ∧ b.toNat ≤ uhi a)
def ucont (b : UInt8) : Bool := decide (128 ≤ b.toNat ∧ b.toNat < 192)
def ustep (l : List UInt8) (p i : Nat) : Nat := if p + i < l.length then (if ucont (byteAt l (p + i)) = true ∧ (i = 1 → usec (byteAt l p) (byteAt l (p + i)) = true) then 0 else 11) else 10
def ustat (l : List UInt8) (p : Nat) : Nat → Nat
 | 0 => 0
 | k + 1 => if ustat l p k = 0 then ustep l p (k + 1) else ustat l p k
def uerr (l : List UInt8) (p : Nat) : Nat := if p < l.length then (if ufirst (byteAt l p) = 0 then 11 else ustat l p (ufirst (byteAt l p) - 1)) else 10
def ulen (l : List UInt8) (p : Nat) : Nat := ufirst (byteAt l p)
theorem ustat_mono {l : List UInt8} {p k : Nat} (h : ustat l p k ≠ 0) : ∀ j, ustat l p (k + j) = ustat l p k := by
 intro j
 induction j with
 | zero => rfl
 | succ j ih => rw [show k + (j + 1) = (k + j) + 1 from by omega]; simp only [ustat]; rw [ih, if_neg h]
theorem ustat_bad {l : List UInt8} {p i n : Nat} (hi : 1 ≤ i) (hin : i < n) (h0 : ustat l p (i - 1) = 0) (h : ustep l p i ≠ 0) : ustat l p (n - 1) = ustep l p i := by
 have h1 : ustat l p i = ustep l p i := by
  cases i with
  | zero => omega
  | succ i => simp only [ustat]; rw [if_pos (by simpa using h0)]
 have := ustat_mono (l := l) (p := p) (k := i) (by rw [h1]; exact h) (n - 1 - i)
 rw [h1] at this
 rwa [show i + (n - 1 - i) = n - 1 from by omega] at this
theorem ustat_next {l : List UInt8} {p k : Nat} (h0 : ustat l p k = 0) (h : ustep l p (k + 1) = 0) : ustat l p (k + 1) = 0 := by
 simp only [ustat]; rw [if_pos h0, h]
variable {l : List UInt8} {p : Nat}
theorem ulen_bound (h : uerr l p = 0) : 0 < ulen l p ∧ p + ulen l p ≤ l.length := by
 unfold uerr at h
 split at h
 · rename_i hp
   split at h
   · simp at h
   · rename_i hf
     refine ⟨by unfold ulen; omega, ?_⟩
     unfold ulen
     have key : ∀ k, ustat l p k = 0 → p + k < l.length := by
      intro k
      induction k with
      | zero => intro _; omega
      | succ k ih =>
        intro hk
        simp only [ustat] at hk
        split at hk
        · unfold ustep at hk
          split at hk
          · omega
          · simp at hk
        · rename_i h1; exact absurd hk h1
     have := key _ h
     omega
 · simp at h
def uCnt (l : List UInt8) (p k : Nat) : Nat × Nat :=
 if h : p < l.length then (if h2 : uerr l p = 0 ∧ 0 < ulen l p then uCnt l (p + ulen l p) (k + 1) else (0, 11)) else (k, 0)
termination_by l.length - p
theorem uCnt_end {l : List UInt8} {p k : Nat} (h : ¬ p < l.length) : uCnt l p k = (k, 0) := by rw [uCnt, dif_neg h]
theorem uCnt_bad {l : List UInt8} {p k : Nat} (h : p < l.length) (h2 : uerr l p ≠ 0) : uCnt l p k = (0, 11) := by rw [uCnt, dif_pos h, dif_neg (fun x => h2 x.1)]
theorem uCnt_next {l : List UInt8} {p k : Nat} (h : p < l.length) (h2 : uerr l p = 0) : uCnt l p k = uCnt l (p + ulen l p) (k + 1) := by rw [uCnt, dif_pos h, dif_pos ⟨h2, (ulen_bound h2).1⟩]
def isRight (l : List UInt8) : Bool := decide ((uCnt l 0 0).2 = 0)
end

theorem ufirst_told0 {x : UInt8} (h0 : x.toNat < 128) : ∃ c : Int, Told Tryz.prog 228 [.c (.v (.int .u8 (x.toNat : Int)))] (.tup [.c (.v (.int .i64 (ufirst x : Int))), .c (.v (.int .i32 c))]) := by
 have e0 : ((x.toNat : Int) < 128) = True := by simp; omega
 have hu : ufirst x = 1 := by unfold ufirst; repeat' split <;> try omega
 rw [hu]
 apply Exists.intro
 case h =>
 refine VC.told ent_228 Tryz.func228 rfl Tryz.ntmps228 (by simp) (by rfl) (by rfl) fun hb => ?_
 clear hb
 refine walkGF (e0) ?_
 refine VC.condT (by rfl) (by trivial) ?_
 refine walkG ?_
 refine ⟨.inr rfl, ?_⟩
 rw [Tryz.results228]
 simp only [resOk, resV, go_sem, simprocAttr]
 exact ⟨.c _, .c _⟩
theorem ufirst_told1 {x : UInt8} (h0 : ¬ x.toNat < 128) (h1 : x.toNat < 194) : ∃ c : Int, Told Tryz.prog 228 [.c (.v (.int .u8 (x.toNat : Int)))] (.tup [.c (.v (.int .i64 (ufirst x : Int))), .c (.v (.int .i32 c))]) := by
 have e0 : ((x.toNat : Int) < 128) = False := by simp; omega
 have e1 : ((x.toNat : Int) < 194) = True := by simp; omega
 have hu : ufirst x = 0 := by unfold ufirst; repeat' split <;> try omega
 rw [hu]
 apply Exists.intro
 case h =>
 refine VC.told ent_228 Tryz.func228 rfl Tryz.ntmps228 (by simp) (by rfl) (by rfl) fun hb => ?_
 clear hb
 refine walkGF (e0) ?_
 refine VC.condF (by rfl) (by trivial) ?_
 refine walkGF (e1) ?_
 refine VC.condT (by rfl) (by trivial) ?_
 refine walkG ?_
 refine ⟨.inr rfl, ?_⟩
 rw [Tryz.results228]
 simp only [resOk, resV, go_sem, simprocAttr]
 exact ⟨.c _, .c _⟩
theorem ufirst_told2 {x : UInt8} (h0 : ¬ x.toNat < 128) (h1 : ¬ x.toNat < 194) (h2 : x.toNat < 224) : ∃ c : Int, Told Tryz.prog 228 [.c (.v (.int .u8 (x.toNat : Int)))] (.tup [.c (.v (.int .i64 (ufirst x : Int))), .c (.v (.int .i32 c))]) := by
 have e0 : ((x.toNat : Int) < 128) = False := by simp; omega
 have e1 : ((x.toNat : Int) < 194) = False := by simp; omega
 have e2 : ((x.toNat : Int) < 224) = True := by simp; omega
 have hu : ufirst x = 2 := by unfold ufirst; repeat' split <;> try omega
 rw [hu]
 apply Exists.intro
 case h =>
 refine VC.told ent_228 Tryz.func228 rfl Tryz.ntmps228 (by simp) (by rfl) (by rfl) fun hb => ?_
 clear hb
 refine walkGF (e0) ?_
 refine VC.condF (by rfl) (by trivial) ?_
 refine walkGF (e1) ?_
 refine VC.condF (by rfl) (by trivial) ?_
 refine walkGF (e2) ?_
 refine VC.condT (by rfl) (by trivial) ?_
 refine walkG ?_
 refine ⟨.inr rfl, ?_⟩
 rw [Tryz.results228]
 simp only [resOk, resV, go_sem, simprocAttr]
 exact ⟨.c _, .c _⟩
theorem ufirst_told3 {x : UInt8} (h0 : ¬ x.toNat < 128) (h1 : ¬ x.toNat < 194) (h2 : ¬ x.toNat < 224) (h3 : x.toNat < 240) : ∃ c : Int, Told Tryz.prog 228 [.c (.v (.int .u8 (x.toNat : Int)))] (.tup [.c (.v (.int .i64 (ufirst x : Int))), .c (.v (.int .i32 c))]) := by
 have e0 : ((x.toNat : Int) < 128) = False := by simp; omega
 have e1 : ((x.toNat : Int) < 194) = False := by simp; omega
 have e2 : ((x.toNat : Int) < 224) = False := by simp; omega
 have e3 : ((x.toNat : Int) < 240) = True := by simp; omega
 have hu : ufirst x = 3 := by unfold ufirst; repeat' split <;> try omega
 rw [hu]
 apply Exists.intro
 case h =>
 refine VC.told ent_228 Tryz.func228 rfl Tryz.ntmps228 (by simp) (by rfl) (by rfl) fun hb => ?_
 clear hb
 refine walkGF (e0) ?_
 refine VC.condF (by rfl) (by trivial) ?_
 refine walkGF (e1) ?_
 refine VC.condF (by rfl) (by trivial) ?_
 refine walkGF (e2) ?_
 refine VC.condF (by rfl) (by trivial) ?_
 refine walkGF (e3) ?_
 refine VC.condT (by rfl) (by trivial) ?_
 refine walkG ?_
 refine ⟨.inr rfl, ?_⟩
 rw [Tryz.results228]
 simp only [resOk, resV, go_sem, simprocAttr]
 exact ⟨.c _, .c _⟩
theorem ufirst_told4 {x : UInt8} (h0 : ¬ x.toNat < 128) (h1 : ¬ x.toNat < 194) (h2 : ¬ x.toNat < 224) (h3 : ¬ x.toNat < 240) (h4 : x.toNat < 245) : ∃ c : Int, Told Tryz.prog 228 [.c (.v (.int .u8 (x.toNat : Int)))] (.tup [.c (.v (.int .i64 (ufirst x : Int))), .c (.v (.int .i32 c))]) := by
 have e0 : ((x.toNat : Int) < 128) = False := by simp; omega
 have e1 : ((x.toNat : Int) < 194) = False := by simp; omega
 have e2 : ((x.toNat : Int) < 224) = False := by simp; omega
 have e3 : ((x.toNat : Int) < 240) = False := by simp; omega
 have e4 : ((x.toNat : Int) < 245) = True := by simp; omega
 have hu : ufirst x = 4 := by unfold ufirst; repeat' split <;> try omega
 rw [hu]
 apply Exists.intro
 case h =>
 refine VC.told ent_228 Tryz.func228 rfl Tryz.ntmps228 (by simp) (by rfl) (by rfl) fun hb => ?_
 clear hb
 refine walkGF (e0) ?_
 refine VC.condF (by rfl) (by trivial) ?_
 refine walkGF (e1) ?_
 refine VC.condF (by rfl) (by trivial) ?_
 refine walkGF (e2) ?_
 refine VC.condF (by rfl) (by trivial) ?_
 refine walkGF (e3) ?_
 refine VC.condF (by rfl) (by trivial) ?_
 refine walkGF (e4) ?_
 refine VC.condT (by rfl) (by trivial) ?_
 refine walkG ?_
 refine ⟨.inr rfl, ?_⟩
 rw [Tryz.results228]
 simp only [resOk, resV, go_sem, simprocAttr]
 exact ⟨.c _, .c _⟩
theorem ufirst_told5 {x : UInt8} (h0 : ¬ x.toNat < 128) (h1 : ¬ x.toNat < 194) (h2 : ¬ x.toNat < 224) (h3 : ¬ x.toNat < 240) (h4 : ¬ x.toNat < 245) : ∃ c : Int, Told Tryz.prog 228 [.c (.v (.int .u8 (x.toNat : Int)))] (.tup [.c (.v (.int .i64 (ufirst x : Int))), .c (.v (.int .i32 c))]) := by
 have e0 : ((x.toNat : Int) < 128) = False := by simp; omega
 have e1 : ((x.toNat : Int) < 194) = False := by simp; omega
 have e2 : ((x.toNat : Int) < 224) = False := by simp; omega
 have e3 : ((x.toNat : Int) < 240) = False := by simp; omega
 have e4 : ((x.toNat : Int) < 245) = False := by simp; omega
 have hu : ufirst x = 0 := by unfold ufirst; repeat' split <;> try omega
 rw [hu]
 apply Exists.intro
 case h =>
 refine VC.told ent_228 Tryz.func228 rfl Tryz.ntmps228 (by simp) (by rfl) (by rfl) fun hb => ?_
 clear hb
 refine walkGF (e0) ?_
 refine VC.condF (by rfl) (by trivial) ?_
 refine walkGF (e1) ?_
 refine VC.condF (by rfl) (by trivial) ?_
 refine walkGF (e2) ?_
 refine VC.condF (by rfl) (by trivial) ?_
 refine walkGF (e3) ?_
 refine VC.condF (by rfl) (by trivial) ?_
 refine walkGF (e4) ?_
 refine VC.condF (by rfl) (by trivial) ?_
 refine walkG ?_
 refine ⟨.inr rfl, ?_⟩
 rw [Tryz.results228]
 simp only [resOk, resV, go_sem, simprocAttr]
 exact ⟨.c _, .c _⟩
theorem ufirst_told (x : UInt8) : ∃ c : Int, Told Tryz.prog 228 [.c (.v (.int .u8 (x.toNat : Int)))] (.tup [.c (.v (.int .i64 (ufirst x : Int))), .c (.v (.int .i32 c))]) := by
 by_cases h0 : x.toNat < 128
 · exact ufirst_told0 h0
 by_cases h1 : x.toNat < 194
 · exact ufirst_told1 h0 h1
 by_cases h2 : x.toNat < 224
 · exact ufirst_told2 h0 h1 h2
 by_cases h3 : x.toNat < 240
 · exact ufirst_told3 h0 h1 h2 h3
 by_cases h4 : x.toNat < 245
 · exact ufirst_told4 h0 h1 h2 h3 h4
 · exact ufirst_told5 h0 h1 h2 h3 h4

theorem usec_told0 {x y : UInt8} (h0 : x.toNat = 224) : Told Tryz.prog 229 [.c (.v (.int .u8 (x.toNat : Int))), .c (.v (.int .u8 (y.toNat : Int)))] (.c (.v (.bool (usec x y)))) := by
 have e0 : ((x.toNat : Int) == 224) = true := by simp; omega
 have hu : usec x y = decide (160 ≤ y.toNat ∧ y.toNat ≤ 191) := by
  unfold usec ulo uhi
  congr 1
  repeat' split
  all_goals first | rfl | omega
 rw [hu]
 refine VC.told ent_229 Tryz.func229 rfl Tryz.ntmps229 (by simp) (by rfl) (by rfl) fun hb => ?_
 clear hb
 refine walkGF (e0) ?_
 refine VC.condT (by rfl) (by trivial) ?_
 refine walkG ?_
 refine ⟨.inr rfl, ?_⟩
 rw [Tryz.results229]
 simp only [resOk, resV, go_sem, simprocAttr]
 refine frz_c ?_
 congr 2
 rw [Bool.eq_iff_iff]
 simp
 omega
theorem usec_told1 {x y : UInt8} (h0 : x.toNat ≠ 224) (h1 : x.toNat = 237) : Told Tryz.prog 229 [.c (.v (.int .u8 (x.toNat : Int))), .c (.v (.int .u8 (y.toNat : Int)))] (.c (.v (.bool (usec x y)))) := by
 have e0 : ((x.toNat : Int) == 224) = false := by simp; omega
 have e1 : ((x.toNat : Int) == 237) = true := by simp; omega
 have hu : usec x y = decide (128 ≤ y.toNat ∧ y.toNat ≤ 159) := by
  unfold usec ulo uhi
  congr 1
  repeat' split
  all_goals first | rfl | omega
 rw [hu]
 refine VC.told ent_229 Tryz.func229 rfl Tryz.ntmps229 (by simp) (by rfl) (by rfl) fun hb => ?_
 clear hb
 refine walkGF (e0) ?_
 refine VC.condF (by rfl) (by trivial) ?_
 refine walkGF (e1) ?_
 refine VC.condT (by rfl) (by trivial) ?_
 refine walkG ?_
 refine ⟨.inr rfl, ?_⟩
 rw [Tryz.results229]
 simp only [resOk, resV, go_sem, simprocAttr]
 refine frz_c ?_
 congr 2
 rw [Bool.eq_iff_iff]
 simp
 omega
theorem usec_told2 {x y : UInt8} (h0 : x.toNat ≠ 224) (h1 : x.toNat ≠ 237) (h2 : x.toNat = 240) : Told Tryz.prog 229 [.c (.v (.int .u8 (x.toNat : Int))), .c (.v (.int .u8 (y.toNat : Int)))] (.c (.v (.bool (usec x y)))) := by
 have e0 : ((x.toNat : Int) == 224) = false := by simp; omega
 have e1 : ((x.toNat : Int) == 237) = false := by simp; omega
 have e2 : ((x.toNat : Int) == 240) = true := by simp; omega
 have hu : usec x y = decide (144 ≤ y.toNat ∧ y.toNat ≤ 191) := by
  unfold usec ulo uhi
  congr 1
  repeat' split
  all_goals first | rfl | omega
 rw [hu]
 refine VC.told ent_229 Tryz.func229 rfl Tryz.ntmps229 (by simp) (by rfl) (by rfl) fun hb => ?_
 clear hb
 refine walkGF (e0) ?_
 refine VC.condF (by rfl) (by trivial) ?_
 refine walkGF (e1) ?_
 refine VC.condF (by rfl) (by trivial) ?_
 refine walkGF (e2) ?_
 refine VC.condT (by rfl) (by trivial) ?_
 refine walkG ?_
 refine ⟨.inr rfl, ?_⟩
 rw [Tryz.results229]
 simp only [resOk, resV, go_sem, simprocAttr]
 refine frz_c ?_
 congr 2
 rw [Bool.eq_iff_iff]
 simp
 omega
theorem usec_told3 {x y : UInt8} (h0 : x.toNat ≠ 224) (h1 : x.toNat ≠ 237) (h2 : x.toNat ≠ 240) (h3 : x.toNat = 244) : Told Tryz.prog 229 [.c (.v (.int .u8 (x.toNat : Int))), .c (.v (.int .u8 (y.toNat : Int)))] (.c (.v (.bool (usec x y)))) := by
 have e0 : ((x.toNat : Int) == 224) = false := by simp; omega
 have e1 : ((x.toNat : Int) == 237) = false := by simp; omega
 have e2 : ((x.toNat : Int) == 240) = false := by simp; omega
 have e3 : ((x.toNat : Int) == 244) = true := by simp; omega
 have hu : usec x y = decide (128 ≤ y.toNat ∧ y.toNat ≤ 143) := by
  unfold usec ulo uhi
  congr 1
  repeat' split
  all_goals first | rfl | omega
 rw [hu]
 refine VC.told ent_229 Tryz.func229 rfl Tryz.ntmps229 (by simp) (by rfl) (by rfl) fun hb => ?_
 clear hb
 refine walkGF (e0) ?_
 refine VC.condF (by rfl) (by trivial) ?_
 refine walkGF (e1) ?_
 refine VC.condF (by rfl) (by trivial) ?_
 refine walkGF (e2) ?_
 refine VC.condF (by rfl) (by trivial) ?_
 refine walkGF (e3) ?_
 refine VC.condT (by rfl) (by trivial) ?_
 refine walkG ?_
 refine ⟨.inr rfl, ?_⟩
 rw [Tryz.results229]
 simp only [resOk, resV, go_sem, simprocAttr]
 refine frz_c ?_
 congr 2
 rw [Bool.eq_iff_iff]
 simp
 omega
theorem usec_told4 {x y : UInt8} (h0 : x.toNat ≠ 224) (h1 : x.toNat ≠ 237) (h2 : x.toNat ≠ 240) (h3 : x.toNat ≠ 244) : Told Tryz.prog 229 [.c (.v (.int .u8 (x.toNat : Int))), .c (.v (.int .u8 (y.toNat : Int)))] (.c (.v (.bool (usec x y)))) := by
 have e0 : ((x.toNat : Int) == 224) = false := by simp; omega
 have e1 : ((x.toNat : Int) == 237) = false := by simp; omega
 have e2 : ((x.toNat : Int) == 240) = false := by simp; omega
 have e3 : ((x.toNat : Int) == 244) = false := by simp; omega
 have hu : usec x y = decide (128 ≤ y.toNat ∧ y.toNat ≤ 191) := by
  unfold usec ulo uhi
  congr 1
  repeat' split
  all_goals first | rfl | omega
 rw [hu]
 refine VC.told ent_229 Tryz.func229 rfl Tryz.ntmps229 (by simp) (by rfl) (by rfl) fun hb => ?_
 clear hb
 refine walkGF (e0) ?_
 refine VC.condF (by rfl) (by trivial) ?_
 refine walkGF (e1) ?_
 refine VC.condF (by rfl) (by trivial) ?_
 refine walkGF (e2) ?_
 refine VC.condF (by rfl) (by trivial) ?_
 refine walkGF (e3) ?_
 refine VC.condF (by rfl) (by trivial) ?_
 refine walkG ?_
 refine ⟨.inr rfl, ?_⟩
 rw [Tryz.results229]
 simp only [resOk, resV, go_sem, simprocAttr]
 refine frz_c ?_
 congr 2
 rw [Bool.eq_iff_iff]
 simp
 omega
theorem usec_told (x y : UInt8) : Told Tryz.prog 229 [.c (.v (.int .u8 (x.toNat : Int))), .c (.v (.int .u8 (y.toNat : Int)))] (.c (.v (.bool (usec x y)))) := by
 by_cases h0 : x.toNat = 224
 · exact usec_told0 h0
 by_cases h1 : x.toNat = 237
 · exact usec_told1 h0 h1
 by_cases h2 : x.toNat = 240
 · exact usec_told2 h0 h1 h2
 by_cases h3 : x.toNat = 244
 · exact usec_told3 h0 h1 h2 h3
 · exact usec_told4 h0 h1 h2 h3

theorem cont_bits : ∀ x : Nat, x < 256 → ((IntKind.u8.wrap ((BitVec.ofInt IntKind.u8.bits ((x : Nat) : Int) &&& BitVec.ofInt IntKind.u8.bits 192).toNat : Int)) != 128) = !decide (128 ≤ x ∧ x < 192) := by decide +kernel
theorem cont_bit (x : UInt8) : ((IntKind.u8.wrap ((BitVec.ofInt IntKind.u8.bits (x.toNat : Int) &&& BitVec.ofInt IntKind.u8.bits 192).toNat : Int)) != 128) = !ucont x := cont_bits x.toNat x.toNat_lt
theorem pv_at {l : List UInt8} {i : Nat} (h : i < l.length) : (bytePV l)[i]? = some [.v (.int .u8 ((byteAt l i).toNat : Int))] := by
 unfold bytePV byteAt
 rw [List.getElem?_map, List.getElem?_eq_getElem h]
 rfl
def unext (l : List UInt8) (p : Nat) : Nat := if uerr l p = 0 then p + ulen l p else p
theorem utake_told (l : List UInt8) (p : Nat) (hp : p ≤ l.length) (hbig : l.length ≤ 9223372036854775000) : Told Tryz.prog 211 [.c (.sl 1 (bytePV l)), .c (.v (.int .i64 (p : Int)))] (.tup [.any, .c (.v (.int .i64 (unext l p : Int))), .c (.v (.int .i64 (uerr l p : Int)))]) := by
 have hlen : (bytePV l).length = l.length := by simp [bytePV]
 refine VC.told ent_211 Tryz.func211 rfl Tryz.ntmps211 (by simp) (by rfl) (by rfl) fun hb => ?_
 clear hb
 have e1 : ((p : Int) < 0) = False := eq_false (by omega)
 have e2 : ((p : Int) > (l.length : Int)) = False := eq_false (by omega)
 refine walkGF (And.intro e1 (And.intro e2 hlen)) ?_
 refine VC.condF (by rfl) (by trivial) ?_
 refine walkGF (hlen) ?_
 refine VC.cond (by rfl) (by trivial) (fun hc => ?_) (fun hc => ?_)
 · have he : p = l.length := by simp at hc; omega
   have hu : uerr l p = 10 := by unfold uerr; rw [if_neg (by omega)]
   have hn : unext l p = p := by unfold unext; rw [if_neg (by omega)]
   rw [hu, hn]
   refine walkG ?_
   refine ⟨.inr rfl, ?_⟩
   rw [Tryz.results211]
   simp only [resOk, resV, go_sem, simprocAttr]
   exact ⟨.any _, .c _, .c _⟩
 have hlt : p < l.length := by simp at hc; omega
 clear hc
 obtain ⟨c0, hfirst⟩ := ufirst_told (byteAt l p)
 have hat := pv_at hlt
 refine walkGF (And.intro hlen hat) ?_
 (refine AO.step fun K hK => ?_; simp only [go_sem, Int.reduceBEq, Int.reduceLE, Int.reduceLT, Int.reduceNeg, Nat.reduceAdd, Nat.reduceEqDiff, Nat.reduceLT, Nat.reduceLeDiff, Nat.reduceMul, Nat.reduceSub, reduceCtorEq, ↓reduceIte, hat]; (first | refine gsel_go ?_ | skip))
 refine .inl ⟨_, hfirst, hK _ _ _ ?_⟩
 clear hK K hfirst
 refine walkG ?_
 refine VC.cond (by rfl) (by trivial) (fun hc => ?_) (fun hc => ?_)
 · have hf : ufirst (byteAt l p) = 0 := by simp at hc; omega
   have hu : uerr l p = 11 := by unfold uerr; rw [if_pos hlt, if_pos hf]
   have hn : unext l p = p := by unfold unext; rw [if_neg (by omega)]
   rw [hu, hn]
   refine walkG ?_
   refine ⟨.inr rfl, ?_⟩
   rw [Tryz.results211]
   simp only [resOk, resV, go_sem, simprocAttr]
   exact ⟨.any _, .c _, .c _⟩
 have hf : ufirst (byteAt l p) ≠ 0 := by simp at hc; omega
 clear hc
 have hue : uerr l p = ustat l p (ufirst (byteAt l p) - 1) := by unfold uerr; rw [if_pos hlt, if_neg hf]
 have hf4 : ufirst (byteAt l p) ≤ 4 := by unfold ufirst; repeat' split <;> try omega
 obtain ⟨n, hn⟩ : ∃ n, n = ufirst (byteAt l p) := ⟨_, rfl⟩
 have hul : ulen l p = n := hn.symm
 rw [← hn] at hf hf4 hue
 refine walkGF (hn.symm) ?_
 refine VC.loop (ι := {q : Nat × Int // 1 ≤ q.1 ∧ q.1 ≤ n ∧ ustat l p (q.1 - 1) = 0}) (fun q => [(0, .c (.sl 1 (bytePV l))), (1, .c (.v (.int .i64 (p : Int)))), (4, .c (.v (.int .i32 q.1.2))), (7, .c (.v (.int .i64 (n : Int)))), (8, .c (.v (.int .i64 (q.1.1 : Int))))])
  (fun _ => []) 0 (fun q => n - q.1.1) ⟨(1, c0), Nat.le_refl _, by simp only []; omega, rfl⟩ ?_ ?_
 · simp only [← hn, Weak, eq_self, used_is, sc_any, sc_c, sc_pp, sc_ref, sc_row, sc_agg, sc_fn, ScL, some_imp, List.forall_mem_map, go_sem, Int.reduceBEq, Int.reduceLE, Int.reduceLT, Int.reduceNeg, Nat.reduceAdd, Nat.reduceEqDiff, Nat.reduceLT, Nat.reduceLeDiff, Nat.reduceMul, Nat.reduceSub, reduceCtorEq, ↓reduceIte]
   all_goals first | rfl | exact cI (by omega)
 rintro ⟨⟨i, c⟩, hi1, hi2, hst⟩
 simp only [] at hi1 hi2 hst ⊢
 refine walkG ?_
 refine VC.cond (by rfl) (by trivial) (fun hc => ?_) (fun hc => ?_)
 · have hin : i < n := by simp at hc; omega
   clear hc
   have hw1 : IntKind.i64.wrap ((p : Int) + (i : Int)) = (p : Int) + (i : Int) := wrap64_id (by omega) (by omega)
   have hw2 : IntKind.i64.wrap ((i : Int) + 1) = (i : Int) + 1 := wrap64_id (by omega) (by omega)
   refine walkGF (And.intro hlen hw1) ?_
   refine VC.cond (by rfl) (by trivial) (fun hc => ?_) (fun hc => ?_)
   · have hpi : p + i = l.length := by simp at hc; omega
     have hsp : ustep l p i = 10 := by unfold ustep; rw [if_neg (by omega)]
     have hu : uerr l p = 10 := by rw [hue, ustat_bad hi1 hin hst (by omega), hsp]
     have hnx : unext l p = p := by unfold unext; rw [if_neg (by omega)]
     rw [hu, hnx]
     refine walkG ?_
     refine ⟨.inr rfl, ?_⟩
     rw [Tryz.results211]
     simp only [resOk, resV, go_sem, simprocAttr]
     exact ⟨.any _, .c _, .c _⟩
   have hpi : p + i < l.length := by
    have : p + i ≠ l.length := by simp at hc; omega
    have hall : p + i ≤ l.length := by
     have h0 := hst
     cases hi : i with
     | zero => omega
     | succ k =>
       rw [hi] at h0
       cases k with
       | zero => omega
       | succ k =>
         simp only [Nat.add_sub_cancel, ustat] at h0
         split at h0
         · unfold ustep at h0
           split at h0
           · omega
           · simp at h0
         · rename_i h1; exact absurd h0 h1
    omega
   clear hc
   have hat2 := pv_at hpi
   have hti : ((p : Int) + (i : Int)).toNat = p + i := by omega
   have hsec := usec_told (byteAt l p) (byteAt l (p + i))
   have hcb := cont_bit (byteAt l (p + i))
   (try simp only [go_sem, Int.reduceBEq, Int.reduceLE, Int.reduceLT, Int.reduceNeg, Nat.reduceAdd, Nat.reduceEqDiff, Nat.reduceLT, Nat.reduceLeDiff, Nat.reduceMul, Nat.reduceSub, reduceCtorEq, ↓reduceIte] at hcb)
   refine walkGF (And.intro hlen (And.intro hw1 (And.intro hti (And.intro hat2 (And.intro hat hcb))))) ?_
   (refine AO.step fun K hK => ?_; simp only [go_sem, Int.reduceBEq, Int.reduceLE, Int.reduceLT, Int.reduceNeg, Nat.reduceAdd, Nat.reduceEqDiff, Nat.reduceLT, Nat.reduceLeDiff, Nat.reduceMul, Nat.reduceSub, reduceCtorEq, ↓reduceIte, hat, hcb]; (first | refine gsel_go ?_ | skip))
   refine .inl ⟨_, fun _ => hsec, hK _ _ _ ?_⟩
   clear hK K hsec
   refine walkG ?_
   refine VC.cond (by rfl) (by trivial) (fun hc => ?_) (fun hc => ?_)
   · have hsp : ustep l p i = 11 := by
      unfold ustep
      rw [if_pos hpi, if_neg]
      simp at hc
      rintro ⟨g1, g2⟩
      rcases hc with hc | hc
      · simp [hc] at g1
      · have := g2 (by omega)
        simp_all
     have hu : uerr l p = 11 := by rw [hue, ustat_bad hi1 hin hst (by omega), hsp]
     have hnx : unext l p = p := by unfold unext; rw [if_neg (by omega)]
     rw [hu, hnx]
     refine walkG ?_
     refine ⟨.inr rfl, ?_⟩
     rw [Tryz.results211]
     simp only [resOk, resV, go_sem, simprocAttr]
     exact ⟨.any _, .c _, .c _⟩
   · have hsp : ustep l p i = 0 := by
      unfold ustep
      rw [if_pos hpi, if_pos]
      simp at hc
      refine ⟨hc.1, fun h1 => ?_⟩
      exact hc.2 (by omega)
     have hst2 : ustat l p i = 0 := by
      cases hi : i with
      | zero => omega
      | succ k =>
        rw [hi] at hst hsp
        exact ustat_next (by simpa using hst) hsp
     clear hc
     refine walkGF (hw2) ?_
     apply RQ.next ⟨(i + 1, _), by simp only []; omega, by simp only []; omega, by simpa using hst2⟩
     · refine weakX ?_
       exact ⟨rfl, cI (by omega)⟩
     · simp only []; omega
 · have hin : i = n := by simp at hc; omega
   subst hin
   have hu : uerr l p = 0 := by rw [hue, hst]
   have hnx : unext l p = p + i := by unfold unext; rw [if_pos hu, hul]
   have hbd := ulen_bound hu
   have hw1 : IntKind.i64.wrap ((p : Int) + (i : Int)) = ((p + i : Nat) : Int) := by rw [wrap64_id (by omega) (by omega)]; omega
   rw [hu, hnx]
   refine walkGF (hw1) ?_
   refine ⟨.inr rfl, ?_⟩
   rw [Tryz.results211]
   simp only [resOk, resV, go_sem, simprocAttr]
   exact ⟨.any _, .c _, .c _⟩

theorem ucount_told (l : List UInt8) (hbig : l.length ≤ 9223372036854775000) : Told Tryz.prog 178 [.c (.sl 1 (bytePV l))] (.tup [.c (.v (.int .i64 ((uCnt l 0 0).1 : Int))), .c (.v (.int .i64 ((uCnt l 0 0).2 : Int)))]) := by
 have hlen : (bytePV l).length = l.length := by simp [bytePV]
 refine VC.toldP ent_178 Tryz.func178 rfl Tryz.ntmps178 fun hb => ?_
 clear hb
 obtain ⟨V, hV⟩ : ∃ V, V = uCnt l 0 0 := ⟨_, rfl⟩
 rw [← hV]
 refine walkG ?_
 refine VC.loop (ι := {q : Nat × Nat // q.1 ≤ l.length ∧ q.2 ≤ q.1 ∧ uCnt l q.1 q.2 = V}) (fun q => [(0, .c (.sl 1 (bytePV l))), (4, .c (.v (.int .i64 (q.1.2 : Int)))), (5, .c (.v (.int .i64 (q.1.1 : Int))))]) (fun _ => []) 0 (fun q => l.length - q.1.1) ⟨(0, 0), Nat.zero_le _, Nat.le_refl _, hV.symm⟩ ?_ ?_
 · simp only [Weak, eq_self, used_is, sc_any, sc_c, sc_pp, sc_ref, sc_row, sc_agg, sc_fn, ScL, some_imp, List.forall_mem_map, go_sem, Int.reduceBEq, Int.reduceLE, Int.reduceLT, Int.reduceNeg, Nat.reduceAdd, Nat.reduceEqDiff, Nat.reduceLT, Nat.reduceLeDiff, Nat.reduceMul, Nat.reduceSub, reduceCtorEq, ↓reduceIte]
   all_goals rfl
 rintro ⟨⟨p, k⟩, hp, hk, hu⟩
 simp only [] at hp hk hu ⊢
 refine walkGF (hlen) ?_
 refine VC.cond (by rfl) (by trivial) (fun hc => ?_) (fun hc => ?_)
 · have hlt : p < l.length := by simp at hc; omega
   have ht := utake_told l p hp hbig
   have hw : IntKind.i64.wrap ((k : Int) + 1) = (k : Int) + 1 := wrap64_id (by omega) (by omega)
   refine walkGF (hlen) ?_
   refine walkC (ht) ?_
   refine walkG ?_
   refine VC.cond (by rfl) (by trivial) (fun he => ?_) (fun he => ?_)
   · have h2 : uerr l p ≠ 0 := by simpa using he
     rw [uCnt_bad hlt h2] at hu
     subst hu
     refine walkG ?_
     refine retX Tryz.results178 ?_
     exact ⟨.c _, .c _⟩
   · have h2 : uerr l p = 0 := by simpa using he
     obtain ⟨h3, h4⟩ := ulen_bound h2
     have hn : unext l p = p + ulen l p := by unfold unext; rw [if_pos h2]
     rw [uCnt_next hlt h2] at hu
     refine walkGF (And.intro hw hn) ?_
     refine .next ⟨(p + ulen l p, k + 1), h4, by simp only []; omega, hu⟩ ?_ (by simp only []; omega)
     refine weakX ?_
     exact cI (by omega)
 · have hge : ¬ p < l.length := by simp at hc; omega
   rw [uCnt_end hge] at hu
   subst hu
   refine walkG ?_
   refine retX Tryz.results178 ?_
   exact ⟨.c _, .c _⟩
theorem uright_told (l : List UInt8) (hbig : l.length ≤ 9223372036854775000) : Told Tryz.prog 123 [.c (.sl 1 (bytePV l))] (.c (.v (.bool (isRight l)))) := by
 have h := ucount_told l hbig
 refine VC.toldP ent_123 Tryz.func123 rfl Tryz.ntmps123 fun hb => ?_
 clear hb
 refine walkG ?_
 refine walkC (h) ?_
 refine walkG ?_
 refine retX Tryz.results123 ?_
 exact frz_c (by unfold isRight; congr 2; rw [Bool.eq_iff_iff]; simp)

mutual
def JT.sm (N : Nat) : JT → Prop
 | .mk k n s ks xs => s.length ≤ N ∧ ks.length ≤ N ∧ (∀ y ∈ ks, y.length ≤ N) ∧ xs.length ≤ N ∧ JT.smL N xs
def JT.smL (N : Nat) : List JT → Prop
 | [] => True
 | x :: xs => x.sm N ∧ JT.smL N xs
end
theorem smL_mem {N : Nat} : ∀ {xs : List JT}, JT.smL N xs → ∀ x ∈ xs, x.sm N
 | x :: xs, h, y, hy => by
   rcases List.mem_cons.1 hy with rfl | hy
   · exact h.1
   · exact smL_mem h.2 y hy
theorem smL_of {N : Nat} : ∀ {xs : List JT}, (∀ x ∈ xs, x.sm N) → JT.smL N xs
 | [], _ => trivial
 | x :: xs, h => ⟨h x (by simp), smL_of fun y hy => h y (by simp [hy])⟩
def jbare : JT → Bool
 | .mk k n s ks xs =>
   if k = 1 then (n == 0) && s.isEmpty && xs.isEmpty else if k = 2 then (n == 0 || n == 1) && s.isEmpty && xs.isEmpty else if k = 3 then s.isEmpty && xs.isEmpty
   else if k = 4 then (n == 0) && xs.isEmpty && isRight s else if k = 5 ∨ k = 6 then (n == 0) && s.isEmpty else false
theorem str_empty (s : List UInt8) : (!((str s).toList == (⟨#[]⟩ : ByteArray).toList)) = !s.isEmpty := by
 rw [str_toList, show (⟨#[]⟩ : ByteArray) = str [] from rfl, str_toList]
 cases s <;> rfl
theorem nn_eq (n m : Int) : (!(n != m)) = (n == m) := by cases h : n == m <;> simp_all [bne]
theorem jbare_told (t : JT) (ht : t.sm 140737488355328) : Told Tryz.prog 189 [t.av] (.c (.v (.bool (jbare t)))) := by
 cases t with
 | mk k n s ks xs =>
 have hs : s.length ≤ 140737488355328 := ht.1
 have hR := uright_told s (by omega)
 refine VC.told ent_189 Tryz.func189 rfl Tryz.ntmps189 (by simp) rfl rfl fun hb => ?_
 clear hb
 have g1 : decide ((xs.length : Int) > 0) = !xs.isEmpty := by cases xs <;> simp <;> omega
 refine walkGF (And.intro @JT.av_eq (And.intro @cells_mk (And.intro @str_empty g1))) ?_
 refine VC.cond (by rfl) (by trivial) (fun h1 => ?_) (fun h1 => ?_)
 · refine walkG ?_
   refine retX Tryz.results189 ?_
   refine frz_c ?_
   simp only [beq_iff_eq] at h1
   simp only [jbare, h1, if_true, nn_eq, bpick_and, Bool.not_not]
 refine walkGF (And.intro @JT.av_eq @cells_mk) ?_
 refine VC.cond (by rfl) (by trivial) (fun h2 => ?_) (fun h2 => ?_)
 · refine walkGF (And.intro @cells_mk (And.intro @str_empty g1)) ?_
   refine retX Tryz.results189 ?_
   refine frz_c ?_
   obtain rfl : k = 2 := by simpa using h2
   simp [jbare]
 refine walkGF (And.intro @JT.av_eq @cells_mk) ?_
 refine VC.cond (by rfl) (by trivial) (fun h3 => ?_) (fun h3 => ?_)
 · refine walkGF (And.intro @cells_mk (And.intro @str_empty g1)) ?_
   refine retX Tryz.results189 ?_
   refine frz_c ?_
   obtain rfl : k = 3 := by simpa using h3
   simp [jbare]
 refine walkGF (And.intro @JT.av_eq @cells_mk) ?_
 refine VC.cond (by rfl) (by trivial) (fun h4 => ?_) (fun h4 => ?_)
 · obtain rfl : k = 4 := by simpa using h4
   refine walkGF (And.intro @cells_mk (And.intro @str_empty (And.intro g1 (And.intro @str_size hs)))) ?_
   refine walkDF (@str_dl) (hR) ?_
   refine walkG ?_
   refine retX Tryz.results189 ?_
   refine frz_c ?_
   simp only [jbare, nn_eq, bpick_and, Bool.not_not]
   simp
 refine walkGF (And.intro @JT.av_eq @cells_mk) ?_
 refine VC.cond (by rfl) (by trivial) (fun h5 => ?_) (fun h5 => ?_)
 · obtain rfl : k = 5 := by simpa using h5
   refine walkGF (@cells_mk) ?_
   refine VC.condT (by rfl) (by trivial) ?_
   refine walkGF (And.intro @cells_mk (And.intro @str_empty g1)) ?_
   refine retX Tryz.results189 ?_
   refine frz_c ?_
   simp only [jbare, nn_eq, bpick_and, Bool.not_not]
   simp
 refine walkGF (And.intro @JT.av_eq @cells_mk) ?_
 refine VC.cond (by rfl) (by trivial) (fun h6 => ?_) (fun h6 => ?_)
 · obtain rfl : k = 6 := by simpa using h6
   refine walkGF (And.intro @cells_mk (And.intro @str_empty g1)) ?_
   refine retX Tryz.results189 ?_
   refine frz_c ?_
   simp only [jbare, nn_eq, bpick_and, Bool.not_not]
   simp
 · refine walkGF (And.intro @cells_mk (And.intro @str_empty g1)) ?_
   refine retX Tryz.results189 ?_
   refine frz_c ?_
   simp only [beq_eq_false_iff_ne] at h1 h2 h3 h4 h5 h6
   simp [jbare, h1, h2, h3, h4, h5, h6]
section
open Go.RowKit Go.Sort
theorem valuesS_told (l : List (List UInt8)) : Told Tryz.prog 218 [.c (.sl 1 (l.map sPV))] (.fn (.func 235) [] [.pp [.sl 1 (l.map sPV)]]) := by
 refine VC.toldP ent_218 Tryz.func218 rfl Tryz.ntmps218 fun hb => ?_
 clear hb
 refine walkG ?_
 refine retX Tryz.results218 ?_
 exact .fnL .nil (.cons (.refP (es := [.sl 1 (l.map sPV)]) rfl rfl rfl rfl rfl) .nil)
theorem collect_told (l : List (List UInt8)) (hl : l.length ≤ 4294967296) : ToldM Tryz.prog 233 [.fn (.func 235) [] [.pp [.sl 1 (l.map sPV)]]] [] [some (sB l)] (.row 1000000 l.length) := by
 have h := appendSeq_told l hl
 unfold sB at h ⊢
 refine VC.toldXF (And.intro @sA_len @sA_sc) ent_233 [16] Tryz.func233 rfl Tryz.ntmps233 fun hb hbL => ?_
 clear hb hbL
 refine walkG ?_
 refine walkLF (@sA_ren) [] (h) ?_
 refine walkGF (And.intro @sA_ren @sA_len) ?_
 refine retXF (And.intro @sA_ren @sA_len) Tryz.results233 ?_
 exact .keepW rfl
theorem sorted_told (l : List (List UInt8)) (hl : l.length ≤ 4294967296) : ToldM Tryz.prog 217 [.fn (.func 235) [] [.pp [.sl 1 (l.map sPV)]]] [] [some (sB (srt l))] (.row 1000000 l.length) := by
 have h := collect_told l hl
 have h2 := sort_told l hl
 have hsl := srt_len l
 unfold sB at h h2 ⊢
 refine VC.toldXF (And.intro @sA_len (And.intro @sA_sc hsl)) ent_217 [16] Tryz.func217 rfl Tryz.ntmps217 fun hb hbL => ?_
 clear hb hbL
 refine walkG ?_
 refine walkLF (@sA_ren) [] (h) ?_
 refine walkGF (And.intro @sA_ren @sA_len) ?_
 refine walkLF (@sA_ren) [16] (h2) ?_
 refine walkGF (And.intro @sA_ren @sA_len) ?_
 refine retXF (And.intro @sA_ren @sA_len) Tryz.results217 ?_
 exact .keepW rfl
theorem keyed1_told (s : List UInt8) (hs : s.length ≤ 140737488355328) : Told Tryz.prog 219 [.c (.v (.string (str s)))] (.c (.v (.bool (!isRight s)))) := by
 have h := uright_told s (by omega)
 refine VC.toldP ent_219 Tryz.func219 rfl Tryz.ntmps219 fun hb => ?_
 clear hb
 refine walkGF (And.intro @str_size hs) ?_
 refine walkCF (@str_dl) (h) ?_
 refine walkG ?_
 refine retX Tryz.results219 ?_
 exact .c _
def jkeyed : JT → Bool
 | .mk k n s ks xs => if k ≠ 6 then ks.isEmpty else decide (ks.length = xs.length) && (decide ((Lib.compact (srt ks)).length = ks.length) && ks.all isRight)
theorem jkeyed_told (t : JT) (ht : t.sm 4294967296) : Told Tryz.prog 190 [t.av] (.c (.v (.bool (jkeyed t)))) := by
 cases t with
 | mk k n s ks xs =>
 obtain ⟨_, hk, hks, _, _⟩ := ht
 have hV := valuesS_told ks
 have hS := sorted_told ks hk
 have hC := compact_told (srt ks) (by rw [srt_len]; exact hk)
 have hF := cnfS_told (g := 219) (fs := []) (cs := []) rfl rfl ks (fun s => !isRight s) fun s hs => keyed1_told s (by have := hks s hs; omega)
 unfold sB at hS hC
 rw [srt_len] at hC
 refine VC.told ent_190 Tryz.func190 rfl Tryz.ntmps190 (by simp) rfl rfl fun hb => ?_
 clear hb
 refine walkGF (And.intro @JT.av_eq @cells_mk) ?_
 refine VC.cond (by rfl) (by trivial) (fun h6 => ?_) (fun h6 => ?_)
 · refine walkGF (@cells_mk) ?_
   refine retX Tryz.results190 ?_
   refine frz_c ?_
   simp only [bne_iff_ne] at h6
   simp only [jkeyed]
   rw [if_pos h6]
   cases ks <;> simp <;> omega
 · refine walkGF (@cells_mk) ?_
   refine walkC (hV) ?_
   refine walkG ?_
   refine walkLF (@sA_ren) [] (hS) ?_
   simp only [bne_eq_false_iff_eq] at h6
   subst h6
   by_cases hkx : ks.length = xs.length
   · have hg : ((ks.length : Int) == (xs.length : Int)) = true := by simp [hkx]
     refine walkGF (And.intro @sA_ren (And.intro @sA_len (And.intro @cells_mk hg))) ?_
     refine walkLF (And.intro @sA_ren (And.intro @sA_len @srt_len)) [64] (hC) ?_
     refine walkGF (And.intro @sA_ren (And.intro @sA_len (And.intro @cells_mk hg))) ?_
     refine walkDF (@cells_mk) (hF) ?_
     refine walkG ?_
     refine retX Tryz.results190 ?_
     refine frz_c ?_
     have e1 : (!ks.any fun s => !isRight s) = ks.all isRight := by rw [List.not_any_eq_all_not]; simp
     have e2 : (((Lib.compact (srt ks)).length : Int) == (ks.length : Int)) = decide ((Lib.compact (srt ks)).length = ks.length) := by
      rw [Bool.eq_iff_iff]
      simp
      omega
     rw [e1, e2]
     simp [jkeyed, hkx]
   · have hg : ((ks.length : Int) == (xs.length : Int)) = false := by simp; omega
     refine walkGF (And.intro @sA_ren (And.intro @sA_len (And.intro @cells_mk hg))) ?_
     refine retX Tryz.results190 ?_
     refine frz_c ?_
     simp [jkeyed, hkx]
end

theorem ixfJ_told {g : FuncId} {fs cs : List AV} (hp : AV.pureL fs = true) (hp' : AV.pureL cs = true) (l : List (JT)) (p : JT → Bool) (hk : ∀ x ∈ l, Told Tryz.prog g (fs ++ ([x.av] ++ cs)) (.c (.v (.bool (p x))))) :
  Told Tryz.prog 221 [.c (.sl 5 (l.map JT.cells)), .fn (.func g) fs cs] (.c (.v (.int .i64 (idxP p l)))) := by
 refine VC.told ent_221 Tryz.func221 rfl Tryz.ntmps221 (by simp) (by simp [AV.pureB, AV.pureL, hp, hp']) rfl fun hb => ?_
 simp only [List.mem_cons, List.not_mem_nil, or_false, forall_eq_or_imp, forall_eq, abd_c, pbd_sl, List.length_map] at hb
 have h1 := hb.1.1
 clear hb
 refine walkG ?_
 refine VC.loop (ι := {i : Nat // i ≤ l.length ∧ ∀ j x, j < i → l[j]? = some x → p x = false}) (fun i => [(0, .c (.sl 5 (l.map JT.cells))), (1, .fn (.func g) fs cs), (7, .c (.v (.int .i64 l.length))), (8, .c (.v (.int .i64 i.1)))]) (fun _ => []) 0 (fun i => l.length - i.1) ⟨0, Nat.zero_le _, by intro j x hj; omega⟩ ?_ ?_
 · simp only [sc_pureL hp, sc_pureL hp', Weak, eq_self, used_is, sc_any, sc_c, sc_pp, sc_ref, sc_row, sc_agg, sc_fn, ScL, some_imp, List.forall_mem_map, go_sem, Int.reduceBEq, Int.reduceLE, Int.reduceLT, Int.reduceNeg, Nat.reduceAdd, Nat.reduceEqDiff, Nat.reduceLT, Nat.reduceLeDiff, Nat.reduceMul, Nat.reduceSub, reduceCtorEq, ↓reduceIte]
   all_goals rfl
 rintro ⟨i, hi, ht⟩
 refine walkG ?_
 refine VC.cond (by rfl) (by trivial) (fun hc => ?_) (fun hc => ?_)
 · simp only [decide_eq_true_eq] at hc
   obtain ⟨x, hx⟩ : ∃ x, l[i]? = some x := ⟨l[i]'(by omega), List.getElem?_eq_getElem _⟩
   have hw : IntKind.i64.wrap ((i : Int) + 1) = (i : Int) + 1 := wrap64_id (by omega) (by omega)
   have hkx := hk x (List.mem_of_getElem? hx)
   (repeat (first | refine pass ?_ | refine VC.region (by rfl) (by rfl) ?_ | (refine AO.step fun K hK => ?_; simp only [List.getElem?_map, hx, JT.av, len_cells, take_cells, take_cellsC, go_sem, Int.reduceBEq, Int.reduceLE, Int.reduceLT, Int.reduceNeg, Nat.reduceAdd, Nat.reduceEqDiff, Nat.reduceLT, Nat.reduceLeDiff, Nat.reduceMul, Nat.reduceSub, reduceCtorEq, ↓reduceIte]; (first | refine gsel_skip ?_ | refine gsel_go ?_ | skip); (first | refine hK _ _ _ ?_ | refine ⟨by first | omega | exact ⟨_, rfl, rfl⟩ | exact fun _ => ⟨_, rfl, rfl⟩ | (intro h; simp only [List.getElem?_map, hx, JT.av, len_cells, take_cells, take_cellsC, h, true_and]; omega) | (clear hK; intro h; simp_all <;> omega), hK _ _ _ ?_⟩); clear hK K) | refine VC.draw mixP (by rfl) (by rfl) ?_ | refine ⟨okd_of (by kernel_rfl), ?_⟩ | refine BQ.other (by decide) ?_ | refine VC.seq ?_ | refine AO.nil ?_ | refine VC.block ?_))
   ((refine AO.step fun K hK => ?_; simp only [go_sem, Int.reduceBEq, Int.reduceLE, Int.reduceLT, Int.reduceNeg, Nat.reduceAdd, Nat.reduceEqDiff, Nat.reduceLT, Nat.reduceLeDiff, Nat.reduceMul, Nat.reduceSub, reduceCtorEq, ↓reduceIte, JT.av, len_cells, take_cells, take_cellsC, hp, hp', pureL_app, pureL_c, List.append_assoc]; (first | refine gsel_go ?_ | skip)); refine .inl ⟨_, hkx, hK _ _ _ ?_⟩; clear hK K)
   refine walkG ?_
   refine VC.cond (by rfl) (by trivial) (fun hpx => ?_) (fun hpx => ?_)
   · have hr := idxP_at hx hpx ht
     refine walkG ?_
     refine retX Tryz.results221 ?_
     rw [hr]
     exact .c _
   · refine walkGF (hw) ?_
     refine .next ⟨i + 1, by omega, fun j y hj hy => ?_⟩ ?_ (by simp only []; omega)
     · rcases Nat.lt_or_ge j i with h | h
       · exact ht j y h hy
       · obtain rfl : j = i := by omega
         rw [hx] at hy
         obtain rfl := Option.some.inj hy
         exact hpx
     simp only [sc_pureL hp, sc_pureL hp', Weak, eq_self, used_is, sc_any, sc_c, sc_pp, sc_ref, sc_row, sc_agg, sc_fn, ScL, some_imp, List.forall_mem_map, go_sem, Int.reduceBEq, Int.reduceLE, Int.reduceLT, Int.reduceNeg, Nat.reduceAdd, Nat.reduceEqDiff, Nat.reduceLT, Nat.reduceLeDiff, Nat.reduceMul, Nat.reduceSub, reduceCtorEq, ↓reduceIte]
     exact cI (by omega)
 · simp only [decide_eq_false_iff_not] at hc
   obtain rfl : i = l.length := by omega
   have hr := idxP_none ht
   refine walkG ?_
   refine retX Tryz.results221 ?_
   rw [hr]
   exact .c _
theorem cnfJ_told {g : FuncId} {fs cs : List AV} (hp : AV.pureL fs = true) (hp' : AV.pureL cs = true) (l : List (JT)) (p : JT → Bool) (hk : ∀ x ∈ l, Told Tryz.prog g (fs ++ ([x.av] ++ cs)) (.c (.v (.bool (p x))))) :
  Told Tryz.prog 191 [.c (.sl 5 (l.map JT.cells)), .fn (.func g) fs cs] (.c (.v (.bool (l.any p)))) := by
 have hi := ixfJ_told hp hp' l p hk
 refine VC.told ent_191 Tryz.func191 rfl Tryz.ntmps191 (by simp) (by simp [AV.pureB, AV.pureL, hp, hp']) rfl fun hb => ?_
 clear hb
 refine walkG ?_
 refine walkCF (And.intro hp hp') (hi) ?_
 refine walkG ?_
 refine retX Tryz.results191 ?_
 exact frz_c (by rw [idxP_any])

def JT.kids : JT → List JT
 | .mk _ _ _ _ xs => xs
mutual
theorem sm_le {N M : Nat} (h : N ≤ M) : ∀ t : JT, t.sm N → t.sm M
 | .mk k n s ks xs => fun ⟨h1, h2, h3, h4, h5⟩ => ⟨Nat.le_trans h1 h, Nat.le_trans h2 h, fun y hy => Nat.le_trans (h3 y hy) h, Nat.le_trans h4 h, smL_le h xs h5⟩
theorem smL_le {N M : Nat} (h : N ≤ M) : ∀ xs : List JT, JT.smL N xs → JT.smL M xs
 | [] => fun _ => trivial
 | x :: xs => fun hx => ⟨sm_le h x hx.1, smL_le h xs hx.2⟩
end
mutual
def jright (d : Nat) : JT → Bool
 | .mk k n s ks xs => jbare (.mk k n s ks xs) && jkeyed (.mk k n s ks xs) && !(decide (32 ≤ d) && (decide (k = 5) || decide (k = 6))) && jrights (d + 1) xs
def jrights (d : Nat) : List JT → Bool
 | [] => true
 | x :: xs => jright d x && jrights d xs
end
theorem jrights_any (d : Nat) : ∀ xs : List JT, (!xs.any fun x => !jright d x) = jrights d xs
 | [] => rfl
 | x :: xs => by rw [jrights, ← jrights_any d xs]; simp
theorem right1_told {x : JT} {z : Int} {b : Bool} (h0 : 0 ≤ z) (h1 : z ≤ 32) (h : Told Tryz.prog 150 [x.av, .c (.v (.int .i64 (z + 1)))] (.c (.v (.bool b)))) : Told Tryz.prog 192 [x.av, .pp [.v (.int .i64 z)]] (.c (.v (.bool (!b)))) := by
 have hw : IntKind.i64.wrap (z + 1) = z + 1 := wrap64_id (by omega) (by omega)
 refine VC.told ent_192 Tryz.func192 rfl Tryz.ntmps192 (by simp) (by simp [AV.pureB, AV.pureL, JT.av, pureL_c]) rfl fun hb => ?_
 clear hb
 refine walkGF (And.intro @JT.av_eq (And.intro @len_cells (And.intro @take_cells (And.intro @take_cellsC hw)))) ?_
 refine walkCF (And.intro @JT.av_eq (And.intro @len_cells (And.intro @take_cells (And.intro @take_cellsC (And.intro hw @pureL_c))))) (h) ?_
 refine walkG ?_
 refine retX Tryz.results192 ?_
 exact .c _
theorem bare_kids {k n : Int} {s : List UInt8} {ks : List (List UInt8)} {xs : List JT} (h : jbare (.mk k n s ks xs) = true) (h5 : k ≠ 5) (h6 : k ≠ 6) : xs = [] := by
 rw [jbare] at h
 split at h
 · simp at h; exact h.2
 · split at h
   · simp at h; exact h.2
   · split at h
     · simp at h; exact h.2
     · split at h
       · simp at h; exact h.1.2
       · rw [if_neg (by simp [h5, h6])] at h
         exact absurd h (by simp)
theorem right_told : ∀ (m : Nat) (t : JT), SizeOf.sizeOf t ≤ m → t.sm 4294967296 → ∀ (d : Nat) (z : Int), d ≤ 32 → z = (d : Int) → Told Tryz.prog 150 [t.av, .c (.v (.int .i64 z))] (.c (.v (.bool (jright d t)))) := by
 intro m
 induction m with
 | zero => intro t ht; cases t; simp at ht
 | succ m ih =>
 intro t ht hsm d z hd hz
 have hB := jbare_told t (sm_le (by omega) t hsm)
 have hKy := jkeyed_told t hsm
 have hx : ∀ x ∈ t.kids, Told Tryz.prog 150 [x.av, .c (.v (.int .i64 (z + 1)))] (.c (.v (.bool (jright (d + 1) x)))) ∨ 32 ≤ d := by
  intro x hx
  by_cases h32 : 32 ≤ d
  · exact .inr h32
  · cases t with
    | mk k n s ks xs => exact .inl (ih x (by have := List.sizeOf_lt_of_mem (show x ∈ xs from hx); simp at ht; omega) (smL_mem hsm.2.2.2.2 x hx) (d + 1) (z + 1) (by omega) (by omega))
 clear ih ht hsm
 obtain ⟨V, hV⟩ : ∃ V, V = jright d t := ⟨_, rfl⟩
 rw [← hV]
 cases t with
 | mk k n s ks xs =>
 rw [jright] at hV
 replace hx : ∀ x ∈ xs, _ := hx
 obtain ⟨b1, hb1⟩ : ∃ b1, b1 = jbare (.mk k n s ks xs) := ⟨_, rfl⟩
 obtain ⟨b2, hb2⟩ : ∃ b2, b2 = jkeyed (.mk k n s ks xs) := ⟨_, rfl⟩
 rw [← hb1] at hB hV
 rw [← hb2] at hKy hV
 simp only [JT.av, cells_mk, List.map_cons, List.map_nil] at hB hKy
 refine VC.told ent_150 Tryz.func150 rfl Tryz.ntmps150 (by simp) rfl rfl fun hb => ?_
 clear hb
 refine walkGF (And.intro @JT.av_eq @cells_mk) ?_
 refine walkCF (And.intro @JT.av_eq @cells_mk) (hB) ?_
 refine walkGF (And.intro @JT.av_eq @cells_mk) ?_
 refine walkDF (And.intro @JT.av_eq @cells_mk) (hKy) ?_
 refine walkGF (And.intro @JT.av_eq @cells_mk) ?_
 refine VC.cond (by rfl) (by trivial) (fun hc => ?_) (fun hc => ?_)
 · have hVf : V = false := by
    rw [hV]
    cases b1 <;> cases b2 <;> simp_all
    omega
   rw [hVf]
   refine walkG ?_
   refine retX Tryz.results150 ?_
   exact .c _
 · have hb12 : b1 = true ∧ b2 = true ∧ (32 ≤ d → k ≠ 5 ∧ k ≠ 6) := by
    cases b1 <;> cases b2 <;> simp_all
    intro h32
    exact hc (by omega)
   obtain ⟨rfl, rfl, hk56⟩ := hb12
   have hx2 : ∀ x ∈ xs, Told Tryz.prog 150 [x.av, .c (.v (.int .i64 (z + 1)))] (.c (.v (.bool (jright (d + 1) x)))) := by
    intro x hxm
    rcases hx x hxm with h | h
    · exact h
    · obtain ⟨h5, h6⟩ := hk56 h
      rw [bare_kids hb1.symm h5 h6] at hxm
      simp at hxm
   have hVt : V = jrights (d + 1) xs := by
    rw [hV]
    by_cases h32 : 32 ≤ d
    · obtain ⟨h5, h6⟩ := hk56 h32
      simp [h5, h6]
    · simp [h32]
   have hF := cnfJ_told (g := 192) (fs := []) (cs := [.pp [.v (.int .i64 z)]]) rfl rfl xs (fun x => !jright (d + 1) x) fun x hxm => right1_told (by omega) (by omega) (hx2 x hxm)
   refine VC.skip ?_; refine SQ.normal ?_
   refine VC.frz [8] [(2, .ref 0 1 0 0), (3, .pp [.v (.int .i64 z)])] [(0, ⟨false, 36, 5, [(JT.mk k n s ks xs).cells.map .c]⟩)] 400 ?_ ?_
   · simp only [cells_mk, WeakF, used_is, sc_any, sc_c, sc_pp, sc_ref, sc_row, sc_agg, sc_fn, ScL, some_imp, List.forall_mem_map, go_sem, Int.reduceBEq, Int.reduceLE, Int.reduceLT, Int.reduceNeg, Nat.reduceAdd, Nat.reduceEqDiff, Nat.reduceLT, Nat.reduceLeDiff, Nat.reduceMul, Nat.reduceSub, reduceCtorEq, ↓reduceIte]
     exact ⟨⟨.same _, .ref (es := [.v (.int .i64 z)]) (by simp) rfl rfl rfl rfl⟩, .same _⟩
   refine walkGF (@cells_mk) ?_
   refine walkCF (@cells_mk) (hF) ?_
   refine walkG ?_
   refine retX Tryz.results150 ?_
   rw [hVt, ← jrights_any]
   exact .c _
def jR (t : JT) : Bool := jright 0 t
theorem jRight_told (t : JT) (ht : t.sm 4294967296) : Told Tryz.prog 100 [t.av] (.c (.v (.bool (jR t)))) := by
 have h := right_told _ t (Nat.le_refl _) ht 0 0 (by omega) rfl
 refine VC.told ent_100 Tryz.func100 rfl Tryz.ntmps100 (by simp) (by simp [AV.pureB, AV.pureL, JT.av, pureL_c]) rfl fun hb => ?_
 clear hb
 refine walkGF (And.intro @JT.av_eq (And.intro @len_cells (And.intro @take_cells @take_cellsC))) ?_
 refine walkCF (And.intro @JT.av_eq (And.intro @len_cells (And.intro @take_cells (And.intro @take_cellsC @pureL_c)))) (h) ?_
 refine walkG ?_
 refine retX Tryz.results100 ?_
 exact .c _

theorem nodup_of {ks : List (List UInt8)} (h : (Lib.compact (srt ks)).length = ks.length) : ks.Nodup := by
 have hperm : (srt ks).Perm ks := List.mergeSort_perm ks _
 have hlen := srt_len ks
 have hsort : (srt ks).Pairwise fun a b => a ≤ b := by
  have := List.pairwise_mergeSort (le := fun x y : List UInt8 => decide (x ≤ y)) (fun a b c h1 h2 => by simp only [decide_eq_true_eq] at h1 h2 ⊢; exact List.le_trans h1 h2) (fun a b => by simp only [Bool.or_eq_true, decide_eq_true_eq]; exact List.le_total a b) ks
  exact this.imp fun h => by simpa using h
 generalize srt ks = L at h hperm hlen hsort
 refine hperm.nodup_iff.1 ?_
 have hk : ∀ j, j < L.length → Lib.keeps L.toArray j = true := by
  rw [← hlen] at h
  unfold Lib.compact Lib.compactUpTo at h
  rw [List.length_map] at h
  have h2 : ((List.range L.length).filter (Lib.keeps L.toArray)).length = (List.range L.length).length := by rw [h, List.length_range]
  intro j hj
  exact List.length_filter_eq_length_iff.1 h2 j (List.mem_range.2 hj)
 rw [List.nodup_iff_pairwise_ne, List.pairwise_iff_getElem]
 intro i j hi hj hij heq
 have h1 := List.pairwise_iff_getElem.1 hsort
 have hk1 := hk (i + 1) (by omega)
 have hle1 := h1 i (i + 1) hi (by omega) (by omega)
 have hle2 : L[i + 1]'(by omega) ≤ L[j] := by
  rcases Nat.lt_or_ge (i + 1) j with h2 | h2
  · exact h1 (i + 1) j (by omega) hj h2
  · have : i + 1 = j := by omega
    subst this
    exact List.le_refl _
 rw [← heq] at hle2
 have he := List.le_antisymm hle1 hle2
 unfold Lib.keeps at hk1
 have g1 : L.toArray[i + 1]! = L[i + 1]'(by omega) := by simp [show i + 1 < L.length by omega]
 have g2 : L.toArray[i + 1 - 1]! = L[i] := by simp [hi]
 rw [g1, g2, he] at hk1
 simp at hk1
theorem compact_nodup {ks : List (List UInt8)} (h : ks.Nodup) : (Lib.compact (srt ks)).length = ks.length := by
 have hperm : (srt ks).Perm ks := List.mergeSort_perm ks _
 have hlen := srt_len ks
 have hnd := hperm.nodup_iff.2 h
 generalize srt ks = L at hperm hlen hnd ⊢
 have hk : ∀ j, j < L.length → Lib.keeps L.toArray j = true := by
  intro j hj
  unfold Lib.keeps
  by_cases h0 : j = 0
  · simp [h0]
  · have g1 : L.toArray[j]! = L[j] := by simp [hj]
    have g2 : L.toArray[j - 1]! = L[j - 1]'(by omega) := by simp [show j - 1 < L.length by omega]
    rw [g1, g2]
    have := List.pairwise_iff_getElem.1 (List.nodup_iff_pairwise_ne.1 hnd) (j - 1) j (by omega) hj (by omega)
    exact decide_eq_true (.inr fun e => this e.symm)
 unfold Lib.compact Lib.compactUpTo
 rw [List.length_map, List.length_filter_eq_length_iff.2 fun j hj => hk j (List.mem_range.1 hj), List.length_range, hlen]

def rfail : JT → Bool
 | .mk k n s ks xs => decide (k < 1) || decide (k > 6) || (decide (k ≠ 2) && decide (k ≠ 3) && decide (n ≠ 0)) || (decide (k = 2) && decide (n ≠ 0) && decide (n ≠ 1)) || (decide (k ≠ 4) && !s.isEmpty) || !isRight s
   || (decide (k < 5) && !xs.isEmpty) || (decide (k ≠ 6) && !ks.isEmpty) || (decide (k = 6) && decide (ks.length ≠ xs.length))
mutual
def rshape : JT → Bool
 | .mk k n s ks xs => !rfail (.mk k n s ks xs) && (ks.all isRight && decide ks.Nodup) && rshapes xs
def rshapes : List JT → Bool
 | [] => true
 | x :: xs => rshape x && rshapes xs
end
theorem right_empty : isRight [] = true := by decide +kernel
theorem deeps_le (m : Nat) : ∀ (xs : List JT) (n : Nat), tdeeps n xs ≤ m ↔ n ≤ m ∧ ∀ x ∈ xs, 1 + tdeep x ≤ m
 | [], n => by simp [tdeeps]
 | x :: xs, n => by
   rw [tdeeps, deeps_le m xs]
   simp only [List.mem_cons, forall_eq_or_imp]
   constructor
   · rintro ⟨h1, h2⟩; exact ⟨by omega, by omega, h2⟩
   · rintro ⟨h1, h2, h3⟩; exact ⟨by omega, h3⟩
theorem keyed_iff {k n : Int} {s : List UInt8} {ks : List (List UInt8)} {xs : List JT} : jkeyed (.mk k n s ks xs) = ((if k ≠ 6 then ks.isEmpty else decide (ks.length = xs.length)) && (ks.all isRight && decide ks.Nodup)) := by
 rw [jkeyed]
 by_cases h6 : k = 6
 · rw [if_neg (by simp [h6]), if_neg (by simp [h6])]
   have : decide ((Lib.compact (srt ks)).length = ks.length) = decide ks.Nodup := by
    rw [Bool.eq_iff_iff]
    simp only [decide_eq_true_eq]
    exact ⟨nodup_of, compact_nodup⟩
   rw [this, Bool.and_comm (ks.all isRight)]
 · rw [if_pos h6, if_pos h6]
   cases ks with
   | nil => simp
   | cons y ks => simp
theorem bare_iff (k n : Int) (s : List UInt8) (ks : List (List UInt8)) (xs : List JT) : (jbare (.mk k n s ks xs) && (if k ≠ 6 then ks.isEmpty else decide (ks.length = xs.length))) = !rfail (.mk k n s ks xs) := by
 rw [Bool.eq_iff_iff]
 unfold rfail
 rw [jbare]
 have hr := right_empty
 by_cases h1 : k = 1
 · subst h1; cases s <;> cases xs <;> cases ks <;> simp [hr]
 by_cases h2 : k = 2
 · subst h2; cases s <;> cases xs <;> cases ks <;> simp [hr]
   all_goals omega
 by_cases h3 : k = 3
 · subst h3; cases s <;> cases xs <;> cases ks <;> simp [hr]
 by_cases h4 : k = 4
 · subst h4; cases s <;> cases xs <;> cases ks <;> simp [hr]
 by_cases h5 : k = 5
 · subst h5; cases s <;> cases xs <;> cases ks <;> simp [hr]
 by_cases h6 : k = 6
 · subst h6; cases s <;> cases xs <;> cases ks <;> simp [hr]
 · have : k < 1 ∨ k > 6 := by omega
   simp [h1, h2, h3, h4, h5, h6, this]
   omega
mutual
theorem right_shape (d : Nat) (hd : d ≤ 32) : ∀ t : JT, jright d t = (decide (d + tdeep t ≤ 32) && rshape t)
 | .mk k n s ks xs => by
   rw [jright, rshape, keyed_iff, ← bare_iff, tdeep]
   by_cases hb : jbare (.mk k n s ks xs) = true
   · by_cases h56 : k = 5 ∨ k = 6
     · rw [if_pos h56]
       by_cases h32 : d = 32
       · subst h32
         have := (deeps_le 0 xs 1)
         have h1 : ¬ 32 + tdeeps 1 xs ≤ 32 := by
          intro h
          have := (deeps_le 0 xs 1).1 (by omega)
          omega
         rw [Bool.eq_iff_iff]
         simp [h1]
         omega
       · rw [rights_shapes (d + 1) (by omega) xs]
         have h2 : decide (d + tdeeps 1 xs ≤ 32) = (xs.all fun x => decide (d + 1 + tdeep x ≤ 32)) := by
          rw [Bool.eq_iff_iff]
          simp only [decide_eq_true_eq, List.all_eq_true]
          have := deeps_le (32 - d) xs 1
          constructor
          · intro h x hx
            have := (this.1 (by omega)).2 x hx
            omega
          · intro h
            have := this.2 ⟨by omega, fun x hx => by have := h x hx; omega⟩
            omega
         have h3 : decide (32 ≤ d) = false := by simp; omega
         rw [h2, hb, h3]
         simp only [Bool.false_and, Bool.not_false, Bool.and_true, Bool.true_and]
         generalize (xs.all fun x => decide (d + 1 + tdeep x ≤ 32)) = A
         generalize ((if k ≠ 6 then ks.isEmpty else decide (ks.length = xs.length)) && (ks.all isRight && decide ks.Nodup)) = Z
         cases A <;> cases Z <;> simp
     · rw [if_neg h56, bare_kids hb (fun h => h56 (.inl h)) (fun h => h56 (.inr h))]
       have h5 : decide (k = 5) = false := by simp; exact fun h => h56 (.inl h)
       have h6 : decide (k = 6) = false := by simp; exact fun h => h56 (.inr h)
       rw [h5, h6]
       simp [jrights, rshapes, hd, Bool.and_assoc]
   · simp [hb]
theorem rights_shapes (d : Nat) (hd : d ≤ 32) : ∀ xs : List JT, jrights d xs = ((xs.all fun x => decide (d + tdeep x ≤ 32)) && rshapes xs)
 | [] => rfl
 | x :: xs => by
   rw [jrights, rshapes, right_shape d hd x, rights_shapes d hd xs, List.all_cons]
   cases decide (d + tdeep x ≤ 32) <;> cases rshape x <;> simp
end
theorem jR_shape (t : JT) : jR t = (decide (tdeep t ≤ 32) && rshape t) := by
 unfold jR
 rw [right_shape 0 (by omega) t, Nat.zero_add]

theorem taken_next {α : Type} [DecidableEq α] {ks ls : List α} {i : Nat} {x y : α} (hx : ks[i]? = some x) (hy : ls[i]? = some y) (ht : ks.take i = ls.take i) : ks.take (i + 1) = ls.take (i + 1) ↔ x = y := by
 rw [List.take_add_one, List.take_add_one, hx, hy, ht]
 simp
theorem sequal_told (ks ls : List (List UInt8)) : Told Tryz.prog 48 [.c (.sl 1 (ks.map sPV)), .c (.sl 1 (ls.map sPV))] (.c (.v (.bool (ks == ls)))) := by
 refine VC.told ent_48 Tryz.func48 rfl Tryz.ntmps48 (by simp) rfl rfl fun hb => ?_
 simp only [abd_c, pbd_sl, List.mem_cons, List.not_mem_nil, or_false, forall_eq_or_imp, forall_eq, List.length_map] at hb
 have h1 := hb.1.1
 have h2 := hb.2.1
 clear hb
 refine walkG ?_
 refine VC.cond (by rfl) (by trivial) (fun hc => ?_) (fun hc => ?_)
 · have hne : (ks == ls) = false := by
    rw [beq_eq_false_iff_ne]
    intro e
    subst e
    simp at hc
   refine walkG ?_
   refine ⟨.inr rfl, ?_⟩
   rw [Tryz.results48, hne]
   simp only [resOk, resV, go_sem, simprocAttr]
   exact .c _
 · have hlen : ks.length = ls.length := by
    simp at hc
    omega
   refine walkG ?_
   refine VC.loop (ι := {i : Nat // i ≤ ks.length ∧ ks.take i = ls.take i}) (fun i => [(0, .c (.sl 1 (ks.map sPV))), (1, .c (.sl 1 (ls.map sPV))), (12, .c (.v (.int .i64 ks.length))), (13, .c (.v (.int .i64 i.1)))]) (fun _ => []) 0 (fun i => ks.length - i.1) ⟨0, Nat.zero_le _, rfl⟩ ?_ ?_
   · simp only [Weak, eq_self, used_is, sc_any, sc_c, sc_pp, sc_ref, sc_row, sc_agg, sc_fn, ScL, some_imp, List.forall_mem_map, go_sem, Int.reduceBEq, Int.reduceLE, Int.reduceLT, Int.reduceNeg, Nat.reduceAdd, Nat.reduceEqDiff, Nat.reduceLT, Nat.reduceLeDiff, Nat.reduceMul, Nat.reduceSub, reduceCtorEq, ↓reduceIte]
     all_goals rfl
   rintro ⟨i, hi, ht⟩
   refine walkG ?_
   refine VC.cond (by rfl) (by trivial) (fun hc => ?_) (fun hc => ?_)
   · simp only [decide_eq_true_eq] at hc
     obtain ⟨x, hx⟩ : ∃ x, ks[i]? = some x := ⟨ks[i], List.getElem?_eq_getElem (by omega)⟩
     obtain ⟨y, hy⟩ : ∃ y, ls[i]? = some y := ⟨ls[i], List.getElem?_eq_getElem (by omega)⟩
     have hw : IntKind.i64.wrap ((i : Int) + 1) = (i : Int) + 1 := wrap64_id (by omega) (by omega)
     have htn := taken_next hx hy ht
     (repeat (first | refine pass ?_ | refine VC.region (by rfl) (by rfl) ?_ | (refine AO.step fun K hK => ?_; simp only [List.getElem?_map, hx, hy, sPV, str_toList, go_sem, Int.reduceBEq, Int.reduceLE, Int.reduceLT, Int.reduceNeg, Nat.reduceAdd, Nat.reduceEqDiff, Nat.reduceLT, Nat.reduceLeDiff, Nat.reduceMul, Nat.reduceSub, reduceCtorEq, ↓reduceIte]; (first | refine gsel_skip ?_ | refine gsel_go ?_ | skip); (first | refine hK _ _ _ ?_ | refine ⟨by first | omega | exact ⟨_, rfl, rfl⟩ | exact fun _ => ⟨_, rfl, rfl⟩ | (intro h; simp only [List.getElem?_map, hx, hy, sPV, str_toList, h, true_and]; omega) | (clear hK; intro h; simp_all <;> omega), hK _ _ _ ?_⟩); clear hK K) | refine VC.draw mixP (by rfl) (by rfl) ?_ | refine ⟨okd_of (by kernel_rfl), ?_⟩ | refine BQ.other (by decide) ?_ | refine VC.seq ?_ | refine AO.nil ?_ | refine VC.block ?_))
     refine VC.cond (by rfl) (by trivial) (fun hc2 => ?_) (fun hc2 => ?_)
     · have hne : (ks == ls) = false := by
        rw [beq_eq_false_iff_ne]
        intro e
        subst e
        rw [hx] at hy
        obtain rfl := Option.some.inj hy
        simp at hc2
       refine walkG ?_
       refine ⟨.inr rfl, ?_⟩
       rw [Tryz.results48, hne]
       simp only [resOk, resV, go_sem, simprocAttr]
       exact .c _
     · have hxy : x = y := by simpa using hc2
       refine walkGF (hw) ?_
       refine .next ⟨i + 1, by omega, htn.2 hxy⟩ ?_ (by simp only []; omega)
       refine weakX ?_
       exact cI (by omega)
   · simp only [decide_eq_false_iff_not] at hc
     obtain rfl : i = ks.length := by omega
     have heq : (ks == ls) = true := by
      rw [List.take_length, hlen, List.take_length] at ht
      simp [ht]
     refine walkG ?_
     refine ⟨.inr rfl, ?_⟩
     rw [Tryz.results48, heq]
     simp only [resOk, resV, go_sem, simprocAttr]
     exact .c _
noncomputable def jeq (a b : JT) : Bool := @decide (a = b) (Classical.propDecidable _)
theorem jeq_iff (a b : JT) : jeq a b = true ↔ a = b := by simp [jeq]
theorem jeq_false (a b : JT) : jeq a b = false ↔ a ≠ b := by simp [jeq]
theorem jeq_self (a : JT) : jeq a a = true := (jeq_iff a a).2 rfl
noncomputable def jeqL (a b : List JT) : Bool := @decide (a = b) (Classical.propDecidable _)
theorem jeqL_iff (a b : List JT) : jeqL a b = true ↔ a = b := by simp [jeqL]
theorem jeqL_false (a b : List JT) : jeqL a b = false ↔ a ≠ b := by simp [jeqL]
theorem jeq_mk (k n k' n' : Int) (s s' : List UInt8) (ks ks' : List (List UInt8)) (xs xs' : List JT) : jeq (.mk k n s ks xs) (.mk k' n' s' ks' xs') = ((((k == k' && n == n') && s == s') && ks == ks') && jeqL xs xs') := by
 rw [Bool.eq_iff_iff]
 simp only [jeq_iff, Bool.and_eq_true, beq_iff_eq, jeqL_iff, JT.mk.injEq]
 constructor
 · rintro ⟨rfl, rfl, rfl, rfl, rfl⟩; simp
 · rintro ⟨⟨⟨⟨rfl, rfl⟩, rfl⟩, rfl⟩, rfl⟩; simp
theorem eqfunc_told (xs ys : List JT) (hcall : ∀ x ∈ xs, ∀ y, Told Tryz.prog 76 [x.av, y.av] (.c (.v (.bool (jeq x y))))) :
  Told Tryz.prog 138 [.c (.sl 5 (xs.map JT.cells)), .c (.sl 5 (ys.map JT.cells)), .fn (.func 76) [] []] (.c (.v (.bool (jeqL xs ys)))) := by
 refine VC.told ent_138 Tryz.func138 rfl Tryz.ntmps138 (by simp) rfl rfl fun hb => ?_
 simp only [abd_c, pbd_sl, List.mem_cons, List.not_mem_nil, or_false, forall_eq_or_imp, forall_eq, List.length_map] at hb
 have h1 := hb.1.1
 have h2 := hb.2.1.1
 clear hb
 refine walkG ?_
 refine VC.cond (by rfl) (by trivial) (fun hc => ?_) (fun hc => ?_)
 · have hne : jeqL xs ys = false := by
    rw [jeqL_false]
    intro e
    subst e
    simp at hc
   refine walkG ?_
   refine ⟨.inr rfl, ?_⟩
   rw [Tryz.results138, hne]
   simp only [resOk, resV, go_sem, simprocAttr]
   exact .c _
 · have hlen : xs.length = ys.length := by
    simp at hc
    omega
   refine walkG ?_
   refine VC.loop (ι := {i : Nat // i ≤ xs.length ∧ xs.take i = ys.take i}) (fun i => [(1, .c (.sl 5 (ys.map JT.cells))), (2, .fn (.func 76) [] []), (15, .c (.sl 5 (xs.map JT.cells))), (16, .c (.v (.int .i64 xs.length))), (17, .c (.v (.int .i64 i.1)))]) (fun _ => []) 0 (fun i => xs.length - i.1) ⟨0, Nat.zero_le _, rfl⟩ ?_ ?_
   · simp only [Weak, eq_self, used_is, sc_any, sc_c, sc_pp, sc_ref, sc_row, sc_agg, sc_fn, ScL, some_imp, List.forall_mem_map, go_sem, Int.reduceBEq, Int.reduceLE, Int.reduceLT, Int.reduceNeg, Nat.reduceAdd, Nat.reduceEqDiff, Nat.reduceLT, Nat.reduceLeDiff, Nat.reduceMul, Nat.reduceSub, reduceCtorEq, ↓reduceIte]
     all_goals rfl
   rintro ⟨i, hi, ht⟩
   refine walkG ?_
   refine VC.cond (by rfl) (by trivial) (fun hc => ?_) (fun hc => ?_)
   · simp only [decide_eq_true_eq] at hc
     obtain ⟨x, hx⟩ : ∃ x, xs[i]? = some x := ⟨xs[i], List.getElem?_eq_getElem (by omega)⟩
     obtain ⟨y, hy⟩ : ∃ y, ys[i]? = some y := ⟨ys[i], List.getElem?_eq_getElem (by omega)⟩
     have hw : IntKind.i64.wrap ((i : Int) + 1) = (i : Int) + 1 := wrap64_id (by omega) (by omega)
     have hcl := hcall x (List.mem_of_getElem? hx) y
     (repeat (first | refine pass ?_ | refine VC.region (by rfl) (by rfl) ?_ | (refine AO.step fun K hK => ?_; simp only [List.getElem?_map, hx, hy, len_cells, take_cells, take_cellsC, go_sem, Int.reduceBEq, Int.reduceLE, Int.reduceLT, Int.reduceNeg, Nat.reduceAdd, Nat.reduceEqDiff, Nat.reduceLT, Nat.reduceLeDiff, Nat.reduceMul, Nat.reduceSub, reduceCtorEq, ↓reduceIte]; (first | refine gsel_skip ?_ | refine gsel_go ?_ | skip); (first | refine hK _ _ _ ?_ | refine ⟨by first | omega | exact ⟨_, rfl, rfl⟩ | exact fun _ => ⟨_, rfl, rfl⟩ | (intro h; simp only [List.getElem?_map, hx, hy, len_cells, take_cells, take_cellsC, h, true_and]; omega) | (clear hK; intro h; simp_all <;> omega), hK _ _ _ ?_⟩); clear hK K) | refine VC.draw mixP (by rfl) (by rfl) ?_ | refine ⟨okd_of (by kernel_rfl), ?_⟩ | refine BQ.other (by decide) ?_ | refine VC.seq ?_ | refine AO.nil ?_ | refine VC.block ?_))
     (refine AO.step fun K hK => ?_; simp only [go_sem, Int.reduceBEq, Int.reduceLE, Int.reduceLT, Int.reduceNeg, Nat.reduceAdd, Nat.reduceEqDiff, Nat.reduceLT, Nat.reduceLeDiff, Nat.reduceMul, Nat.reduceSub, reduceCtorEq, ↓reduceIte, pureL_c]; (first | refine gsel_go ?_ | skip))
     refine .inl ⟨_, hcl, hK _ _ _ ?_⟩
     clear hK K
     refine walkG ?_
     refine VC.cond (by rfl) (by trivial) (fun hc2 => ?_) (fun hc2 => ?_)
     · have hne : jeqL xs ys = false := by
        rw [jeqL_false]
        intro e
        subst e
        rw [hx] at hy
        obtain rfl := Option.some.inj hy
        rw [jeq_self] at hc2
        simp at hc2
       refine walkG ?_
       refine ⟨.inr rfl, ?_⟩
       rw [Tryz.results138, hne]
       simp only [resOk, resV, go_sem, simprocAttr]
       exact .c _
     · have hxy : x = y := by
        rw [← jeq_iff]
        simpa using hc2
       refine walkGF (hw) ?_
       refine .next ⟨i + 1, by omega, ?_⟩ ?_ (by simp only []; omega)
       · rw [List.take_add_one, List.take_add_one, hx, hy, ht, hxy]
       refine weakX ?_
       exact cI (by omega)
   · simp only [decide_eq_false_iff_not] at hc
     obtain rfl : i = xs.length := by omega
     have heq : jeqL xs ys = true := by
      rw [List.take_length, hlen, List.take_length] at ht
      rw [jeqL_iff, ht]
     refine walkG ?_
     refine ⟨.inr rfl, ?_⟩
     rw [Tryz.results138, heq]
     simp only [resOk, resV, go_sem, simprocAttr]
     exact .c _
theorem same_told : ∀ (m : Nat) (a b : JT), SizeOf.sizeOf a ≤ m → Told Tryz.prog 76 [a.av, b.av] (.c (.v (.bool (jeq a b)))) := by
 intro m
 induction m with
 | zero => intro a b ha; cases a; simp at ha
 | succ m ih =>
 intro a b ha
 cases a with
 | mk k n s ks xs =>
 cases b with
 | mk k' n' s' ks' xs' =>
 refine VC.told ent_76 Tryz.func76 rfl Tryz.ntmps76 (by simp) rfl rfl fun hb => ?_
 clear hb
 simp only [JT.av, cells_mk, List.map_cons, List.map_nil]
 have hE := eqfunc_told xs xs' fun x hx y => ih x y (by
  have h1 := List.sizeOf_lt_of_mem hx
  simp at ha
  omega)
 refine walkGF (@str_toList) ?_
 (refine AO.step fun K hK => ?_; simp only [go_sem, Int.reduceBEq, Int.reduceLE, Int.reduceLT, Int.reduceNeg, Nat.reduceAdd, Nat.reduceEqDiff, Nat.reduceLT, Nat.reduceLeDiff, Nat.reduceMul, Nat.reduceSub, reduceCtorEq, ↓reduceIte]; (first | refine gsel_go ?_ | skip))
 refine .inl ⟨_, fun _ => sequal_told ks ks', hK _ _ _ ?_⟩
 clear hK K
 refine walkG ?_
 (refine AO.step fun K hK => ?_; simp only [go_sem, Int.reduceBEq, Int.reduceLE, Int.reduceLT, Int.reduceNeg, Nat.reduceAdd, Nat.reduceEqDiff, Nat.reduceLT, Nat.reduceLeDiff, Nat.reduceMul, Nat.reduceSub, reduceCtorEq, ↓reduceIte]; (first | refine gsel_go ?_ | skip))
 refine .inl ⟨_, fun _ => hE, hK _ _ _ ?_⟩
 clear hK K
 refine walkG ?_
 refine ⟨.inr rfl, ?_⟩
 rw [Tryz.results76]
 simp only [resOk, resV, go_sem, simprocAttr]
 rw [jeq_mk]
 exact .c _

/-! Names. -/
def isLet (c : UInt8) : Bool := (decide (97 ≤ c.toNat) && decide (c.toNat ≤ 122)) || ((decide (65 ≤ c.toNat) && decide (c.toNat ≤ 90)) || decide (c.toNat = 95))
def isDig (c : UInt8) : Bool := decide (48 ≤ c.toNat) && decide (c.toNat ≤ 57)
def simp1 : List UInt8 → Bool
 | [] => false
 | c :: cs => isLet c && cs.all fun c => isLet c || isDig c
def simpleM (s : List UInt8) : Bool := decide (s.length ≤ 100) && simp1 s
def fullF : Nat → List UInt8 → Bool
 | 0, _ => false
 | n + 1, s => simp1 (s.takeWhile (· != 46)) && (match s.dropWhile (· != 46) with | [] => true | _ :: r => fullF n r)
def fullM (s : List UInt8) : Bool := decide (s.length ≤ 100) && fullF (s.length + 1) s
theorem fullF_fuel : ∀ (n m : Nat) (s : List UInt8), s.length < n → s.length < m → fullF n s = fullF m s
 | 0, _, _, h, _ => by omega
 | _, 0, _, _, h => by omega
 | n + 1, m + 1, s, h1, h2 => by
   rw [fullF, fullF]
   congr 1
   have hd : (s.dropWhile (· != 46)).length ≤ s.length := (List.dropWhile_sublist _).length_le
   split
   · rfl
   · rename_i x r hr
     rw [hr] at hd
     simp at hd
     exact fullF_fuel n m r (by omega) (by omega)
def kwords : List (List UInt8) := [[], [110, 117, 108, 108], [98, 111, 111, 108, 101, 97, 110], [105, 110, 116], [108, 111, 110, 103], [102, 108, 111, 97, 116], [100, 111, 117, 98, 108, 101], [98, 121, 116, 101, 115], [115, 116, 114, 105, 110, 103], [114, 101, 99, 111, 114, 100], [101, 110, 117, 109], [97, 114, 114, 97, 121], [109, 97, 112], [], [102, 105, 120, 101, 100]]
def kindM (s : List UInt8) : Nat := if s = [] then 0 else match kwords.findIdx? (· == s) with | some i => i | none => 0
/-! Schemas that may be. -/
def diffM (rule : List UInt8 → Bool) (l : List (List UInt8)) : Bool := l.all rule && decide l.Nodup
def allM (rule : List UInt8 → Bool) (l : List (List UInt8)) : Bool := decide (l.length ≤ 40) && l.all rule
def jzero : JT := .mk 0 0 [] [] []
def bareM (n : NT) : Bool :=
 (namedK n.kind || (n.name.isEmpty && n.aliases.isEmpty)) && ((n.kind == 9 || n.fields.isEmpty) && ((n.kind == 10 || (n.symbols.isEmpty && (!n.has && n.dflt.isEmpty))) && ((n.kind == 14 || n.size == 0) && ((n.kind == 11 || n.kind == 12 || n.items == 0) && (n.kind == 13 || n.branches.isEmpty)))))
noncomputable def fieldM (f : FT) : Bool := allM simpleM f.aliases && (if f.has = true then jR f.dflt else jeq f.dflt jzero)
noncomputable def fieldsM (l : List FT) : Bool := l.all fieldM && (decide (l.length ≤ 40) && diffM simpleM (l.map (·.name)))
def branchM (ns : List NT) (l : List Int) (k : Int) : Bool := kindAt ns k.toNat != 13 && !l.any fun m => m == k || (!namedK (kindAt ns k.toNat) && kindAt ns m.toNat == kindAt ns k.toNat)
def branchesM (ns : List NT) : List Int → List Int → Bool
 | _, [] => true
 | l, k :: ks => branchM ns l k && branchesM ns (l ++ [k]) ks
def unionM (ns : List NT) (l : List Int) : Bool := decide (1 ≤ l.length) && (decide (l.length ≤ 10) && branchesM ns [] l)
noncomputable def nodeM (ns : List NT) (n : NT) : Bool :=
 (decide (1 ≤ n.kind) && (decide (n.kind ≤ 14) && bareM n)) && ((!namedK n.kind || (fullM n.name && (kindM n.name == 0 && allM fullM n.aliases))) && (
  if n.kind = 9 then fieldsM n.fields else if n.kind = 10 then ((n.has == n.symbols.contains n.dflt) && (n.has || n.dflt.isEmpty)) && (decide (1 ≤ n.symbols.length) && (decide (n.symbols.length ≤ 40) && diffM simpleM n.symbols))
  else if n.kind = 14 then decide (0 ≤ n.size) && decide (n.size ≤ 1000) else if n.kind = 13 then unionM ns n.branches else true))
def weighK (f : Nat → List Int → Int × List Int) : List FT → Int → List Int → Int × List Int
 | [], n, kn => (n, kn)
 | x :: xs, n, kn => weighK f xs (min (n + (f x.type.toNat kn).1) 1001) (f x.type.toNat kn).2
def knAt (kn : List Int) (k : Nat) : Int := match kn[k]? with | some n => n | none => 0
def fieldsAt (ns : List NT) (k : Nat) : List FT := match ns[k]? with | some n => (if n.kind = 9 then n.fields else []) | none => []
def weighM (ns : List NT) : Nat → Nat → List Int → Int × List Int
 | 0, _, kn => (1001, kn)
 | d + 1, p, kn => if knAt kn p < 0 then (1001, kn) else if 0 < knAt kn p then (knAt kn p, kn) else
   ((weighK (weighM ns d) (fieldsAt ns p) 1 (kn.set p (-1))).1, (weighK (weighM ns d) (fieldsAt ns p) 1 (kn.set p (-1))).2.set p (weighK (weighM ns d) (fieldsAt ns p) 1 (kn.set p (-1))).1)
noncomputable def rightL (ns : List NT) : List NT → Nat → List Int → Bool
 | [], _, _ => true
 | n :: r, p, kn => nodeM ns n && (decide ((weighM ns (ns.length + 1) p kn).1 ≤ 1000) && rightL ns r (p + 1) (weighM ns (ns.length + 1) p kn).2)
def namesM (ns : List NT) : List (List UInt8) := (ns.filter fun n => namedK n.kind).map (·.name)
noncomputable def rightM (s : ST) : Bool := orderedM s && (rightL s.nodes s.nodes 0 (List.replicate s.nodes.length 0) && diffM fullM (namesM s.nodes))
theorem right_ordered {s : ST} (h : rightM s = true) : orderedM s = true := by
 unfold rightM at h
 simp only [Bool.and_eq_true] at h
 exact h.1

theorem told_plain {P : Program} {f : FuncId} {xs : List Value} {r : Value} (hE : Enters P f) (hr : r.oneCell' = true) (h : ∀ W : World, Calls P f xs.toArray W fun e w' => e = .returned r ∧ w' = W) : Told P f (xs.map fun x => .c (.v x)) (.c (.v r)) := by
 refine ⟨hE, fun W ro vs hro hgk hl => ?_⟩
 have hvs : vs = xs := by
  apply List.ext_getElem?
  intro k
  by_cases hk : k < xs.length
  · have hkv : k < vs.length := by rw [hl.1]; simpa using hk
    have := hl.2 k _ _ (by rw [List.getElem?_map, List.getElem?_eq_getElem hk]; rfl) (List.getElem?_eq_getElem hkv)
    rw [List.getElem?_eq_getElem hkv, rep_prim this, List.getElem?_eq_getElem hk]
  · rw [List.getElem?_eq_none (by rw [hl.1]; simpa using hk), List.getElem?_eq_none (by omega)]
 subst hvs
 refine (h W).mono ?_
 rintro e W' ⟨rfl, rfl⟩
 exact ⟨r, ro, rfl, Below.refl _ _, fun b h => h, fun b h => ⟨.inl h, hro b h⟩, .c (.v hr), .c _⟩

theorem letter_told (c : UInt8) : Told Tryz.prog 186 [.c (.v (.int .u8 (c.toNat : Int)))] (.c (.v (.bool (isLet c)))) := by
 obtain ⟨V, hV⟩ : ∃ V, V = isLet c := ⟨_, rfl⟩
 rw [← hV]
 obtain ⟨y, hy⟩ : ∃ y : Int, y = (c.toNat : Int) := ⟨_, rfl⟩
 rw [← hy]
 have hv : V = ((decide (y ≥ 97) && decide (y ≤ 122)) || ((decide (y ≥ 65) && decide (y ≤ 90)) || (y == 95))) := by
  have e : (y == 95) = decide (c.toNat = 95) := by
   rw [hy]
   by_cases h : c.toNat = 95
   · simp [h]
   · have : ¬ ((c.toNat : Int) = 95) := by omega
     simp [h, this]
  rw [hV, isLet, e, hy]
  congr 1
  · congr 1 <;> simp <;> omega
  · congr 1
    congr 1 <;> simp <;> omega
 clear hV hy
 replace hv := Lib.hid hv
 refine VC.toldP ent_186 Tryz.func186 rfl Tryz.ntmps186 fun hb => ?_
 clear hb
 (repeat (first | refine pass ?_ | refine VC.region (by rfl) (by rfl) ?_ | (refine AO.step fun K hK => ?_; simp only [List.append_assoc, go_sem, Int.reduceBEq, Int.reduceLE, Int.reduceLT, Int.reduceNeg, Nat.reduceAdd, Nat.reduceEqDiff, Nat.reduceLT, Nat.reduceLeDiff, Nat.reduceMul, Nat.reduceSub, reduceCtorEq, ↓reduceIte]; (first | refine gsel_skip ?_ | refine gsel_go ?_ | skip); (first | refine hK _ _ _ ?_ | refine ⟨by first | omega | exact ⟨_, rfl, rfl⟩ | exact fun _ => ⟨_, rfl, rfl⟩ | (intro h; simp only [List.append_assoc, h, true_and]; omega) | (clear hK; intro h; simp_all <;> omega), hK _ _ _ ?_⟩); clear hK K) | refine VC.draw mixP (by rfl) (by rfl) ?_ | refine ⟨okd_of (by kernel_rfl), ?_⟩ | refine BQ.other (by decide) ?_ | refine VC.seq ?_ | refine AO.nil ?_ | refine VC.block ?_))
 refine retX Tryz.results186 ?_
 have hv2 : V = ((decide (y ≥ 97) && decide (y ≤ 122)) || (decide (y ≥ 65) && decide (y ≤ 90)) || (y == 95)) := by rw [hv.out, Bool.or_assoc]
 rw [hv2]
 exact .c _
def okAt (i : Nat) (c : UInt8) : Bool := isLet c || (decide (0 < i) && isDig c)
theorem simp1_at {s : List UInt8} : simp1 s = true ↔ s ≠ [] ∧ ∀ (i : Nat) (c : UInt8), s[i]? = some c → okAt i c = true := by
 cases s with
 | nil => simp [simp1]
 | cons x xs =>
   simp only [simp1, Bool.and_eq_true, List.all_eq_true, ne_eq, reduceCtorEq, not_false_eq_true, true_and]
   constructor
   · rintro ⟨h1, h2⟩ i c hc
     match i with
     | 0 =>
       simp at hc
       subst hc
       simp [okAt, h1]
     | i + 1 =>
       rw [List.getElem?_cons_succ] at hc
       have := h2 c (List.mem_of_getElem? hc)
       simpa [okAt] using this
   · intro h
     refine ⟨by simpa [okAt] using h 0 x rfl, fun c hc => ?_⟩
     obtain ⟨i, hi⟩ := List.getElem?_of_mem hc
     simpa [okAt] using h (i + 1) c (by rw [List.getElem?_cons_succ]; exact hi)
theorem simple1_told (s : List UInt8) (hs : s.length ≤ 1000000000) : Told Tryz.prog 137 [.c (.v (.string (str s)))] (.c (.v (.bool (simp1 s)))) := by
 obtain ⟨V, hV⟩ : ∃ V, V = simp1 s := ⟨_, rfl⟩
 rw [← hV]
 refine VC.toldP ent_137 Tryz.func137 rfl Tryz.ntmps137 fun hb => ?_
 clear hb
 refine walkGF (@str_size) ?_
 refine VC.loop (ι := {i : Nat // i ≤ s.length ∧ ∀ (j : Nat) (c : UInt8), j < i → s[j]? = some c → okAt j c = true})
  (fun q => [(0, .c (.v (.string (str s)))), (5, .c (.v (.int .i64 (s.length : Int)))), (6, .c (.v (.int .i64 (q.1 : Int))))]) (fun _ => []) 800 (fun q => s.length - q.1) ⟨0, Nat.zero_le _, fun j c h => by omega⟩ ?_ ?_
 · simp only [Weak, eq_self, used_is, sc_any, sc_c, sc_pp, sc_ref, sc_row, sc_agg, sc_fn, ScL, some_imp, List.forall_mem_map, go_sem, Int.reduceBEq, Int.reduceLE, Int.reduceLT, Int.reduceNeg, Nat.reduceAdd, Nat.reduceEqDiff, Nat.reduceLT, Nat.reduceLeDiff, Nat.reduceMul, Nat.reduceSub, reduceCtorEq, ↓reduceIte]
   try trivial
 rintro ⟨i, hi, ht⟩
 simp only []
 refine walkG ?_
 refine VC.cond (by rfl) (by trivial) (fun hc => ?_) (fun hc => ?_)
 · have hlt : i < s.length := by simp at hc; omega
   obtain ⟨c, hx⟩ : ∃ c, s[i]? = some c := ⟨s[i], List.getElem?_eq_getElem hlt⟩
   have hw : IntKind.i64.wrap ((i : Int) + 1) = (i : Int) + 1 := wrap64_id (by omega) (by omega)
   have hL := letter_told c
   refine walkGF (And.intro @str_size (And.intro @str_dl hx)) ?_
   refine walkC (hL) ?_
   refine walkGF (And.intro @str_size (And.intro @str_dl hx)) ?_
   refine VC.cond (by rfl) (by trivial) (fun hc2 => ?_) (fun hc2 => ?_)
   · have hf : V = false := by
      cases h : V with
      | false => rfl
      | true =>
        rw [hV, simp1_at] at h
        have := h.2 i c hx
        cases hl : isLet c with
        | true => simp [hl] at hc2
        | false =>
          simp [okAt, isDig, hl] at this hc2
          omega
     subst hf
     refine walkG ?_
     refine retX Tryz.results137 ?_
     exact .c _
   · refine walkGF (hw) ?_
     refine .next ⟨i + 1, by omega, ?_⟩ ?_ (by simp only []; omega)
     · intro j d hj hd
       by_cases hji : j < i
       · exact ht j d hji hd
       · obtain rfl : j = i := by omega
         rw [hx] at hd
         obtain rfl := Option.some.inj hd
         cases hl : isLet c with
         | true => simp [okAt, hl]
         | false =>
           simp [okAt, isDig, hl] at hc2 ⊢
           omega
     simp only [Weak, eq_self, used_is, sc_any, sc_c, sc_pp, sc_ref, sc_row, sc_agg, sc_fn, ScL, some_imp, List.forall_mem_map, go_sem, Int.reduceBEq, Int.reduceLE, Int.reduceLT, Int.reduceNeg, Nat.reduceAdd, Nat.reduceEqDiff, Nat.reduceLT, Nat.reduceLeDiff, Nat.reduceMul, Nat.reduceSub, reduceCtorEq, ↓reduceIte]
     try exact cI (by omega)
 · have hE : (⟨#[]⟩ : ByteArray).toList = [] := str_toList []
   have hie : i = s.length := by simp at hc; omega
   have hf : V = !(s == []) := by
    rw [hV, Bool.eq_iff_iff, simp1_at]
    constructor
    · rintro ⟨h1, _⟩
      simpa using h1
    · intro h1
      refine ⟨by simpa using h1, fun j c hj => ht j c ?_ hj⟩
      have := (List.getElem?_eq_some_iff.1 hj).1
      omega
   refine walkGF (And.intro @str_toList hE) ?_
   refine retX Tryz.results137 ?_
   rw [hf]
   exact .c _
theorem simple_told (s : List UInt8) (hs : s.length ≤ 1000000000) : Told Tryz.prog 134 [.c (.v (.string (str s)))] (.c (.v (.bool (simpleM s)))) := by
 obtain ⟨V, hV⟩ : ∃ V, V = simpleM s := ⟨_, rfl⟩
 rw [← hV]
 have hv : V = (decide ((s.length : Int) ≤ 100) && simp1 s) := by
  rw [hV, simpleM]
  congr 1
  simp
  omega
 have hT := simple1_told s hs
 clear hV
 refine VC.toldP ent_134 Tryz.func134 rfl Tryz.ntmps134 fun hb => ?_
 clear hb
 refine walkGF (@str_size) ?_
 refine walkD (hT) ?_
 refine walkG ?_
 refine retX Tryz.results134 ?_
 rw [hv]
 exact .c _

theorem index_take (c : UInt8) : ∀ s : List UInt8, (Lib.indexByte s c = -1 ∧ s.takeWhile (· != c) = s ∧ s.dropWhile (· != c) = []) ∨ (∃ i : Nat, i < s.length ∧ Lib.indexByte s c = (i : Int) ∧ s.takeWhile (· != c) = s.take i ∧ s.dropWhile (· != c) = c :: s.drop (i + 1))
 | [] => .inl ⟨rfl, rfl, rfl⟩
 | x :: xs => by
   by_cases h : x = c
   · subst h
     exact .inr ⟨0, by simp, by simp [Lib.indexByte], by simp, by simp⟩
   · have hb : (x == c) = false := by simp [h]
     have hb' : (x != c) = true := by simp [h]
     rcases index_take c xs with ⟨h1, h2, h3⟩ | ⟨i, h0, h1, h2, h3⟩
     · exact .inl ⟨by simp [Lib.indexByte, hb, h1], by rw [List.takeWhile_cons, if_pos hb', h2], by rw [List.dropWhile_cons, if_pos hb', h3]⟩
     · refine .inr ⟨i + 1, by simp; omega, ?_, by rw [List.takeWhile_cons, if_pos hb', h2]; rfl, by rw [List.dropWhile_cons, if_pos hb', h3]; rfl⟩
       rw [Lib.indexByte, hb, h1]
       have : ((i : Int) == -1) = false := by simp
       simp [this]
theorem str_extract (l : List UInt8) (a b : Nat) : (str l).extract a b = str ((l.take b).drop a) := by
 apply ByteArray.ext
 simp [str, ByteArray.data_extract, List.drop_take]
theorem index_told (s : List UInt8) : Told Tryz.prog 214 [.c (.v (.string (str s))), .c (.v (.string ⟨#[46]⟩))] (.c (.v (.int .i64 (Lib.indexByte s 46)))) :=
 told_plain (xs := [.string (str s), .string ⟨#[46]⟩]) ent_214 rfl fun W => Tryz.stringslite_Index_one (str s) 46 W
theorem cut0_told (s : List UInt8) (hs : s.length ≤ 1000000000) : Told Tryz.prog 185 [.c (.v (.string (str s))), .c (.v (.string ⟨#[46]⟩))] (.tup [.c (.v (.string (str (s.takeWhile (· != 46))))), .c (.v (.string (str (s.dropWhile (· != 46)).tail))), .c (.v (.bool (!(s.dropWhile (· != 46)).isEmpty)))]) := by
 have hI := index_told s
 rcases index_take 46 s with ⟨h1, h2, h3⟩ | ⟨i, h0, h1, h2, h3⟩
 · rw [h2, h3]
   rw [h1] at hI
   refine VC.toldP ent_185 Tryz.func185 rfl Tryz.ntmps185 fun hb => ?_
   clear hb
   refine walkG ?_
   refine walkC (hI) ?_
   refine walkB ?_
   refine retX Tryz.results185 ?_
   exact ⟨.c _, .c _, .c _⟩
 · rw [h2, h3]
   rw [h1] at hI
   have hd : decide ((i : Int) ≥ 0) = true := by simp
   have hz : (⟨#[46]⟩ : ByteArray).size = 1 := rfl
   have hw : IntKind.i64.wrap ((i : Int) + 1) = (i : Int) + 1 := wrap64_id (by omega) (by omega)
   have hx1 : (str s).extract 0 i = str (s.take i) := by
    rw [str_extract, List.drop_zero]
   have hx2 : (str s).extract (i + 1) s.length = str (s.drop (i + 1)) := by
    rw [str_extract, List.take_length]
   have ht : ((i : Int) + 1).toNat = i + 1 := by omega
   refine VC.toldP ent_185 Tryz.func185 rfl Tryz.ntmps185 fun hb => ?_
   clear hb
   refine walkG ?_
   refine walkC (hI) ?_
   refine walkBF (And.intro hd (And.intro hz (And.intro hw @str_size))) ?_
   refine retX Tryz.results185 ?_
   rw [ht, hx1, hx2]
   exact ⟨.c _, .c _, .c _⟩
theorem cut_told (s : List UInt8) (hs : s.length ≤ 1000000000) : Told Tryz.prog 136 [.c (.v (.string (str s))), .c (.v (.string ⟨#[46]⟩))] (.tup [.c (.v (.string (str (s.takeWhile (· != 46))))), .c (.v (.string (str (s.dropWhile (· != 46)).tail))), .c (.v (.bool (!(s.dropWhile (· != 46)).isEmpty)))]) := by
 have hI := cut0_told s hs
 refine VC.toldP ent_136 Tryz.func136 rfl Tryz.ntmps136 fun hb => ?_
 clear hb
 refine walkG ?_
 refine walkC (hI) ?_
 refine walkG ?_
 refine retX Tryz.results136 ?_
 exact ⟨.c _, .c _, .c _⟩
theorem full_told (s : List UInt8) (hs : s.length ≤ 1000000000) : Told Tryz.prog 72 [.c (.v (.string (str s)))] (.c (.v (.bool (fullM s)))) := by
 obtain ⟨V, hV⟩ : ∃ V, V = fullM s := ⟨_, rfl⟩
 rw [← hV]
 unfold fullM at hV
 refine VC.toldP ent_72 Tryz.func72 rfl Tryz.ntmps72 fun hb => ?_
 clear hb
 refine walkGF (@str_size) ?_
 refine VC.cond (by rfl) (by trivial) (fun hc => ?_) (fun hc => ?_)
 · have hf : V = false := by
    have : ¬ (s.length ≤ 100) := by simp at hc; omega
    rw [hV]
    simp [this]
   subst hf
   refine walkG ?_
   refine retX Tryz.results72 ?_
   exact .c _
 have hl : s.length ≤ 100 := by simp at hc; omega
 have hv : fullF (s.length + 1) s = V := by rw [hV]; simp [hl]
 clear hV hc
 refine walkG ?_
 refine VC.loop (ι := {l : List UInt8 // l.length ≤ 100 ∧ fullF (l.length + 1) l = V}) (fun q => [(0, .c (.v (.string (str q.1))))]) (fun _ => []) 800 (fun q => q.1.length) ⟨s, hl, hv⟩ ?_ ?_
 · exact weakZ
 rintro ⟨l, hl, hv⟩
 simp only []
 rw [fullF] at hv
 have hC := cut_told l (by omega)
 obtain ⟨p, hp⟩ : ∃ p, p = l.takeWhile (· != 46) := ⟨_, rfl⟩
 obtain ⟨D, hD⟩ : ∃ D, D = l.dropWhile (· != 46) := ⟨_, rfl⟩
 have hpl : p.length ≤ l.length := by rw [hp]; exact (List.takeWhile_sublist _).length_le
 have hDl : D.length ≤ l.length := by rw [hD]; exact (List.dropWhile_sublist _).length_le
 rw [← hp, ← hD] at hC hv
 clear hp hD
 have hS := simple1_told p (by omega)
 refine walkG ?_
 refine walkC (hC) ?_
 refine walkG ?_
 refine walkC (hS) ?_
 refine walkG ?_
 refine VC.cond (by rfl) (by trivial) (fun hc => ?_) (fun hc => ?_)
 · have hf : V = false := by
    rw [← hv]
    have : simp1 p = false := by simpa using hc
    simp [this]
   subst hf
   refine walkG ?_
   refine retX Tryz.results72 ?_
   exact .c _
 have hp1 : simp1 p = true := by simpa using hc
 rw [hp1, Bool.true_and] at hv
 refine walkG ?_
 refine VC.cond (by rfl) (by trivial) (fun hc2 => ?_) (fun hc2 => ?_)
 · cases D with
   | cons x r => simp at hc2
   | nil =>
     have hf : V = true := hv.symm
     subst hf
     refine walkG ?_
     refine retX Tryz.results72 ?_
     exact .c _
 · cases D with
   | nil => simp at hc2
   | cons x r =>
     simp only [] at hv
     simp only [List.length_cons] at hDl
     (repeat (first | refine pass ?_ | refine VC.region (by rfl) (by rfl) ?_ | (refine AO.step fun K hK => ?_; simp only [List.tail_cons, go_sem, Int.reduceBEq, Int.reduceLE, Int.reduceLT, Int.reduceNeg, Nat.reduceAdd, Nat.reduceEqDiff, Nat.reduceLT, Nat.reduceLeDiff, Nat.reduceMul, Nat.reduceSub, reduceCtorEq, ↓reduceIte]; (first | refine gsel_skip ?_ | refine gsel_go ?_ | skip); (first | refine hK _ _ _ ?_ | refine ⟨by first | omega | exact ⟨_, rfl, rfl⟩ | exact fun _ => ⟨_, rfl, rfl⟩ | (intro h; simp only [List.tail_cons, h, true_and]; omega) | (clear hK; intro h; simp_all <;> omega), hK _ _ _ ?_⟩); clear hK K) | refine VC.draw mixP (by rfl) (by rfl) ?_ | refine ⟨okd_of (by kernel_rfl), ?_⟩ | refine BQ.other (by decide) ?_ | refine VC.seq ?_ | refine AO.nil ?_ | refine VC.block ?_))
     refine .next ⟨r, by omega, by rw [← hv]; exact fullF_fuel _ _ _ (by omega) (by omega)⟩ ?_ (by simp only []; omega)
     exact weakZ
theorem kind_told (s : List UInt8) : Told Tryz.prog 130 [.c (.v (.string (str s)))] (.c (.v (.int .i64 (kindM s : Int)))) := by
 obtain ⟨V, hV⟩ : ∃ V, V = kindM s := ⟨_, rfl⟩
 rw [← hV]
 obtain ⟨L, hL⟩ : ∃ L, L = kwords.map fun l => PV.v (.string (str l)) := ⟨_, rfl⟩
 have hg : glob Tryz.prog 0 = some L := by rw [hL]; kernel_rfl
 have hLl : L.length = 15 := by rw [hL]; rfl
 have hLt : L.take 15 = L := by rw [← hLl, List.take_length]
 refine VC.toldP ent_130 Tryz.func130 rfl Tryz.ntmps130 fun hb => ?_
 clear hb
 refine walkGF (And.intro hg (And.intro hLl hLt)) ?_
 have hE : (⟨#[]⟩ : ByteArray).toList = [] := str_toList []
 have hkl : kwords.length = 15 := rfl
 refine VC.loop (ι := {i : Nat // i ≤ 15 ∧ ∀ (j : Nat) (w : List UInt8), j < i → kwords[j]? = some w → s ≠ [] → w ≠ s}) (fun q => [(0, .c (.v (.string (str s)))), (5, .agg (L.map .c)), (6, .c (.v (.int .i64 (q.1 : Int))))]) (fun _ => []) 800 (fun q => 15 - q.1) ⟨0, by omega, fun j w h => by omega⟩ ?_ ?_
 · exact weakZ
 rintro ⟨i, hi, ht⟩
 simp only []
 refine walkG ?_
 refine VC.cond (by rfl) (by trivial) (fun hc => ?_) (fun hc => ?_)
 · have hlt : i < 15 := by simp at hc; omega
   obtain ⟨w, hx⟩ : ∃ w, kwords[i]? = some w := ⟨kwords[i]'(by omega), List.getElem?_eq_getElem (by omega)⟩
   have hLx : (L.map AV.c)[i]? = some (.c (.v (.string (str w)))) := by rw [hL, List.getElem?_map, List.getElem?_map, hx]; rfl
   have hw : IntKind.i64.wrap ((i : Int) + 1) = (i : Int) + 1 := wrap64_id (by omega) (by omega)
   refine walkGF (And.intro hLx (And.intro @str_toList hE)) ?_
   refine VC.cond (by rfl) (by trivial) (fun hc2 => ?_) (fun hc2 => ?_)
   · have hh : w = s ∧ s ≠ [] := by simpa using hc2
     have hf : V = i := by
      rw [hV, kindM, if_neg hh.2]
      have : kwords.findIdx? (· == s) = some i := by
       rw [List.findIdx?_eq_some_iff_getElem]
       refine ⟨by omega, ?_, fun j hj => ?_⟩
       · have := (List.getElem?_eq_some_iff.1 hx).2
         simp [this, hh.1]
       · have := ht j _ hj (List.getElem?_eq_getElem (by omega)) hh.2
         simpa using this
      rw [this]
     subst hf
     refine walkG ?_
     refine retX Tryz.results130 ?_
     exact .c _
   · have hh : ¬ (w = s ∧ s ≠ []) := by simpa using hc2
     refine walkGF (hw) ?_
     refine .next ⟨i + 1, by omega, ?_⟩ ?_ (by simp only []; omega)
     · intro j u hj hu hs
       by_cases hji : j < i
       · exact ht j u hji hu hs
       · obtain rfl : j = i := by omega
         rw [hx] at hu
         obtain rfl := Option.some.inj hu
         exact fun e => hh ⟨e, hs⟩
     refine weakX ?_
     exact cI (by omega)
 · have hie : i = 15 := by simp at hc; omega
   have hf : V = 0 := by
    rw [hV, kindM]
    split
    · rfl
    · rename_i hs
      have : kwords.findIdx? (· == s) = none := by
       rw [List.findIdx?_eq_none_iff]
       intro w hw
       obtain ⟨j, hj⟩ := List.getElem?_of_mem hw
       have := ht j w (by have := (List.getElem?_eq_some_iff.1 hj).1; omega) hj hs
       simpa using this
      rw [this]
   subst hf
   refine walkG ?_
   refine retX Tryz.results130 ?_
   exact .c _

def rA {α : Type} (f : α → List PV) (l : List α) : List (List AV) := l.map fun x => (f x).map .c
theorem rA_len {α : Type} (f : α → List PV) (l : List α) : (rA f l).length = l.length := by simp [rA]
theorem rA_nil {α : Type} (f : α → List PV) : rA f [] = [] := rfl
theorem rA_at {α : Type} {f : α → List PV} {l : List α} {i : Nat} {x : α} (h : l[i]? = some x) : (rA f l)[i]? = some ((f x).map .c) := by simp [rA, h]
theorem rA_set {α : Type} {f : α → List PV} (l : List α) (i : Nat) (x : α) : (rA f l).set i ((f x).map .c) = rA f (l.set i x) := by simp [rA, List.map_set]
theorem rA_one {α : Type} (f : α → List PV) (l : List α) (x : α) : rA f l ++ [(f x).map .c] = rA f (l ++ [x]) := by simp [rA]
theorem rA_pv {α : Type} (f : α → List PV) (l : List α) : rA f l = (l.map f).map fun e => e.map AV.c := by simp [rA]
theorem renL_pv (ρ : Nat → Nat) : ∀ l : List PV, AV.renL ρ (l.map .c) = l.map .c
 | [] => rfl
 | x :: l => by rw [List.map_cons, AV.renL, renL_pv ρ l]; rfl
theorem rA_ren {α : Type} (ρ : Nat → Nat) (f : α → List PV) (l : List α) : (rA f l).map (AV.renL ρ) = rA f l := by
 unfold rA
 rw [List.map_map]
 apply List.map_congr_left
 intro x _
 exact renL_pv ρ _
theorem rA_sc {α : Type} {used : Nat → Prop} {h : Nat → Option Blkd} (f : α → List PV) (l : List α) : (∀ e ∈ rA f l, ∀ x ∈ e, Sc used h x) = True := eq_true fun e he x hx => by
 obtain ⟨b, _, rfl⟩ := List.mem_map.1 he
 obtain ⟨p, _, rfl⟩ := List.mem_map.1 hx
 exact .c
theorem frz_rA {α : Type} {K : Nat → Bool} {h : Nat → Option Blkd} {j n : Nat} {T : TypeId} {z : Nat} {f : α → List PV} {l : List α} (hB : h j = some ⟨true, T, z, rA f l⟩) (hn : l.length = n) (hk : K j = false) (hz : ∀ x ∈ l, (f x).length = z) :
  Frz K h (.row j n) (.c (.sl z (l.map f))) := by
 refine Frz.row (B := ⟨true, T, z, rA f l⟩) hB rfl ?_ hk ?_ ?_ ?_
 · show (rA f l).length = n
   rw [rA_len, hn]
 · simp [rA_len]
 · intro i e e' h1 h2
   rw [rA_pv, List.getElem?_map, h2] at h1
   obtain rfl := Option.some.inj h1
   simp
 · intro i k e e' x p h1 h2 h3 h4
   rw [rA_pv, List.getElem?_map, h2] at h1
   obtain rfl := Option.some.inj h1
   rw [List.getElem?_map, h4] at h3
   obtain rfl := Option.some.inj h3
   exact .c p
section

section
variable {P : Program} {ops : Array Oper} {o : Oper} {ℓ : Nat} {t : Nat → AV} {h : Nat → Option Blkd}
theorem J_indexG (s : TypeId) (g : Nat) (y : Operand) (T E : TyA) (es : List PV) (q : PV) (k : IntKind) (i : Int) (n e : Nat) (ho : o.op = .indexAddr s (.global g) y) (hg : glob P g = some es) (hy : okx t y) (ey : ev t y = .c (.v (.int k i)))
  (hT : tyA P s = some T) (hk : T.kind = 6) (hf : T.flds = [(n, e)]) (hE : tyA P e = some E) (hs : E.size = 1) (h0 : 0 ≤ i) (h1 : i < (n : Int)) (hq : es[i.toNat]? = some q) : J P o ℓ t h ⟨.pp [q], [], []⟩ := by
 refine J.val fun C used N t1 h1' ro φ a W ht hh r => ?_
 obtain ⟨h4, h5⟩ := ht y (by simp [ho, Op.operands])
 have ey' := rep_prim (h := h1') (by rw [← ey, ← h4]; exact ev_rep r y (h5 ▸ hy))
 have hv : a.eval (.global g) = .pointer (some ⟨g, 0, none⟩) := rfl
 obtain ⟨hro, vs, hc, hl⟩ := r.gok g es hg
 have hlt : i.toNat < vs.length := by
  have := (List.getElem?_eq_some_iff.1 hq).1
  have := hl.1
  omega
 obtain ⟨d, ii, g2, g3, rfl⟩ := tyA_some hT
 obtain ⟨n', e', rfl⟩ := kind_array hk
 obtain ⟨rfl, rfl⟩ : n' = n ∧ e' = e := by simpa [descFlds] using hf
 refine ⟨.pointer (some ⟨g, i.toNat, none⟩), ?_, ?_, .pp⟩
 · simp [execOp, ho, hv, ey', Instr.indexAt, asIntOf, run_underlying g2, Instr.sureAddr, h0, h1, run_size hE, hs, addr_add]
 · refine .pp hro (cells := [q]) (vs := [vs[i.toNat]]) ?_ ⟨rfl, fun j p v h1 h2 => ?_⟩
   · have := hc.sub i.toNat 1
     rw [Nat.zero_add, List.drop_eq_getElem_cons hlt, List.take_succ_cons, List.take_zero] at this
     exact this
   · match j with
     | 0 =>
       obtain rfl := Option.some.inj h1
       obtain rfl := Option.some.inj h2
       exact hl.2 i.toNat _ _ hq (List.getElem?_eq_getElem hlt)
     | j + 1 => simp at h1
theorem AO.stepJ {l : List Oper} {n : Nat} {fs : Foot} {R : (Nat → AV) → (Nat → Option Blkd) → Foot → Prop} {v : AV} (hgd : o.guard = none) (hJ : J P o n t h ⟨v, [], []⟩) (H : AO P ops l (n + 8) (putd o.dst v t) h (fs ++ [([], [])]) R) : AO P ops (o :: l) n t h fs R :=
 ⟨_, JG.plain hgd hJ, H.out⟩
end
def wordM (k : Nat) : List UInt8 := (kwords[k]?).getD []
theorem word_at (k : Nat) (h : k ≤ 14) : kwords[k]? = some (wordM k) := by
 unfold wordM
 rw [List.getElem?_eq_getElem (show k < kwords.length by have : kwords.length = 15 := rfl; omega)]
 rfl
theorem word_told (k : Nat) (h : k ≤ 14) : Told Tryz.prog 83 [.c (.v (.int .i64 (k : Int)))] (.c (.v (.string (str (wordM k))))) := by
 obtain ⟨L, hL⟩ : ∃ L, L = kwords.map fun l => PV.v (.string (str l)) := ⟨_, rfl⟩
 have hg : glob Tryz.prog 0 = some L := by rw [hL]; kernel_rfl
 have hLl : L.length = 15 := by rw [hL]; rfl
 have hLt : L.take 15 = L := by rw [← hLl, List.take_length]
 have hx := word_at k h
 generalize wordM k = w at hx ⊢
 have hLx : (L.map AV.c)[k]? = some (.c (.v (.string (str w)))) := by rw [hL, List.getElem?_map, List.getElem?_map, hx]; rfl
 have hLy : L[k]? = some (.v (.string (str w))) := by rw [hL, List.getElem?_map, hx]; rfl
 have e1 : decide ((k : Int) < 0) = false := by simp
 have e2 : decide ((k : Int) ≥ 15) = false := by simp; omega
 refine VC.toldP ent_83 Tryz.func83 rfl Tryz.ntmps83 fun hb => ?_
 clear hb
 refine walkBF (And.intro e1 (And.intro e2 (And.intro hg (And.intro hLl (And.intro hLt (And.intro hLx hLy)))))) ?_
 refine AO.stepJ rfl (J_indexG _ _ _ _ _ L (.v (.string (str w))) _ (k : Int) _ _ rfl hg (by trivial) rfl tyA_186 rfl rfl tyA_9 rfl (by omega) (by omega) (by simpa using hLy)) ?_
 refine walkG ?_
 refine retX Tryz.results83 ?_
 exact .c _
def blP (b : Bool) : List PV := [.v (.bool b)]
def mB (M : List Bool) : Blkd := ⟨true, 4, 1, rA blP M⟩
end

theorem sindex_told (ks : List (List UInt8)) (key : List UInt8) : Told Tryz.prog 182 [.c (.sl 1 (ks.map sPV)), .c (.v (.string (str key)))] (.c (.v (.int .i64 (idxS key ks)))) := by
 refine VC.told ent_182 Tryz.func182 rfl Tryz.ntmps182 (by simp) rfl rfl fun hb => ?_
 simp only [abd_c, pbd_sl, pbd_v, List.mem_cons, List.not_mem_nil, or_false, forall_eq_or_imp, forall_eq, List.length_map, and_true] at hb
 have h1 := hb.1
 clear hb
 refine walkG ?_
 refine VC.loop (ι := {i : Nat // i ≤ ks.length ∧ ∀ j, j < i → ks[j]? ≠ some key}) (fun i => [(0, .c (.sl 1 (ks.map sPV))), (1, .c (.v (.string (str key)))), (7, .c (.v (.int .i64 ks.length))), (8, .c (.v (.int .i64 i.1)))]) (fun _ => []) 0 (fun i => ks.length - i.1) ⟨0, Nat.zero_le _, by intro j hj; omega⟩ ?_ ?_
 · simp only [Weak, eq_self, used_is, sc_any, sc_c, sc_pp, sc_ref, sc_row, sc_agg, sc_fn, ScL, some_imp, List.forall_mem_map, go_sem, Int.reduceBEq, Int.reduceLE, Int.reduceLT, Int.reduceNeg, Nat.reduceAdd, Nat.reduceEqDiff, Nat.reduceLT, Nat.reduceLeDiff, Nat.reduceMul, Nat.reduceSub, reduceCtorEq, ↓reduceIte]
   all_goals rfl
 rintro ⟨i, hi, ht⟩
 refine walkG ?_
 refine VC.cond (by rfl) (by trivial) (fun hc => ?_) (fun hc => ?_)
 · simp only [decide_eq_true_eq] at hc
   obtain ⟨x, hx⟩ : ∃ x, ks[i]? = some x := ⟨ks[i], List.getElem?_eq_getElem (by omega)⟩
   have hw : IntKind.i64.wrap ((i : Int) + 1) = (i : Int) + 1 := wrap64_id (by omega) (by omega)
   (repeat (first | refine pass ?_ | refine VC.region (by rfl) (by rfl) ?_ | (refine AO.step fun K hK => ?_; simp only [List.getElem?_map, hx, sPV, str_toList, go_sem, Int.reduceBEq, Int.reduceLE, Int.reduceLT, Int.reduceNeg, Nat.reduceAdd, Nat.reduceEqDiff, Nat.reduceLT, Nat.reduceLeDiff, Nat.reduceMul, Nat.reduceSub, reduceCtorEq, ↓reduceIte]; (first | refine gsel_skip ?_ | refine gsel_go ?_ | skip); (first | refine hK _ _ _ ?_ | refine ⟨by first | omega | exact ⟨_, rfl, rfl⟩ | exact fun _ => ⟨_, rfl, rfl⟩ | (intro h; simp only [List.getElem?_map, hx, sPV, str_toList, h, true_and]; omega) | (clear hK; intro h; simp_all <;> omega), hK _ _ _ ?_⟩); clear hK K) | refine VC.draw mixP (by rfl) (by rfl) ?_ | refine ⟨okd_of (by kernel_rfl), ?_⟩ | refine BQ.other (by decide) ?_ | refine VC.seq ?_ | refine AO.nil ?_ | refine VC.block ?_))
   refine VC.cond (by rfl) (by trivial) (fun hc2 => ?_) (fun hc2 => ?_)
   · have hxy : key = x := by simpa using hc2
     subst hxy
     have hr := idxS_at hx ht
     refine walkG ?_
     refine ⟨.inr rfl, ?_⟩
     rw [Tryz.results182, hr]
     simp only [resOk, resV, go_sem, simprocAttr]
     exact .c _
   · have hxy : key ≠ x := by simpa using hc2
     refine walkGF (hw) ?_
     refine .next ⟨i + 1, by omega, fun j hj => ?_⟩ ?_ (by simp only []; omega)
     · rcases Nat.lt_or_ge j i with h | h
       · exact ht j h
       · obtain rfl : j = i := by omega
         rw [hx]
         intro e
         exact hxy (Option.some.inj e).symm
     refine weakX ?_
     exact cI (by omega)
 · simp only [decide_eq_false_iff_not] at hc
   obtain rfl : i = ks.length := by omega
   have hr := idxS_none ht
   refine walkG ?_
   refine ⟨.inr rfl, ?_⟩
   rw [Tryz.results182, hr]
   simp only [resOk, resV, go_sem, simprocAttr]
   exact .c _

theorem named_told (k : Int) : Told Tryz.prog 70 [.c (.v (.int .i64 k))] (.c (.v (.bool (namedK k)))) := by
 obtain ⟨V, hV⟩ : ∃ V, V = namedK k := ⟨_, rfl⟩
 rw [← hV]
 unfold namedK at hV
 replace hV := Lib.hid hV
 refine VC.toldP ent_70 Tryz.func70 rfl Tryz.ntmps70 fun hb => ?_
 clear hb
 refine walkG ?_
 refine retX Tryz.results70 ?_
 rw [hV.out]
 exact .c _
theorem idxS_ge (key : List UInt8) (ks : List (List UInt8)) : decide (idxS key ks ≥ 0) = ks.contains key := by
 unfold idxS
 cases h : ks.findIdx? (fun k => decide (key = k)) with
 | none =>
   rw [List.findIdx?_eq_none_iff] at h
   have : key ∉ ks := fun hm => by simpa using h key hm
   simp [this]
 | some i =>
   rw [List.findIdx?_eq_some_iff_getElem] at h
   obtain ⟨hi, h1, _⟩ := h
   have : key ∈ ks := by
    have := List.getElem_mem hi
    simp at h1
    rwa [← h1] at this
   simp [this]
theorem contains_told (ks : List (List UInt8)) (key : List UInt8) : Told Tryz.prog 133 [.c (.sl 1 (ks.map sPV)), .c (.v (.string (str key)))] (.c (.v (.bool (ks.contains key)))) := by
 have hI := sindex_told ks key
 have hG := idxS_ge key ks
 generalize idxS key ks = z at hI hG
 rw [← hG]
 clear hG
 refine VC.toldP ent_133 Tryz.func133 rfl Tryz.ntmps133 fun hb => ?_
 clear hb
 refine walkG ?_
 refine walkC (hI) ?_
 refine walkG ?_
 refine retX Tryz.results133 ?_
 exact .c _
def fnP (g : FuncId) : PV := .v (.func (.func g) ⟨[]⟩ ⟨[]⟩)
theorem diffM_take {rule : List UInt8 → Bool} {l : List (List UInt8)} {i : Nat} {x : List UInt8} (hx : l[i]? = some x) : diffM rule (l.take (i + 1)) = (diffM rule (l.take i) && (rule x && !(l.take i).contains x)) := by
 have ht : l.take (i + 1) = l.take i ++ [x] := by
  rw [List.take_add_one, hx]
  rfl
 rw [ht, Bool.eq_iff_iff]
 simp only [diffM, List.all_append, List.all_cons, List.all_nil, Bool.and_true, Bool.and_eq_true, decide_eq_true_eq, List.nodup_append, Bool.not_eq_true', List.contains_eq_mem, decide_eq_false_iff_not]
 constructor
 · rintro ⟨⟨h1, h2⟩, h3, _, h5⟩
   exact ⟨⟨h1, h3⟩, h2, fun h => h5 x h x (by simp) rfl⟩
 · rintro ⟨⟨h1, h3⟩, h2, h4⟩
   exact ⟨⟨h1, h2⟩, h3, by simp, fun a ha b hb => by
    obtain rfl := List.mem_singleton.1 hb
    rintro rfl
    exact h4 ha⟩
theorem different_told {g : FuncId} {rule : List UInt8 → Bool} (l : List (List UInt8)) (hl : l.length ≤ 1000000000) (hk : ∀ x ∈ l, Told Tryz.prog g [.c (.v (.string (str x)))] (.c (.v (.bool (rule x))))) :
  Told Tryz.prog 71 [.c (.sl 1 (l.map sPV)), .fn (.func g) [] []] (.c (.v (.bool (diffM rule l)))) := by
 obtain ⟨V, hV⟩ : ∃ V, V = diffM rule l := ⟨_, rfl⟩
 rw [← hV]
 refine VC.toldP ent_71 Tryz.func71 rfl Tryz.ntmps71 fun hb => ?_
 clear hb
 refine walkG ?_
 refine VC.loop (ι := {i : Nat // i ≤ l.length ∧ diffM rule (l.take i) = true}) (fun q => [(0, .c (.sl 1 (l.map sPV))), (1, .fn (.func g) [] []), (7, .c (.sl 1 (l.map sPV))), (8, .c (.v (.int .i64 (l.length : Int)))), (9, .c (.v (.int .i64 (q.1 : Int))))]) (fun _ => []) 800 (fun q => l.length - q.1) ⟨0, Nat.zero_le _, by simp [diffM]⟩ ?_ ?_
 · simp only [Weak, eq_self, used_is, sc_any, sc_c, sc_pp, sc_ref, sc_row, sc_agg, sc_fn, ScL, some_imp, List.forall_mem_map, go_sem, Int.reduceBEq, Int.reduceLE, Int.reduceLT, Int.reduceNeg, Nat.reduceAdd, Nat.reduceEqDiff, Nat.reduceLT, Nat.reduceLeDiff, Nat.reduceMul, Nat.reduceSub, reduceCtorEq, ↓reduceIte]
   try simp
 rintro ⟨i, hi, ht⟩
 simp only []
 refine walkG ?_
 refine VC.cond (by rfl) (by trivial) (fun hc => ?_) (fun hc => ?_)
 · have hlt : i < l.length := by simp at hc; omega
   obtain ⟨x, hx⟩ : ∃ x, l[i]? = some x := ⟨l[i], List.getElem?_eq_getElem hlt⟩
   have hw : IntKind.i64.wrap ((i : Int) + 1) = (i : Int) + 1 := wrap64_id (by omega) (by omega)
   have hxp : (l.map sPV)[i]? = some (sPV x) := by rw [List.getElem?_map, hx]; rfl
   have hT := hk x (List.mem_of_getElem? hx)
   have hC := contains_told (l.take i) x
   have hn := diffM_take (rule := rule) hx
   rw [ht, Bool.true_and] at hn
   have hmt : (l.map sPV).take i = (l.take i).map sPV := by rw [List.map_take]
   refine walkGF (And.intro hxp @sPV_eq) ?_
   refine walkC (hT) ?_
   refine walkGF (hmt) ?_
   refine walkD (hC) ?_
   refine walkG ?_
   refine VC.cond (by rfl) (by trivial) (fun hc2 => ?_) (fun hc2 => ?_)
   · have hf : V = false := by
      cases h : V with
      | false => rfl
      | true =>
        rw [hV] at h
        have hall : diffM rule (l.take (i + 1)) = true := by
         unfold diffM at h ⊢
         simp only [Bool.and_eq_true, List.all_eq_true, decide_eq_true_eq] at h ⊢
         exact ⟨fun y hy => h.1 y (List.mem_of_mem_take hy), h.2.sublist (List.take_sublist _ _)⟩
        rw [hn] at hall
        simp at hall hc2
        simp [hall] at hc2
     subst hf
     refine walkG ?_
     refine retX Tryz.results71 ?_
     exact .c _
   · refine walkGF (hw) ?_
     refine .next ⟨i + 1, by omega, ?_⟩ ?_ (by simp only []; omega)
     · rw [hn]
       simpa using hc2
     simp only [Weak, eq_self, used_is, sc_any, sc_c, sc_pp, sc_ref, sc_row, sc_agg, sc_fn, ScL, some_imp, List.forall_mem_map, go_sem, Int.reduceBEq, Int.reduceLE, Int.reduceLT, Int.reduceNeg, Nat.reduceAdd, Nat.reduceEqDiff, Nat.reduceLT, Nat.reduceLeDiff, Nat.reduceMul, Nat.reduceSub, reduceCtorEq, ↓reduceIte]
     try exact cI (by omega)
 · have hie : i = l.length := by simp at hc; omega
   have hf : V = true := by
    rw [hie, List.take_length] at ht
    rw [hV, ht]
   subst hf
   refine walkG ?_
   refine retX Tryz.results71 ?_
   exact .c _
end
end Go.Proofs.YtepneflbhpidbaaGreatDoor
