/- Texts that lead to the law BuildBuilds, joined. -/
import Derived.Test.YthkofkaocipomaaGreatDoorProg
import Derived.WalkKit
import Derived.WalkSpells
import Derived.WalkLawsBesides
import Derived.Handy
import Derived.Lib.Hide
import Derived.Laws.BytesArg
import Derived.Lib.SlBytesConst
import Derived.Test.YthkofkaocipomaaGreatDoorPkBuildBuildsXTy
import Derived.RangeFuncNested
import Derived.RangeFuncBound
import Derived.RangeFuncCalls
import Derived.RangeFuncLeaves
import Derived.RangeFuncBox
import Derived.Shelf.Abstract
import Derived.Shelf.RegionOpen
import Derived.OwnWalkIn
import Derived.TacticsInMore
import Derived.LoopNIn
import Derived.LoopIn
import Derived.Maps.AppendAt
import Derived.Sort.EveryDepth
import Derived.Test.YthkofkaocipomaaGreatDoorPkBuildBuildsXShelf
import Derived.Sort.OwnSorted
import Derived.Test.YthkofkaocipomaaGreatDoorPkBuildBuildsXAbB
import Derived.Test.YthkofkaocipomaaGreatDoorPkBuildBuildsXShi
namespace Go.Proofs.YthkofkaocipomaaGreatDoor
set_option maxRecDepth 100000
set_option maxHeartbeats 6400000
open Go.RowKit
set_option linter.unusedVariables false
set_option linter.unusedSimpArgs false

def q5i (w : World) (a : Option Addr) (b off : Nat) (l : List UInt8) : Prop :=
 (l ≠ [] → a = some ⟨b, off, none⟩) ∧ ∀ j, j < l.length → w.cell? ⟨b, off + j, none⟩ = some (.int .u8 ((l[j]?.getD 0).toNat : Int))
theorem q5i.idx {w : World} {a : Option Addr} {b off : Nat} {l : List UInt8} (h : q5i w a b off l) (n c : Nat) (hn : n = l.length) (i : Int) (W : World) (h0 : 0 ≤ i) (h1 : i < (n : Int)) :
  (Instr.indexAt 50 (.slice a n c) (.int .i64 i)).run Tryz.prog W = .ok (.pointer (some ⟨b, off + i.toNat, none⟩)) W := by
 have hne : l ≠ [] := by intro e; subst e; simp at hn; omega
 rw [h.1 hne]
 simp [go_sem, h0, h1, Addr.add]
 try (split <;> simp_all)
def str (l : List UInt8) : ByteArray := ⟨l.toArray⟩
theorem q2h (l : List UInt8) : str l = ⟨l.toArray⟩ := rfl
theorem q2i (l : List UInt8) : (str l).toList = l := by rw [ByteArray.toList_eq]; rfl
theorem q2l (l : List UInt8) : (str l).size = l.length := by simp [str, ByteArray.size]
theorem str_of (s : ByteArray) : str s.data.toList = s := by cases s; rfl
theorem q5i.keep {w w' : World} {a : Option Addr} {b off : Nat} {l : List UInt8} (h : q5i w a b off l) {B : Nat} (hb : Below B w w') (hlt : l ≠ [] → b < B) : q5i w' a b off l := by
 refine ⟨h.1, fun j hj => ?_⟩
 rw [← h.2 j hj]
 exact hb.cell (p := ⟨b, off + j, none⟩) (hlt (by intro e; subst e; simp at hj))
theorem q5i.lt {w : World} {a : Option Addr} {b off : Nat} {l : List UInt8} (h : q5i w a b off l) (hne : l ≠ []) : b < w.heap.size := by
 have := h.2 0 (List.length_pos_iff.2 hne)
 rcases Nat.lt_or_ge b w.heap.size with h | h
 · exact h
 · simp [World.cell?, Array.getElem?_eq_none h] at this
theorem q5i.below {w w' : World} {a : Option Addr} {b off : Nat} {l : List UInt8} (h : q5i w a b off l) (hb : Below w.heap.size w w') : q5i w' a b off l :=
 h.keep hb fun hne => h.lt hne
theorem q5i.made (w : World) (l : List UInt8) (C : Array Value) (t : TypeId) (fr : Nat × Nat) (B : Nat) (hB : w.heap.size = B) (hC : C = (l.map fun x => Value.int .u8 (x.toNat : Int)).toArray) :
  q5i (w.alloc (.cells C t fr)) (some ⟨B, 0, none⟩) B 0 l := by
 refine ⟨fun _ => rfl, fun j hj => ?_⟩
 subst hC hB
 rw [World.cell?_alloc_mark, Nat.zero_add]
 simp [List.getElem?_eq_getElem hj]

inductive JT where
 | mk (k : Int) (n : Int) (s : List UInt8) (ks : List (List UInt8)) (xs : List JT)
def idxS (key : List UInt8) (ks : List (List UInt8)) : Int := match ks.findIdx? (fun k => decide (key = k)) with | some i => (i : Int) | none => -1
theorem idxS_at {key : List UInt8} {ks : List (List UInt8)} {i : Nat} (h : ks[i]? = some key) (h0 : ∀ j, j < i → ks[j]? ≠ some key) : idxS key ks = (i : Int) := by
 unfold idxS
 have hi := (List.getElem?_eq_some_iff.1 h)
 have : ks.findIdx? (fun k => decide (key = k)) = some i := by
  rw [List.findIdx?_eq_some_iff_getElem]
  refine ⟨hi.1, by simp [hi.2], fun j hj => ?_⟩
  simp
  intro e
  exact h0 j hj (by rw [List.getElem?_eq_getElem (by have := hi.1; omega), e])
 rw [this]
theorem idxS_none {key : List UInt8} {ks : List (List UInt8)} (h0 : ∀ j, j < ks.length → ks[j]? ≠ some key) : idxS key ks = -1 := by
 unfold idxS
 have : ks.findIdx? (fun k => decide (key = k)) = none := by
  rw [List.findIdx?_eq_none_iff]
  intro x hx
  simp
  intro e
  obtain ⟨j, hj, hx⟩ := List.getElem_of_mem hx
  exact h0 j hj (by rw [List.getElem?_eq_getElem hj, hx, e])
 rw [this]

mutual
def JT.inr : JT → Prop
 | .mk k n s ks xs => (-9223372036854775808 ≤ n ∧ n ≤ 9223372036854775807) ∧ JT.inrL xs
def JT.inrL : List JT → Prop
 | [] => True
 | x :: xs => x.inr ∧ JT.inrL xs
end
theorem inrL_of : ∀ {xs : List JT}, (∀ x ∈ xs, x.inr) → JT.inrL xs
 | [], _ => trivial
 | x :: xs, h => ⟨h x (by simp), inrL_of fun y hy => h y (by simp [hy])⟩

def sPV (s : List UInt8) : List PV := [.v (.string (str s))]
theorem q6a (s : List UInt8) : sPV s = [.v (.string (str s))] := rfl
theorem q6t (l : List UInt8) : (str l).data.toList = l := by simp [str]
mutual
def JT.cells : JT → List PV
 | .mk k n s ks xs => [.v (.int .i64 k), .v (.int .i64 n), .v (.string (str s)), .sl 5 (JT.cellsL xs), .sl 1 (ks.map sPV)]
def JT.cellsL : List JT → List (List PV)
 | [] => []
 | x :: xs => x.cells :: JT.cellsL xs
end
theorem j9m : ∀ (xs : List JT), JT.cellsL xs = xs.map JT.cells
 | [] => by simp [JT.cellsL]
 | x :: xs => by simp [JT.cellsL, j9m xs]
def JT.av (t : JT) : AV := .agg (t.cells.map .c)
theorem JT.av_eq (t : JT) : t.av = .agg (t.cells.map .c) := rfl
mutual
def q1y : JT → Nat
 | .mk k n s ks xs => if k = 5 ∨ k = 6 then q23 1 xs else 0
def q23 : Nat → List JT → Nat
 | n, [] => n
 | n, x :: xs => q23 (max n (1 + q1y x)) xs
end
theorem q0t (k n : Int) (s : List UInt8) (ks : List (List UInt8)) (xs : List JT) : (JT.mk k n s ks xs).cells = [.v (.int .i64 k), .v (.int .i64 n), .v (.string (str s)), .sl 5 (xs.map JT.cells), .sl 1 (ks.map sPV)] := by simp [JT.cells, j9m]
theorem q2n (t : JT) : t.cells.length = 5 := by cases t; simp [JT.cells]
theorem q3a (t : JT) : t.cells.take 5 = t.cells := List.take_of_length_le (by rw [q2n]; exact Nat.le_refl _)
theorem q2t (t : JT) : (t.cells.map AV.c).take 5 = t.cells.map .c := List.take_of_length_le (by rw [List.length_map, q2n]; exact Nat.le_refl _)
theorem z20 : ∀ (xs : List JT) (x : JT) (n : Nat), q23 n (xs ++ [x]) = max (q23 n xs) (1 + q1y x)
 | [], x, n => by simp [q23]
 | y :: xs, x, n => by simp only [List.cons_append, q23]; exact z20 xs x _
theorem j5n : ∀ (xs : List JT) (n : Nat), n ≤ q23 n xs ∧ ∀ x ∈ xs, q1y x + 1 ≤ q23 n xs
 | [], n => ⟨Nat.le_refl _, by simp⟩
 | y :: xs, n => by
   obtain ⟨h1, h2⟩ := j5n xs (max n (1 + q1y y))
   simp only [q23]
   refine ⟨by omega, fun x hx => ?_⟩
   rcases List.mem_cons.1 hx with rfl | hx
   · omega
   · exact h2 x hx

def JT.kd : JT → Int | .mk k _ _ _ _ => k
def JT.num : JT → Int | .mk _ n _ _ _ => n
def JT.txt : JT → List UInt8 | .mk _ _ s _ _ => s
def JT.keys : JT → List (List UInt8) | .mk _ _ _ ks _ => ks
def JT.its : JT → List JT | .mk _ _ _ _ xs => xs
def jget (t : JT) (key : List UInt8) : Option JT :=
 match t with
 | .mk k n s ks xs => if k = 6 ∧ 0 ≤ idxS key ks then xs[(idxS key ks).toNat]? else none
theorem idxS_le (key : List UInt8) (ks : List (List UInt8)) : idxS key ks < ks.length ∧ -1 ≤ idxS key ks := by
 unfold idxS
 cases h : ks.findIdx? (fun k => decide (key = k)) with
 | none => simp only []; omega
 | some i =>
   have := (List.findIdx?_eq_some_iff_getElem.1 h).1
   simp only []
   omega

def iPV (n : Int) : List PV := [.v (.int .i64 n)]
structure FT where
 name : List UInt8
 aliases : List (List UInt8)
 type : Int
 has : Bool
 dflt : JT
def FT.cells (f : FT) : List PV := .v (.string (str f.name)) :: .sl 1 (f.aliases.map sPV) :: .v (.int .i64 f.type) :: .v (.bool f.has) :: f.dflt.cells
structure NT where
 kind : Int
 name : List UInt8
 aliases : List (List UInt8)
 fields : List FT
 symbols : List (List UInt8)
 has : Bool
 dflt : List UInt8
 size : Int
 items : Int
 branches : List Int
def NT.cells (n : NT) : List PV := [.v (.int .i64 n.kind), .v (.string (str n.name)), .sl 1 (n.aliases.map sPV), .sl 9 (n.fields.map FT.cells), .sl 1 (n.symbols.map sPV), .v (.bool n.has), .v (.string (str n.dflt)), .v (.int .i64 n.size), .v (.int .i64 n.items), .sl 1 (n.branches.map iPV)]
structure ST where
 nodes : List NT
 root : Int
def ST.cells (s : ST) : List PV := [.sl 10 (s.nodes.map NT.cells), .v (.int .i64 s.root)]
def FT.av (f : FT) : AV := .agg (f.cells.map .c)
def NT.av (n : NT) : AV := .agg (n.cells.map .c)
def ST.av (s : ST) : AV := .agg (s.cells.map .c)
theorem FT.av_eq (f : FT) : f.av = .agg (f.cells.map .c) := rfl
theorem NT.av_eq (n : NT) : n.av = .agg (n.cells.map .c) := rfl
theorem ST.av_eq (s : ST) : s.av = .agg (s.cells.map .c) := rfl
theorem q66 (n : Int) : iPV n = [.v (.int .i64 n)] := rfl
theorem q3w (n : NT) : n.cells = [.v (.int .i64 n.kind), .v (.string (str n.name)), .sl 1 (n.aliases.map sPV), .sl 9 (n.fields.map FT.cells), .sl 1 (n.symbols.map sPV), .v (.bool n.has), .v (.string (str n.dflt)), .v (.int .i64 n.size), .v (.int .i64 n.items), .sl 1 (n.branches.map iPV)] := rfl
theorem q2q (s : ST) : s.cells = [.sl 10 (s.nodes.map NT.cells), .v (.int .i64 s.root)] := rfl
theorem j2d (f : FT) : f.cells = .v (.string (str f.name)) :: .sl 1 (f.aliases.map sPV) :: .v (.int .i64 f.type) :: .v (.bool f.has) :: f.dflt.cells := rfl
theorem j4w (f : FT) : f.cells.length = 9 := by simp [FT.cells, q2n]
theorem z5g (n : NT) : n.cells.length = 10 := rfl
theorem z2x (f : FT) : f.cells.take 9 = f.cells := List.take_of_length_le (by rw [j4w]; exact Nat.le_refl _)
theorem z2y (f : FT) : (f.cells.map AV.c).take 9 = f.cells.map .c := List.take_of_length_le (by rw [List.length_map, j4w]; exact Nat.le_refl _)
theorem z60 (n : NT) : n.cells.take 10 = n.cells := rfl
theorem z61 (n : NT) : (n.cells.map AV.c).take 10 = n.cells.map .c := rfl
/-! The order of a schema's nodes. -/
def q1w (k : Int) : Bool := k == 9 || k == 10 || k == 14
def q28 (n : NT) : List Int := if n.kind = 9 then n.fields.map (·.type) else if n.kind = 11 ∨ n.kind = 12 then [n.items] else if n.kind = 13 then n.branches else []
def q6n (ns : List NT) (k : Nat) : Int := match ns[k]? with | some n => n.kind | none => 0
def q3x (ns : List NT) (f : Nat → Bool × Nat) : List Int → Nat → Bool × Nat
 | [], p => (true, p)
 | k :: ks, p => if k = (p : Int) then (if (f p).1 = true then q3x ns f ks (f p).2 else (false, (f p).2)) else if k < 0 ∨ k > (p : Int) ∨ q1w (q6n ns k.toNat) = false then (false, p) else q3x ns f ks p
def q21 (ns : List NT) : Nat → Nat → Bool × Nat
 | 0, p => (false, p)
 | d + 1, p => match ns[p]? with | none => (false, p) | some n => q3x ns (q21 ns d) (q28 n) (p + 1)
def q5s (s : ST) : Bool := decide (0 < s.nodes.length) && (decide (s.nodes.length ≤ 200) && (decide (s.root = 0) && ((q21 s.nodes 33 0).1 && decide ((q21 s.nodes 33 0).2 = s.nodes.length))))
theorem j8d (ns : List NT) (f : Nat → Bool × Nat) (hf : ∀ p, p ≤ ns.length → p ≤ (f p).2 ∧ (f p).2 ≤ ns.length) : ∀ (ks : List Int) (p : Nat), p ≤ ns.length → p ≤ (q3x ns f ks p).2 ∧ (q3x ns f ks p).2 ≤ ns.length
 | [], p, h => ⟨Nat.le_refl _, h⟩
 | k :: ks, p, h => by
   rw [q3x]
   have h1 := hf p h
   split
   · split
     · have h2 := j8d ns f hf ks (f p).2 h1.2
       omega
     · exact h1
   · split
     · exact ⟨Nat.le_refl _, h⟩
     · exact j8d ns f hf ks p h
theorem z3j (ns : List NT) : ∀ (d p : Nat), p ≤ ns.length → p ≤ (q21 ns d p).2 ∧ (q21 ns d p).2 ≤ ns.length
 | 0, p, h => ⟨Nat.le_refl _, h⟩
 | d + 1, p, h => by
   rw [q21]
   split
   · exact ⟨Nat.le_refl _, h⟩
   · rename_i n hn
     have hp : p < ns.length := (List.getElem?_eq_some_iff.1 hn).1
     have := j8d ns _ (z3j ns d) (q28 n) (p + 1) hp
     omega
def Stand (ns : List NT) (a b : Nat) : Prop :=
 (∀ (i : Nat) (n : NT), a ≤ i → i < b → ns[i]? = some n → ∀ k ∈ q28 n, 0 ≤ k ∧ k < (b : Int) ∧ (k ≤ (i : Int) → q1w (q6n ns k.toNat) = true)) ∧ (∀ i : Nat, a < i → i < b → ∃ (j : Nat) (n : NT), a ≤ j ∧ j < i ∧ ns[j]? = some n ∧ (i : Int) ∈ q28 n)
def Met (ns : List NT) (a : Nat) (done : List Int) (b : Nat) : Prop :=
 a < b ∧ (∀ k ∈ done, 0 ≤ k ∧ k < (b : Int) ∧ (k ≤ (a : Int) → q1w (q6n ns k.toNat) = true)) ∧ (∀ (i : Nat) (n : NT), a < i → i < b → ns[i]? = some n → ∀ k ∈ q28 n, 0 ≤ k ∧ k < (b : Int) ∧ (k ≤ (i : Int) → q1w (q6n ns k.toNat) = true))
  ∧ (∀ i : Nat, a < i → i < b → (i : Int) ∈ done ∨ ∃ (j : Nat) (n : NT), a < j ∧ j < i ∧ ns[j]? = some n ∧ (i : Int) ∈ q28 n)
theorem j8e (ns : List NT) (f : Nat → Bool × Nat) (hf : ∀ p q, f p = (true, q) → p < q ∧ Stand ns p q) (a : Nat) : ∀ (ks : List Int) (done : List Int) (p q : Nat), Met ns a done p → q3x ns f ks p = (true, q) → Met ns a (done ++ ks) q
 | [], done, p, q, h, hw => by
   rw [q3x] at hw
   obtain rfl : p = q := (Prod.mk.inj hw).2
   rwa [List.append_nil]
 | k :: ks, done, p, q, h, hw => by
   rw [q3x] at hw
   obtain ⟨h0, h1, h2, h3⟩ := h
   have hc : done ++ k :: ks = (done ++ [k]) ++ ks := by simp
   rw [hc]
   split at hw
   · rename_i hk
     split at hw
     · rename_i hb
       obtain ⟨hlt, hs⟩ := hf p (f p).2 (by rw [← hb])
       refine j8e ns f hf a ks (done ++ [k]) (f p).2 q ⟨by omega, ?_, ?_, ?_⟩ hw
       · intro k' hk'
         rcases List.mem_append.1 hk' with h | h
         · have := h1 k' h
           exact ⟨this.1, by omega, this.2.2⟩
         · obtain rfl := List.mem_singleton.1 h
           exact ⟨by omega, by omega, fun h => by omega⟩
       · intro i n hi1 hi2 hn k' hk'
         by_cases hip : i < p
         · have := h2 i n hi1 hip hn k' hk'
           exact ⟨this.1, by omega, this.2.2⟩
         · exact hs.1 i n (by omega) hi2 hn k' hk'
       · intro i hi1 hi2
         by_cases hip : i < p
         · rcases h3 i hi1 hip with h | h
           · exact .inl (List.mem_append.2 (.inl h))
           · exact .inr h
         · by_cases hie : i = p
           · exact .inl (List.mem_append.2 (.inr (by rw [hie, hk]; simp)))
           · obtain ⟨j, n, hj1, hj2, hn, hm⟩ := hs.2 i (by omega) hi2
             exact .inr ⟨j, n, by omega, hj2, hn, hm⟩
     · simp at hw
   · rename_i hk
     split at hw
     · simp at hw
     · rename_i hc2
       refine j8e ns f hf a ks (done ++ [k]) p q ⟨h0, ?_, h2, ?_⟩ hw
       · intro k' hk'
         rcases List.mem_append.1 hk' with h | h
         · exact h1 k' h
         · obtain rfl := List.mem_singleton.1 h
           have hnn : q1w (q6n ns k'.toNat) = true := by
            cases hb : q1w (q6n ns k'.toNat) with
            | true => rfl
            | false => exact absurd (.inr (.inr hb)) hc2
           have : ¬ (k' < 0) := fun h => hc2 (.inl h)
           have : ¬ (k' > (p : Int)) := fun h => hc2 (.inr (.inl h))
           exact ⟨by omega, by omega, fun _ => hnn⟩
       · intro i hi1 hi2
         rcases h3 i hi1 hi2 with h | h
         · exact .inl (List.mem_append.2 (.inl h))
         · exact .inr h
theorem z3k (ns : List NT) : ∀ (d p q : Nat), q21 ns d p = (true, q) → p < q ∧ Stand ns p q
 | 0, p, q, h => by simp [q21] at h
 | d + 1, p, q, h => by
   rw [q21] at h
   split at h
   · simp at h
   · rename_i n hn
     have hm := j8e ns _ (z3k ns d) p (q28 n) [] (p + 1) q ⟨by omega, by simp, fun i n h1 h2 => by omega, fun i h1 h2 => by omega⟩ h
     rw [List.nil_append] at hm
     obtain ⟨h0, h1, h2, h3⟩ := hm
     refine ⟨h0, ?_, ?_⟩
     · intro i n' hi1 hi2 hn' k hk
       by_cases hi : i = p
       · subst hi
         rw [hn] at hn'
         obtain rfl := Option.some.inj hn'
         exact h1 k hk
       · exact h2 i n' (by omega) hi2 hn' k hk
     · intro i hi1 hi2
       rcases h3 i hi1 hi2 with h | ⟨j, n', hj1, hj2, hn', hm⟩
       · exact ⟨p, n, by omega, hi1, hn, h⟩
       · exact ⟨j, n', by omega, hj2, hn', hm⟩
theorem z5s {s : ST} (h : q5s s = true) : Stand s.nodes 0 s.nodes.length := by
 unfold q5s at h
 simp only [Bool.and_eq_true, decide_eq_true_eq] at h
 obtain ⟨_, _, _, h1, h2⟩ := h
 exact (z3k s.nodes 33 0 _ (by rw [← h1, ← h2])).2
section
open Go.RowKit Go.Shelf
attribute [local go_sem] Oper.semAt_some
def upTo {α : Type} (f : Nat → α) (k : Nat) : List α := (List.range k).map f
theorem z3e {α : Type} (f : Nat → α) (k : Nat) : upTo f (k + 1) = upTo f k ++ [f k] := by simp [upTo, List.range_succ]
theorem z7f {α : Type} (f : Nat → α) (k : Nat) : (upTo f k).length = k := by simp [upTo]
theorem upTo_all {α : Type} [Inhabited α] (zs : List α) (d : α) : upTo (fun j => zs[j]?.getD d) zs.length = zs := by
 apply List.ext_getElem
 · simp [upTo]
 · intro i h1 h2
   simp [upTo, h2]
theorem z7o (F : Fence) (n : Nat) (h7 : F.fn 222) (hro : F.round = none) (hn : 1 ≤ n) (l Bs o n₀ b off len cap : Nat) (zs : List (List UInt8)) (hreach : len * 16 ≤ 140737488351232) (hb : b < n₀) (J Jx : List (List UInt8) → World → Prop)
  (hY : ∀ pre x W, J pre W → pre.length < len → YieldAt F (n - 1) Tryz.prog l #[.string (str x)] W fun e W' =>
   (e = .returned (.bool true) ∧ J (pre ++ [x]) W' ∧ Below n₀ W W') ∨ (e = .returned (.bool false) ∧ Jx (pre ++ [x]) W'))
  (W : World) (hBs : W.cell? ⟨Bs, o, none⟩ = some (.slice (some ⟨b, off, none⟩) len cap)) (hc : ∀ j, j < len → W.cell? ⟨b, off + j, none⟩ = some (.string (str (zs[j]?.getD [])))) (h0 : J [] W) :
  CallsIn F n Tryz.prog 222 #[.func (.yield l) #[] #[], .pointer (some ⟨Bs, o, none⟩)] W fun e W' => (∃ v, e = .returned v) ∧
   ((∃ ys, ys = upTo (fun j => zs[j]?.getD []) len ∧ J ys W') ∨ (∃ pre, (∃ k, k ≤ len ∧ pre = upTo (fun j => zs[j]?.getD []) k) ∧ Jx pre W')) := by
 refine callsIn_of_wp Tryz.func222 rfl h7 ?_ hro
 simp only [Tryz.ntmps222, List.size_toArray, List.length_cons, List.length_nil, Nat.reduceAdd, Nat.reduceSub, Array.replicate_succ, Array.replicate_zero, List.push_toArray, List.append_toArray, List.nil_append, List.cons_append]
 gi_wp2
 gi_loopw [7] (fun i wr => ∃ k : Nat, k ≤ len ∧ i = .int .i64 k ∧ J (upTo (fun j => zs[j]?.getD []) k) wr ∧ Below n₀ W wr)
  (fun i _ => len - (intOf i).toNat)
 case atStart => exact ⟨0, Nat.zero_le _, rfl, h0, Below.refl _ _⟩
 case round =>
  obtain ⟨k, hk, rfl, hJs, hnx⟩ := hrel
  have hcx : k < len → wr.cell? ⟨b, off + k, none⟩ = some (.string (str (zs[k]?.getD []))) := fun h => (hnx.cell (p := ⟨b, off + k, none⟩) hb).trans (hc k h)
  by_cases hlt : k < len
  · obtain ⟨fn, tmps, assign, body, hy, hR⟩ := hY _ (zs[k]?.getD []) wr hJs (by rw [z7f]; exact hlt)
    have hcx' := hcx hlt
    gi_wp2
    refine hR.mono ?_
    rintro e W3 (⟨rfl, hJ3, hk3⟩ | ⟨rfl, hJx3⟩)
    · gi_wp2
      go_roundw
      case rel => exact ⟨k + 1, by omega, by simp, by rw [z3e]; exact hJ3, hnx.trans hk3⟩
      case measure => simp [intOf]; omega
    · gi_wp2
      refine bodyPost_ret (results_none rfl _ _ _) rfl ?_
      exact ⟨⟨_, rfl⟩, .inr ⟨_, ⟨k + 1, by omega, (z3e _ _).symm⟩, hJx3⟩⟩
  · obtain rfl : k = len := by omega
    gi_wp2
    go_end0
    exact ⟨⟨_, rfl⟩, .inl ⟨_, rfl, hJs⟩⟩
theorem z7p (F : Fence) (n : Nat) (h7 : F.fn 222) (hro : F.round = none) (l Bs o : Nat) (J : List (List UInt8) → World → Prop) (W : World) (a : Option Addr) (c : Nat) (hBs : W.cell? ⟨Bs, o, none⟩ = some (.slice a 0 c)) (h0 : J [] W) :
  CallsIn F n Tryz.prog 222 #[.func (.yield l) #[] #[], .pointer (some ⟨Bs, o, none⟩)] W fun e W' => (∃ v, e = .returned v) ∧ J [] W' := by
 refine callsIn_of_wp Tryz.func222 rfl h7 ?_ hro
 simp only [Tryz.ntmps222, List.size_toArray, List.length_cons, List.length_nil, Nat.reduceAdd, Nat.reduceSub, Array.replicate_succ, Array.replicate_zero, List.push_toArray, List.append_toArray, List.nil_append, List.cons_append]
 gi_wp2
 gi_loopw [7] (fun i wr => i = .int .i64 0 ∧ J [] wr) (fun _ _ => 0)
 case atStart => exact ⟨rfl, h0⟩
 case round =>
  obtain ⟨rfl, hJs⟩ := hrel
  gi_wp2
  go_end0
  exact ⟨⟨_, rfl⟩, hJs⟩
theorem upTo_take (zs : List (List UInt8)) {k : Nat} (hk : k ≤ zs.length) : upTo (fun j => zs[j]?.getD []) k = zs.take k := by
 apply List.ext_getElem
 · simp [upTo, hk]
 · intro i h1 h2
   have : i < zs.length := by simp [upTo] at h1; omega
   simp [upTo, this]
def Strs (n₀ : Nat) (W : World) (sv : Value) (zs : List (List UInt8)) : Prop :=
 ∃ a cap, sv = .slice a zs.length cap ∧ (zs ≠ [] → ∃ b off, a = some ⟨b, off, none⟩ ∧ b < n₀ ∧ ∀ j, j < zs.length → W.cell? ⟨b, off + j, none⟩ = some (.string (str (zs[j]?.getD []))))
theorem Strs.below {n₀ : Nat} {A B : World} (h : Below n₀ A B) {sv : Value} {zs : List (List UInt8)} : Strs n₀ A sv zs → Strs n₀ B sv zs
 | ⟨a, cap, e, hc⟩ => ⟨a, cap, e, fun hn => by
   obtain ⟨b, off, h1, h2, h3⟩ := hc hn
   exact ⟨b, off, h1, h2, fun j hj => (h.cell (p := ⟨b, off + j, none⟩) h2).trans (h3 j hj)⟩⟩
theorem z7r (F : Fence) (n : Nat) (h7 : F.fn 222) (hro : F.round = none) (hn : 1 ≤ n) (Bs o n₀ : Nat) (sv : Value) (zs : List (List UInt8)) (hreach : zs.length * 16 ≤ 140737488351232) (w : World) (hBs : Bs < w.heap.size) (hn₀ : n₀ ≤ w.heap.size)
  (hc : w.cell? ⟨Bs, o, none⟩ = some sv) (hI : Strs n₀ w sv zs) :
  SeqStopsK F n Tryz.prog 222 #[.pointer (some ⟨Bs, o, none⟩)] (fun x : List UInt8 => #[Value.string (str x)]) (Below n₀) (fun ys => ys = zs) (fun pre => pre <+: zs) zs.length w := fun l J Jx W hW _ _ hY h0 => by
 have hc' := (hW.cell (p := ⟨Bs, o, none⟩) hBs).trans hc
 obtain ⟨a, cap, rfl, hcs⟩ := hI.below (hW.mono hn₀)
 by_cases hz : zs = []
 · subst hz
   exact (z7p F n h7 hro l Bs o J W a cap hc' h0).mono fun e W' ⟨he, hj⟩ => ⟨he, .inl ⟨_, rfl, hj⟩⟩
 · obtain ⟨b, off, rfl, hb, hcs⟩ := hcs hz
   refine (z7o F n h7 hro hn l Bs o n₀ b off zs.length cap zs hreach hb J Jx hY W hc' hcs h0).mono ?_
   rintro e W' ⟨he, ⟨ys, rfl, hj⟩ | ⟨pre, ⟨k, hk, rfl⟩, hj⟩⟩
   · exact ⟨he, .inl ⟨_, upTo_all zs _, hj⟩⟩
   · exact ⟨he, .inr ⟨_, by rw [upTo_take zs hk]; exact List.take_prefix _ _, hj⟩⟩
def sV (s : List UInt8) : Value := .string (str s)
theorem sinfo : (Tryz.prog.info? 9).map (fun i => (i.zero, i.size, i.bytes)) = some (some (.string ⟨#[]⟩), 1, 16) := by kernel_rfl
theorem z30 (F : Fence) (n : Nat) (h3 : F.fn 267) (h7 : F.fn 222) (hro : F.round = none) (hn : 3 ≤ n) (Bs o : Nat) (sv : Value) (zs : List (List UInt8)) (hlen : zs.length ≤ maxLen) (hbytes : zs.length * 16 ≤ 140737488351232) (w : World) (hBs : Bs < w.heap.size)
  (hc : w.cell? ⟨Bs, o, none⟩ = some sv) (hI : Strs w.heap.size w sv zs) :
  CallsIn F n Tryz.prog 267 #[.slice none 0 0, .func (.func 222) #[] #[.pointer (some ⟨Bs, o, none⟩)]] w fun e W' => ∃ v, e = .returned v ∧ W'.ownsRow w.heap.size 9 1 v zs.length (zs.map sV) ∧ Below w.heap.size w W' := by
 have h1 : 1 ≤ n := by omega
 obtain ⟨i0, hi, hz0, hz1, hz2⟩ := info_parts sinfo
 refine callsIn_of_wp_marks Tryz.func267 rfl h3 ?_ hro
 simp only [Tryz.ntmps267, List.size_toArray, List.length_cons, List.length_nil, Nat.reduceAdd, Nat.reduceSub, Array.replicate_succ, Array.replicate_zero, List.push_toArray, List.append_toArray, List.nil_append, List.cons_append]
 gi_wp2
 have bO := Boxed.new w 23 (.slice none 0 0)
 have hB0 : Below w.heap.size w (w.alloc (.cells #[.slice none 0 0] 23)) := (Below.refl _ w).alloc (Nat.le_refl _) _
 refine wpIn_rangeFunc_ownG hro h1 (gf := 222) (lb := #[.pointer (some ⟨Bs, o, none⟩)]) rfl h7 (q0r Tryz.func222 (by kernel_rfl) rfl)
  (z7r F (n - 1) h7 hro (by omega) Bs o w.heap.size sv zs hbytes _ (by simp; omega) (by simp) ((hB0.cell (p := ⟨Bs, o, none⟩) hBs).trans hc) (hI.below hB0)) belowK_t (belowK_b (by simp)) (Below.refl _ _) (fun _ => rfl)
  (fun pre W => (∃ v, Boxed W w.heap.size 23 v ∧ W.ownsRow w.heap.size 9 1 v pre.length (pre.map sV) ∧ (v = .slice none 0 0 ↔ pre = [])) ∧ Below w.heap.size w W)
  (fun _ _ _ => False)
  (OwnFrom.and (Own.from (holdsRow_own w.heap.size w.heap.size 23 9 1 (fun pre => pre.length) (fun pre => pre.map sV) (fun pre v => v = .slice none 0 0 ↔ pre = [])) _) (ownFrom_below (Nat.le_refl _) (by simp)))
  (fun _ _ _ _ _ hs _ _ => hs)
  ⟨⟨_, bO, World.ownsRow_nil _ _ _ _, by simp⟩, hB0⟩
  (fun x => { tmps := #[.slice none 0 0, .func (.func 222) #[] #[.pointer (some ⟨Bs, o, none⟩)], .pointer (some ⟨w.heap.size, 0, none⟩), undef, .slice none 0 0, .string (str x), .func (.func 222) #[] #[.pointer (some ⟨Bs, o, none⟩)], .string (str x), undef, undef, undef, undef, undef], defers := [] }) ?assign ?body ?done ?stop
 case assign =>
  intro l x W K hK
  gi_wp2
  exact hK
 case body =>
  rintro l pre x W ⟨⟨v, hv, hrow, hnil⟩, hB⟩ hlt
  have hc := hv.cell
  gi_wp2_with (gi_at_builtin; refine wpListIn_append_own _ rfl _ _ 23 rfl w.heap.size 9 i0 (.string ⟨#[]⟩) 1 16 Tryz.underlying23 hi hz0 hz1 hz2 rfl (by decide) _ _ _ rfl (hrow.alloc _) ⟨W.heap.size, 0, none⟩ 1 1 [.string (str x)] rfl rfl (cell_one_new _ _ _) (by simp [Value.oneCell']) (by omega) (by omega) (by have := hB.size; simp; omega) ?_; intro v' w1 hown' hgrow _; obtain ⟨g', cap', rfl⟩ := ownsRow_succ hown'; obtain ⟨hv1, hv2, hr2, hk2, hb2⟩ := hv.appended (by decide) hrow hB.size (Nat.le_refl _) hown' hgrow; have hc1 := hv1.cell; have hf1 := hv1.frozen)
  exact ⟨hk2.from _, hb2, ⟨_, hv2, by simpa [sV] using hr2, by simp⟩, hB.trans hb2⟩
 case done =>
  rintro D ys W hD rfl ⟨⟨v, hv, hrow, hnil⟩, hB⟩ hK
  have hc := hv.cell
  gi_wp2
  refine ⟨by simp, .inl ⟨_, _, rfl, run_takeDeferred hK, ?_⟩⟩
  exact ⟨_, results_tmp rfl _ _ _, v, rfl, ownsRow_putObj hrow _ hK rfl, hB.trans (belowK_b (w := w) (Nat.le_refl _) W D _ _ (by simp at hD; omega) hK rfl rfl)⟩
 case stop =>
  rintro D c pre W _ _ h _
  exact h.elim
theorem z32 (Bs o : Nat) (sv : Value) (zs : List (List UInt8)) (hlen : zs.length ≤ maxLen) (hbytes : zs.length * 16 ≤ 140737488351232) (w : World) (hBs : Bs < w.heap.size)
  (hc : w.cell? ⟨Bs, o, none⟩ = some sv) (hI : Strs w.heap.size w sv zs) :
  Calls Tryz.prog 267 #[.slice none 0 0, .func (.func 222) #[] #[.pointer (some ⟨Bs, o, none⟩)]] w fun e W' => ∃ v, e = .returned v ∧ W'.ownsRow w.heap.size 9 1 v zs.length (zs.map sV) ∧ Below w.heap.size w W' :=
 calls_of_every_depth (L := [267, 222]) (n := 3) fun D => z30 _ 3 (by simp [Fence.list]) (by simp [Fence.list]) rfl (Nat.le_refl _) Bs o sv zs hlen hbytes w hBs hc hI
end
section
open Go.RowKit Go.Sort
def sA (l : List (List UInt8)) : List (List AV) := l.map fun s => [AV.c (.v (.string (str s)))]
def sB (l : List (List UInt8)) : Blkd := ⟨true, 9, 1, sA l⟩
theorem q4c (l : List (List UInt8)) : (sA l).length = l.length := by simp [sA]
theorem q5e (ρ : Nat → Nat) (l : List (List UInt8)) : (sA l).map (AV.renL ρ) = sA l := by
 induction l with
 | nil => rfl
 | cons x l ih => show AV.renL ρ _ :: (sA l).map _ = _; rw [ih]; rfl
theorem sA_sc {used : Nat → Prop} {h : Nat → Option Blkd} (l : List (List UInt8)) : (∀ e ∈ sA l, ∀ x ∈ e, Sc used h x) = True := eq_true fun e he x hx => by
 obtain ⟨b, _, rfl⟩ := List.mem_map.1 he
 simp at hx
 subst hx
 exact .c
theorem sA_flat (l : List (List UInt8)) : (sA l).flatten = l.map fun s => AV.c (.v (.string (str s))) := by
 induction l with
 | nil => rfl
 | cons x l ih => show _ ++ (sA l).flatten = _; rw [ih]; rfl
theorem z1p {W : World} {ro : Nat → Prop} {φ : Nat → Value} {h : Nat → Option Blkd} {j : Nat} {l : List (List UInt8)} (hB : BRep W ro φ h j (sB l)) : W.ownsRow 0 9 1 (φ j) l.length (l.map sV) := by
 obtain ⟨h1, h2, vs, h3, h4⟩ := hB
 rw [if_pos (show (sB l).row = true from rfl)] at h4
 have hvs : vs = l.map sV := by
  have h5 : RepL W ro φ h (l.map fun s => AV.c (.v (.string (str s)))) vs := by rw [← sA_flat]; exact h3
  apply List.ext_getElem?
  intro k
  by_cases hk : k < l.length
  · have hkv : k < vs.length := by rw [h5.1]; simpa using hk
    have := h5.2 k _ _ (by rw [List.getElem?_map, List.getElem?_eq_getElem hk]; rfl) (List.getElem?_eq_getElem hkv)
    rw [List.getElem?_eq_getElem hkv, q13 this, List.getElem?_map, List.getElem?_eq_getElem hk]
    rfl
  · rw [List.getElem?_eq_none (by rw [h5.1]; simpa using hk), List.getElem?_eq_none (by simpa using hk)]
 subst hvs
 have : (sB l).len = l.length := q4c l
 rw [this] at h4
 exact h4
theorem j9g {W : World} {ro : Nat → Prop} {φ : Nat → Value} {h : Nat → Option Blkd} {j : Nat} {l : List (List UInt8)} (ho : W.ownsRow 0 9 1 (φ j) l.length (l.map sV)) : BRep W ro φ h j (sB l) := by
 refine ⟨fun i e he => ?_, fun e he x hx => ?_, l.map sV, ?_, ?_⟩
 · obtain ⟨s, _, rfl⟩ := List.mem_map.1 (List.mem_of_getElem? he)
   rfl
 · obtain ⟨s, _, rfl⟩ := List.mem_map.1 he
   simp at hx
   subst hx
   rfl
 · show RepL W ro φ h (sA l).flatten _
   rw [sA_flat]
   refine ⟨by simp, fun k x v hx hv => ?_⟩
   rw [List.getElem?_map] at hx hv
   obtain ⟨s, h1, rfl⟩ := Option.map_eq_some_iff.1 hx
   rw [h1] at hv
   obtain rfl := Option.some.inj hv
   exact .c (.v rfl)
 · rw [if_pos (show (sB l).row = true from rfl)]
   have : (sB l).len = l.length := q4c l
   rw [this]
   exact ho
theorem hok_one {W : World} {ro : Nat → Prop} {φ : Nat → Value} {B : Blkd} (hB : BRep W ro φ (q0l [some B]) 1000000 B) (ho : ∀ b, q0y (φ 1000000) = some b → ¬ ro b) : HOk W ro φ (q0l [some B]) := by
 have key : ∀ j B1, q0l [some B] j = some B1 → j = 1000000 ∧ B1 = B := by
  intro j B1 hj
  obtain ⟨h1, h2⟩ := q4n hj
  have h3 := (List.getElem?_eq_some_iff.1 h2).1
  simp at h3
  obtain rfl : j = 1000000 := by omega
  simp at h2
  exact ⟨rfl, h2.symm⟩
 refine ⟨fun j B1 hj => ?_, fun j k B1 B2 b hj hk hne => ?_, fun j B1 b hj hb => ?_⟩
 · obtain ⟨rfl, rfl⟩ := key j B1 hj
   exact hB
 · exact absurd ((key j B1 hj).1.trans (key k B2 hk).1.symm) hne
 · obtain ⟨rfl, rfl⟩ := key j B1 hj
   exact ho b hb
theorem row_arg {W : World} {ro : Nat → Prop} {φ : Nat → Value} {B : Blkd} {vs : List Value} {n : Nat} (hn : B.len = n) (hl : RepL W ro φ (q0l ([B].map some)) [.row 1000000 n] vs) : vs = [φ 1000000] := by
 obtain ⟨h1, h2⟩ := hl
 match vs, h1, h2 with
 | [v], _, h2 =>
   have := h2 0 _ v rfl rfl
   cases this with
   | row _ hv => rw [hv B (by simp [q0l]) hn]
def srt (l : List (List UInt8)) : List (List UInt8) := l.mergeSort fun x y => decide (x ≤ y)
theorem q7f (l : List (List UInt8)) : (srt l).length = l.length := by simp [srt]
theorem z33 (l : List (List UInt8)) (hl : l.length ≤ 4294967296) :
  ToldM Tryz.prog 267 [.c (.v (.slice none 0 0)), .fn (.func 222) [] [.pp [.sl 1 (l.map sPV)]]] [] [some (sB l)] (.row 1000000 l.length) := by
 refine ⟨ent_267, trivial, ⟨?_, ?_⟩, fun W ro φ vs hro hgk hal hok => ?_⟩
 · exact .row ⟨by omega, by simp⟩ fun B hB => by simp [q0l] at hB; subst hB; exact Nat.le_of_eq (q4c l).symm
 · intro b hb B hB e he
   simp at hb
   subst hb
   obtain rfl := Option.some.inj hB
   exact fun x hx => (of_eq_true (sA_sc l)) e he x hx
 · obtain ⟨h1, h2⟩ := hal
   match vs, h1, h2 with
   | [v0, v1], _, h2 =>
     have e0 := q13 (h2 0 _ v0 rfl rfl)
     have e1 := h2 1 _ v1 rfl rfl
     subst e0
     cases e1 with
     | @fn _ _ _ us us' q1 q2 q3 q4 =>
       obtain rfl : us = [] := List.eq_nil_of_length_eq_zero q1
       match us', q3, q4 with
       | [p], _, q4 =>
         have e2 := q4 0 _ p rfl rfl
         cases e2 with
         | @pp _ b off vs hb hc hp =>
           match vs, hp with
           | [sv], hp =>
             have hsv := hp.2 0 _ sv rfl rfl
             have hcell : W.cell? ⟨b, off, none⟩ = some sv := by have := hc 0 (by simp); simpa using this
             have hS : Strs W.heap.size W sv l := by
              cases hsv with
              | @sl _ _ a c vss hn hcc hnil ha hll hz hz' hx =>
                refine ⟨a, c, by simp, fun hne => ?_⟩
                obtain ⟨b', off', rfl, hb', hcs⟩ := ha (by simpa using hne)
                refine ⟨b', off', rfl, hro b' hb', fun j hj => ?_⟩
                have hjv : j < vss.length := by rw [hll]; simpa using hj
                have hvj := List.getElem?_eq_getElem hjv
                have hlen := hz' j _ hvj
                have hx1 := hx j 0 (sPV l[j]) vss[j] (.v (.string (str l[j]))) (vss[j]'hjv)[0] (by rw [List.getElem?_map, List.getElem?_eq_getElem hj]; rfl) hvj rfl (List.getElem?_eq_getElem _)
                have hcc := hcs j _ hvj 0 (by omega)
                rw [List.getElem?_eq_getElem (by omega)] at hcc
                have hxe := q13 (h := h0) (φ := φ0) (.c hx1)
                rw [Nat.mul_one, Nat.add_zero] at hcc
                rw [hcc, hxe, List.getElem?_eq_getElem hj]
                rfl
             refine (z32 b off sv l (by unfold maxLen; omega) (by omega) W (hro b hb) hcell hS).mono ?_
             rintro e W' ⟨v, rfl, hown, hbel⟩
             have hlt := World.ownsRow.lt hown
             refine ⟨v, ro, fun _ => v, rfl, ⟨hbel.os, hbel.tape, hbel.output, hbel.size, fun k hk _ => hbel.block k hk⟩, fun b h => h, fun b h => ⟨.inl h, Nat.lt_of_lt_of_le (hro b h) hbel.size⟩, ?_, ?_, ?_, ?_⟩
             · exact .row (by rcases hown.2 with ⟨q, _⟩ | ⟨_, _, _, q, _⟩ <;> rw [q] <;> rfl) fun B hB hn => rfl
             · refine hok_one (j9g ?_) fun b hb' hrb => ?_
               · refine ⟨hown.1, ?_⟩
                 rcases hown.2 with h9 | ⟨g, cap, cur, h9, _, h10⟩
                 · exact .inl h9
                 · exact .inr ⟨g, cap, cur, h9, Nat.zero_le _, h10⟩
               · have := (hlt b (by rw [← q6q hown]; exact hb')).1
                 have := hro b hrb
                 omega
             · intro j B' hj; exact absurd hj.2 (by have := hj.1; simp; omega)
             · intro j B b hj hb'
               exact .inl (hlt b (by rw [← q6q hown]; exact hb')).1
theorem sort_told (l : List (List UInt8)) (hl : l.length ≤ 4294967296) : ToldM Tryz.prog 221 [.row 1000000 l.length] [sB l] [some (sB (srt l))] (.tup []) := by
 refine ⟨ent_221, ⟨rfl, trivial⟩, ⟨.tup (by simp), ?_⟩, fun W ro φ vs hro hgk hal hok => ?_⟩
 · intro b hb B hB e he
   simp at hb
   subst hb
   obtain rfl := Option.some.inj hB
   exact fun x hx => (of_eq_true (sA_sc (srt l))) e he x hx
 · obtain rfl := row_arg (B := sB l) (q4c l) hal
   have hlen : q0l ([sB l].map some) 1000000 = some (sB l) := by simp [q0l]
   have hown := z1p (hok.hp 1000000 _ hlen)
   have fin : ∀ W', W.grownBy W' (φ 1000000).ownBlock → W'.ownsRow 0 9 1 (φ 1000000) (srt l).length ((srt l).map sV) →
     ∃ v ro' φ', Ending.returned (.tuple #[]) = .returned v ∧ Keeps (fun b => ∃ j B, q0l ([sB l].map some) j = some B ∧ q0y (φ j) = some b) W W' ∧ (∀ b, ro b → ro' b) ∧
      (∀ b, ro' b → (ro b ∨ W.heap.size ≤ b ∨ ∃ j B, q0l ([sB l].map some) j = some B ∧ q0y (φ j) = some b) ∧ b < W'.heap.size) ∧ Rep W' ro' φ' (q0l [some (sB (srt l))]) (.tup []) v ∧ HOk W' ro' φ' (q0l [some (sB (srt l))]) ∧
      Goes (inL [sB l].length) φ φ' (q0l ([sB l].map some)) (q0l [some (sB (srt l))]) ∧ (∀ j B b, q0l [some (sB (srt l))] j = some B → q0y (φ' j) = some b → W.heap.size ≤ b ∨ ∃ j B, q0l ([sB l].map some) j = some B ∧ q0y (φ j) = some b) := by
    intro W' hg ho
    refine ⟨_, ro, φ, rfl, ⟨hg.os, hg.tape, hg.output, hg.size, fun k hk hm => hg.block k hk fun e => hm ⟨1000000, _, hlen, by rw [q6q hown, e]⟩⟩, fun b h => h, fun b h => ⟨.inl h, Nat.lt_of_lt_of_le (hro b h) hg.size⟩, .tup (vs := []) rfl (by simp), hok_one (j9g ho) fun b hb => hok.own 1000000 _ b hlen hb, ?_, ?_⟩
    · intro j B' hj hB'
      obtain rfl : j = 1000000 := by have := hj.1; have := hj.2; simp at this; omega
      simp [q0l] at hB'
      subst hB'
      exact ⟨_, hlen, .inr ⟨by show (sA l).length = (sA (srt l)).length; rw [q4c, q4c, q7f], rfl, rfl⟩⟩
    · intro j B b hj hb
      obtain ⟨h1, h2⟩ := q4n hj
      have h3 := (List.getElem?_eq_some_iff.1 h2).1
      simp at h3
      obtain rfl : j = 1000000 := by omega
      exact .inr ⟨1000000, _, hlen, hb⟩
   rcases hown.2 with ⟨h1, h2⟩ | ⟨g, cap, cur, h1, _, h2, h3, h4, h5, h6⟩
   · obtain rfl : l = [] := List.eq_nil_of_length_eq_zero h2
     rw [h1]
     refine (Tryz.slices_Sort_string_none none 0 W).mono ?_
     rintro e W' ⟨rfl, rfl⟩
     exact fin W' ⟨rfl, rfl, rfl, Nat.le_refl _, fun _ _ _ => rfl⟩ (by rw [show srt [] = [] from by simp [srt]]; exact hown)
   · have hH : Holds encStr W g 0 l.toArray := holds_of_block h2 (by rw [← Nat.mul_one l.length]; exact h6)
     rw [h1]
     refine (Tryz.slices_Sort_string g 0 cap l W hH (Array.getElem?_eq_some_iff.1 h2).1 (by omega)).mono ?_
     rintro e W' ⟨rfl, n, os, rfl⟩
     refine fin _ ?_ ?_
     · rw [h1]; exact grownBy_sorted _
     · rw [h1]
       have := ownsRow_sorted (n := n) (os := os) (ts := srt l) (q7f l) (Nat.zero_le g) h2 h3 h4 h5
       rw [q7f]
       exact this
theorem z0u (j : Nat) : q0l [none] j = none := by
 unfold q0l
 split
 · cases h : j - 1000000 with
   | zero => rfl
   | succ k => rfl
 · rfl
theorem z4y (l : List (List UInt8)) : (Lib.compact l).length ≤ l.length := by
 unfold Lib.compact Lib.compactUpTo
 rw [List.length_map]
 exact Nat.le_trans (List.length_filter_le _ _) (by simp)
theorem z40 (l : List (List UInt8)) (hl : l.length ≤ 4294967296) : ToldM Tryz.prog 161 [.row 1000000 l.length] [sB l] [none] (.c (.sl 1 ((Lib.compact l).map sPV))) := by
 refine ⟨ent_161, trivial, ⟨.c, fun b hb B hB => by simp at hb; subst hb; simp at hB⟩, fun W ro φ vs hro hgk hal hok => ?_⟩
 obtain rfl := row_arg (B := sB l) (q4c l) hal
 have hlen : q0l ([sB l].map some) 1000000 = some (sB l) := by simp [q0l]
 have hown := z1p (hok.hp 1000000 _ hlen)
 have hbl : ∀ b, q0y (φ 1000000) = some b → b < W.heap.size := fun b hb => (World.ownsRow.lt hown b (by rw [← q6q hown]; exact hb)).2
 have fin : ∀ (W' : World) (u : Value), W.grownBy W' (φ 1000000).ownBlock → PRep W' (fun b => ro b ∨ q0y (φ 1000000) = some b) (.sl 1 ((Lib.compact l).map sPV)) u →
   ∃ v ro' φ', Ending.returned u = .returned v ∧ Keeps (fun b => ∃ j B, q0l ([sB l].map some) j = some B ∧ q0y (φ j) = some b) W W' ∧ (∀ b, ro b → ro' b) ∧
    (∀ b, ro' b → (ro b ∨ W.heap.size ≤ b ∨ ∃ j B, q0l ([sB l].map some) j = some B ∧ q0y (φ j) = some b) ∧ b < W'.heap.size) ∧ Rep W' ro' φ' (q0l [none]) (.c (.sl 1 ((Lib.compact l).map sPV))) v ∧ HOk W' ro' φ' (q0l [none]) ∧
    Goes (inL [sB l].length) φ φ' (q0l ([sB l].map some)) (q0l [none]) ∧ (∀ j B b, q0l [none] j = some B → q0y (φ' j) = some b → W.heap.size ≤ b ∨ ∃ j B, q0l ([sB l].map some) j = some B ∧ q0y (φ j) = some b) := by
  intro W' u hg hu
  refine ⟨u, _, φ, rfl, ⟨hg.os, hg.tape, hg.output, hg.size, fun k hk hm => hg.block k hk fun e => hm ⟨1000000, _, hlen, by rw [q6q hown, e]⟩⟩, fun b h => .inl h, fun b h => ?_, .c hu, ⟨fun j B hj => ?_, fun j k B B' b hj => ?_, fun j B b hj => ?_⟩, fun j B hj hB => ?_, fun j B b hj => ?_⟩
  · rcases h with h | h
    · exact ⟨.inl h, Nat.lt_of_lt_of_le (hro b h) hg.size⟩
    · exact ⟨.inr (.inr ⟨1000000, _, hlen, h⟩), Nat.lt_of_lt_of_le (hbl b h) hg.size⟩
  all_goals first | (rw [z0u] at hj; simp at hj) | (rw [z0u] at hB; simp at hB)
 rcases hown.2 with ⟨h1, h2⟩ | ⟨g, cap, cur, h1, _, h2, h3, h4, h5, h6⟩
 · obtain rfl : l = [] := List.eq_nil_of_length_eq_zero h2
   rw [h1]
   refine (Tryz.slices_Compact_string_empty none 0 W).mono ?_
   rintro e W' ⟨rfl, rfl⟩
   exact fin W' _ ⟨rfl, rfl, rfl, Nat.le_refl _, fun _ _ _ => rfl⟩ (PRep.nil _ _ _)
 · have hH : Holds encStr W g 0 l.toArray := holds_of_block h2 (by rw [← Nat.mul_one l.length]; exact h6)
   rw [h1]
   refine (Tryz.slices_Compact_string g 0 cap l W hH (by omega) h3).mono ?_
   rintro e W' ⟨rfl, q, rfl⟩
   obtain ⟨ts, hts⟩ : ∃ ts, ts = Lib.compact l ++ List.replicate (l.length - (Lib.compact l).length) [] := ⟨_, rfl⟩
   have hcl := z4y l
   have htl : ts.length = l.length := by rw [hts]; simp; omega
   rw [← hts]
   have hg := grownBy_sorted (w := W) (g := g) (n := q) (os := #[]) ts.toArray
   have ho := ownsRow_sorted (n := q) (os := #[]) (ts := ts) htl (Nat.zero_le g) h2 h3 h4 h5
   rw [grow_empty] at hg ho
   refine fin _ _ (by rw [h1]; exact hg) ?_
   rcases ho.2 with ⟨h7, _⟩ | ⟨g', cap', cur', h7, _, h8, h9, h10, h11, h12⟩
   · simp at h7
   · obtain ⟨rfl, rfl⟩ : g = g' ∧ cap = cap' := by simpa using h7
     have hm : ((Lib.compact l).map sPV).length = (Lib.compact l).length := by simp
     rw [← hm]
     refine .sl (vss := (Lib.compact l).map fun s => [sV s]) (by rw [hm]; omega) (by unfold maxLen at h4; omega) (fun h => by simp at h) (fun hne => ⟨g, 0, rfl, .inr (by rw [h1]; rfl), fun i vs hi => ?_⟩) (by simp) (fun i e he => ?_) (fun i vs hi => ?_) (fun i j e vs p v he hvs hp hv => ?_)
     · rw [List.getElem?_map] at hi
       obtain ⟨s, h13, rfl⟩ := Option.map_eq_some_iff.1 hi
       intro j hj
       obtain rfl : j = 0 := by simpa using hj
       have h14 : (cur'.toList.take (l.length * 1))[i]? = some (sV s) := by
        rw [h12, List.getElem?_map, hts, List.getElem?_append_left (List.getElem?_eq_some_iff.1 h13).1, h13]; rfl
       have hi2 : i < l.length := by have := (List.getElem?_eq_some_iff.1 h13).1; omega
       rw [List.getElem?_take_of_lt (by omega)] at h14
       have := j12 h8 (l.length * 1) i (by rw [List.length_take]; simp; omega)
       rw [Nat.zero_add, List.getElem?_take_of_lt (by omega), h14] at this
       simpa using this
     · obtain ⟨s, _, rfl⟩ := List.mem_map.1 (List.mem_of_getElem? he); rfl
     · obtain ⟨s, _, rfl⟩ := List.mem_map.1 (List.mem_of_getElem? hi); rfl
     · rw [List.getElem?_map] at he hvs
       obtain ⟨s, h13, rfl⟩ := Option.map_eq_some_iff.1 he
       rw [h13] at hvs
       obtain rfl := Option.some.inj hvs
       match j, hp, hv with
       | 0, hp, hv =>
         obtain rfl := Option.some.inj hp
         obtain rfl := Option.some.inj hv
         exact .v rfl
end

def idxP {α : Type} (p : α → Bool) (l : List α) : Int := match l.findIdx? p with | some i => (i : Int) | none => -1
theorem j2m {α : Type} {p : α → Bool} {l : List α} {i : Nat} {x : α} (h : l[i]? = some x) (hx : p x = true) (h0 : ∀ j y, j < i → l[j]? = some y → p y = false) : idxP p l = (i : Int) := by
 unfold idxP
 obtain ⟨hlt, he⟩ := List.getElem?_eq_some_iff.1 h
 have : l.findIdx? p = some i := by
  rw [List.findIdx?_eq_some_iff_getElem]
  refine ⟨hlt, by rw [he]; exact hx, fun j hj => ?_⟩
  have := h0 j _ hj (List.getElem?_eq_getElem (by omega))
  simp [this]
 rw [this]
theorem j2n {α : Type} {p : α → Bool} {l : List α} (h0 : ∀ j y, j < l.length → l[j]? = some y → p y = false) : idxP p l = -1 := by
 unfold idxP
 have : l.findIdx? p = none := by
  rw [List.findIdx?_eq_none_iff]
  intro x hx
  obtain ⟨j, hj, he⟩ := List.getElem_of_mem hx
  exact h0 j x hj (by rw [List.getElem?_eq_getElem hj, he])
 rw [this]
theorem j4u {α : Type} (p : α → Bool) (l : List α) : decide (idxP p l ≥ 0) = l.any p := by
 unfold idxP
 cases h : l.findIdx? p with
 | some i =>
   have := (List.findIdx?_eq_some_iff_getElem.1 h)
   obtain ⟨h1, h2, _⟩ := this
   have h3 : l.any p = true := List.any_eq_true.2 ⟨l[i], List.getElem_mem _, h2⟩
   rw [h3]
   simp
 | none =>
   rw [List.findIdx?_eq_none_iff] at h
   have h3 : l.any p = false := List.any_eq_false.2 fun x hx => by simpa using h x hx
   rw [h3]
   rfl
theorem q4d {used : Nat → Prop} {h : Nat → Option Blkd} {l : List AV} (hp : AV.pureL l = true) : (∀ x ∈ l, Sc used h x) = True := eq_true fun x hx => (q5t l hp x hx).sc
theorem j3l (l m : List AV) : AV.pureL (l ++ m) = (AV.pureL l && AV.pureL m) := by
 induction l with
 | nil => simp [AV.pureL]
 | cons x l ih => simp [AV.pureL, ih, Bool.and_assoc]

theorem j21 {P Q : Prop} (q : Q) (e : HoldQ Q → P := by
 intro hq
 refine VC.seq ?_
 (first | refine VC.region (by rfl) (by rfl) ?_ | refine VC.draw mixP (by rfl) (by rfl) ?_)
 (repeat (refine AO.step fun K hK => ?_; simp only [go_sem, Int.reduceBEq, Int.reduceLE, Int.reduceLT, Int.reduceNeg, Nat.reduceAdd, Nat.reduceEqDiff, Nat.reduceLT, Nat.reduceLeDiff, Nat.reduceMul, Nat.reduceSub, reduceCtorEq, ↓reduceIte]; (first | refine q38 ?_ | refine q1m ?_ | skip); (first | refine hK _ _ _ ?_ | refine ⟨by first | omega | exact ⟨_, rfl, rfl⟩ | exact fun _ => ⟨_, rfl, rfl⟩ | (intro h; simp only [h, true_and]; omega) | (clear hK hq; intro h; simp_all <;> omega), hK _ _ _ ?_⟩); clear hK K))
 refine AO.nil ?_
 (first | refine SQ.normal ?_ | refine ⟨q4b (by kernel_rfl), SQ.normal ?_⟩)
 exact hq.out) : P := e ⟨q⟩
theorem wkfX {P Q : Prop} (q : Q) (e : HoldQ Q → P := by
 intro hq
 simp only [WeakF, q09, q03, sc_c, q05, q06, q07, q02, q04, ScL, q08, List.forall_mem_map, go_sem, Int.reduceBEq, Int.reduceLE, Int.reduceLT, Int.reduceNeg, Nat.reduceAdd, Nat.reduceEqDiff, Nat.reduceLT, Nat.reduceLeDiff, Nat.reduceMul, Nat.reduceSub, reduceCtorEq, ↓reduceIte]
 exact hq.out) : P := e ⟨q⟩
theorem q6y {F P Q : Prop} (f : F) (q : Q) (e : F → HoldQ Q → P := by
 intro hf hq
 simp only [hf, WeakF, q09, q03, sc_c, q05, q06, q07, q02, q04, ScL, q08, List.forall_mem_map, go_sem, Int.reduceBEq, Int.reduceLE, Int.reduceLT, Int.reduceNeg, Nat.reduceAdd, Nat.reduceEqDiff, Nat.reduceLT, Nat.reduceLeDiff, Nat.reduceMul, Nat.reduceSub, reduceCtorEq, ↓reduceIte]
 exact hq.out) : P := e f ⟨q⟩
theorem q4w {α β : Type} {f : α → β} {l : List α} {i : Nat} : (l.map f)[i]? = l[i]?.map f := List.getElem?_map
theorem lAss {α : Type} (l m k : List α) : l ++ m ++ k = l ++ (m ++ k) := List.append_assoc l m k
theorem q7r {α : Type} {l m : List α} : (l ++ m).length = l.length + m.length := List.length_append
theorem q0s {α : Type} {l : List α} {i : Nat} {a : α} : (l.set i a).length = l.length := List.length_set
theorem q8u {α : Type} {l : List α} {i : Nat} {a b : α} : (l.set i a).set i b = l.set i b := List.set_set a
theorem q8v {α : Type} {a : α} : [a].length = 1 := rfl
theorem lRepL {α : Type} {n : Nat} {a : α} : (List.replicate n a).length = n := List.length_replicate
theorem lTail {α : Type} {a : α} {l : List α} : (a :: l).tail = l := rfl
section
attribute [local go_sem] opx opE ev okx q5a bnd okO AV.get AV.okb cAV q8a q83 q82 j1w q60 q8z q8y st q8h q50 q8j q8k q8i binV binI binS q4s q5j q5b q5k unV q5w q4a q3m q00 q2d Blkd.len setE grown q1r q4x q3n q26 pv q41 q3t q4o AV.cellish AV.pureL AV.pureB q8w q8m AV.ren AV.renL q85 Blkd.ren rho wrM renN q2w rhoE q4m q4t q75 q78 j1b j1e j1i j1n j1q q7i q9a q9f q9g q9l q9p q9r q9s q9t q9y q93 q98 q76 q77 j0e q7h j0j j0k j0m j0n j08 j09 j1a j1c j1d j1f j1g j1h j1j j1k j1l j1m j1o j1p j1r j1s j1t j1u j1v q9b q9c q9d q9e q9h q9i q9j q9k q9m q9n q9o q9q q9u q9v q9w q9x q9z q90 q91 q92 q94 q95 q96 q97 q99 j0a j0b j0c j0d j0f j0g j0h j0i j0l j0o j0p j0q j0r j0s j0t j0u j0v j0w j0x j0y j0z j00 j01 j02 j03 j04 j05 j06 j07 Option.map_some Option.map_none Option.getD_some Option.getD_none Option.bind_some Option.bind_none List.getElem?_cons_zero List.getElem?_cons_succ List.getElem?_nil List.getElem?_toArray List.length_cons List.length_nil List.length_map List.forall_mem_map List.map_cons List.map_nil List.drop_zero List.drop_succ_cons List.drop_nil List.take_zero List.take_succ_cons List.take_nil List.mem_cons List.not_mem_nil or_false forall_eq_or_imp forall_eq List.set_cons_zero List.set_cons_succ List.cons_append List.nil_append List.append_nil List.foldl_cons List.foldl_nil List.replicate_succ List.replicate_zero List.all_cons List.all_nil if_true if_false Bool.false_eq_true ne_eq not_false_eq_true not_true_eq_false true_and and_true and_self true_implies imp_self implies_true forall_const beq_self_eq_true Bool.and_true Bool.true_and Bool.and_false Bool.false_and Bool.or_true Bool.true_or Bool.or_false Bool.false_or Bool.not_true Bool.not_false Bool.not_eq_eq_eq_not q55 Value.oneCell' Int.toNat_natCast beq_true beq_false Bool.not_eq_true false_implies false_or true_or or_true Nat.zero_add Nat.add_zero decide_true decide_false Int.cast_ofNat_Int Int.toNat_zero Int.toNat_one eq_self

theorem ixfS_told {g : FuncId} {fs cs : List AV} (hp : AV.pureL fs = true) (hp' : AV.pureL cs = true) (l : List (List UInt8)) (p : List UInt8 → Bool) (hk : ∀ x ∈ l, Told Tryz.prog g (fs ++ ([.c (.v (.string (str x)))] ++ cs)) (.c (.v (.bool (p x))))) :
  Told Tryz.prog 181 [.c (.sl 1 (l.map sPV)), .fn (.func g) fs cs] (.c (.v (.int .i64 (idxP p l)))) := by
 refine VC.told ent_181 Tryz.func181 rfl Tryz.ntmps181 (by simp) (by simp [AV.pureB, AV.pureL, hp, hp']) rfl fun hb => ?_
 simp only [List.mem_cons, List.not_mem_nil, or_false, forall_eq_or_imp, forall_eq, q47, q5d, List.length_map] at hb
 have h1 := hb.1.1
 clear hb
 refine q0c ?_
 refine VC.loop (ι := {i : Nat // i ≤ l.length ∧ ∀ j x, j < i → l[j]? = some x → p x = false}) (fun i => [(0, .c (.sl 1 (l.map sPV))), (1, .fn (.func g) fs cs), (7, .c (.v (.int .i64 l.length))), (8, .c (.v (.int .i64 i.1)))]) (fun _ => []) 0 (fun i => l.length - i.1) ⟨0, Nat.zero_le _, by intro j x hj; omega⟩ ?_ ?_
 · simp only [q4d hp, q4d hp', Weak, eq_self, q09, q03, sc_c, q05, q06, q07, q02, q04, ScL, q08, List.forall_mem_map, go_sem, Int.reduceBEq, Int.reduceLE, Int.reduceLT, Int.reduceNeg, Nat.reduceAdd, Nat.reduceEqDiff, Nat.reduceLT, Nat.reduceLeDiff, Nat.reduceMul, Nat.reduceSub, reduceCtorEq, ↓reduceIte]
   all_goals rfl
 rintro ⟨i, hi, ht⟩
 refine q0c ?_
 refine VC.cond (by rfl) (by trivial) (fun hc => ?_) (fun hc => ?_)
 · simp only [decide_eq_true_eq] at hc
   obtain ⟨x, hx⟩ : ∃ x, l[i]? = some x := ⟨l[i]'(by omega), List.getElem?_eq_getElem _⟩
   have hw : IntKind.i64.wrap ((i : Int) + 1) = (i : Int) + 1 := q0w (by omega) (by omega)
   have hkx := hk x (List.mem_of_getElem? hx)
   refine q0d (And.intro @q4w (And.intro hx @q6a)) ?_
   refine q33 (And.intro @q6a (And.intro hp (And.intro hp' (And.intro @j3l (And.intro @q20 @lAss))))) (hkx) ?_
   refine q0c ?_
   refine VC.cond (by rfl) (by trivial) (fun hpx => ?_) (fun hpx => ?_)
   · have hr := j2m hx hpx ht
     refine q0c ?_
     refine retX Tryz.results181 ?_
     rw [hr]
     exact .c _
   · refine q0d (hw) ?_
     refine .next ⟨i + 1, by omega, fun j y hj hy => ?_⟩ ?_ (by simp only []; omega)
     · rcases Nat.lt_or_ge j i with h | h
       · exact ht j y h hy
       · obtain rfl : j = i := by omega
         rw [hx] at hy
         obtain rfl := Option.some.inj hy
         exact hpx
     simp only [q4d hp, q4d hp', Weak, eq_self, q09, q03, sc_c, q05, q06, q07, q02, q04, ScL, q08, List.forall_mem_map, go_sem, Int.reduceBEq, Int.reduceLE, Int.reduceLT, Int.reduceNeg, Nat.reduceAdd, Nat.reduceEqDiff, Nat.reduceLT, Nat.reduceLeDiff, Nat.reduceMul, Nat.reduceSub, reduceCtorEq, ↓reduceIte]
     exact cI (by omega)
 · simp only [decide_eq_false_iff_not] at hc
   obtain rfl : i = l.length := by omega
   have hr := j2n ht
   refine q0c ?_
   refine retX Tryz.results181 ?_
   rw [hr]
   exact .c _
theorem cnfS_told {g : FuncId} {fs cs : List AV} (hp : AV.pureL fs = true) (hp' : AV.pureL cs = true) (l : List (List UInt8)) (p : List UInt8 → Bool) (hk : ∀ x ∈ l, Told Tryz.prog g (fs ++ ([.c (.v (.string (str x)))] ++ cs)) (.c (.v (.bool (p x))))) :
  Told Tryz.prog 141 [.c (.sl 1 (l.map sPV)), .fn (.func g) fs cs] (.c (.v (.bool (l.any p)))) := by
 have hi := ixfS_told hp hp' l p hk
 refine VC.told ent_141 Tryz.func141 rfl Tryz.ntmps141 (by simp) (by simp [AV.pureB, AV.pureL, hp, hp']) rfl fun hb => ?_
 clear hb
 refine q0c ?_
 refine q33 (And.intro hp hp') (hi) ?_
 refine q0c ?_
 refine retX Tryz.results141 ?_
 exact q30 (by rw [j4u])
section

def q1t (l : List UInt8) (i : Nat) : UInt8 := l[i]?.getD 0
def q2b (c : UInt8) : Nat := if c.toNat < 128 then 1 else if c.toNat < 194 then 0 else if c.toNat < 224 then 2 else if c.toNat < 240 then 3 else if c.toNat < 245 then 4 else 0
def ulo (a : UInt8) : Nat := if a.toNat = 224 then 160 else if a.toNat = 240 then 144 else 128
def uhi (a : UInt8) : Nat := if a.toNat = 237 then 159 else if a.toNat = 244 then 143 else 191
def usec (a b : UInt8) : Bool := decide (ulo a ≤ b.toNat ∧ b.toNat ≤ uhi a)
def ucont (b : UInt8) : Bool := decide (128 ≤ b.toNat ∧ b.toNat < 192)
def q3h (l : List UInt8) (p i : Nat) : Nat := if p + i < l.length then (if ucont (q1t l (p + i)) = true ∧ (i = 1 → usec (q1t l p) (q1t l (p + i)) = true) then 0 else 11) else 10
def q3g (l : List UInt8) (p : Nat) : Nat → Nat
 | 0 => 0
 | k + 1 => if q3g l p k = 0 then q3h l p (k + 1) else q3g l p k
def uerr (l : List UInt8) (p : Nat) : Nat := if p < l.length then (if q2b (q1t l p) = 0 then 11 else q3g l p (q2b (q1t l p) - 1)) else 10
def ulen (l : List UInt8) (p : Nat) : Nat := q2b (q1t l p)
theorem z7l {l : List UInt8} {p k : Nat} (h : q3g l p k ≠ 0) : ∀ j, q3g l p (k + j) = q3g l p k := by
 intro j
 induction j with
 | zero => rfl
 | succ j ih => rw [show k + (j + 1) = (k + j) + 1 from by omega]; simp only [q3g]; rw [ih, if_neg h]
theorem z3g {l : List UInt8} {p i n : Nat} (hi : 1 ≤ i) (hin : i < n) (h0 : q3g l p (i - 1) = 0) (h : q3h l p i ≠ 0) : q3g l p (n - 1) = q3h l p i := by
 have h1 : q3g l p i = q3h l p i := by
  cases i with
  | zero => omega
  | succ i => simp only [q3g]; rw [if_pos (by simpa using h0)]
 have := z7l (l := l) (p := p) (k := i) (by rw [h1]; exact h) (n - 1 - i)
 rw [h1] at this
 rwa [show i + (n - 1 - i) = n - 1 from by omega] at this
theorem z7m {l : List UInt8} {p k : Nat} (h0 : q3g l p k = 0) (h : q3h l p (k + 1) = 0) : q3g l p (k + 1) = 0 := by
 simp only [q3g]; rw [if_pos h0, h]
variable {l : List UInt8} {p : Nat}
theorem j5p (h : uerr l p = 0) : 0 < ulen l p ∧ p + ulen l p ≤ l.length := by
 unfold uerr at h
 split at h
 · rename_i hp
   split at h
   · simp at h
   · rename_i hf
     refine ⟨by unfold ulen; omega, ?_⟩
     unfold ulen
     have key : ∀ k, q3g l p k = 0 → p + k < l.length := by
      intro k
      induction k with
      | zero => intro _; omega
      | succ k ih =>
        intro hk
        simp only [q3g] at hk
        split at hk
        · unfold q3h at hk
          split at hk
          · omega
          · simp at hk
        · rename_i h1; exact absurd hk h1
     have := key _ h
     omega
 · simp at h
def uCnt (l : List UInt8) (p k : Nat) : Nat × Nat :=
 if h : p < l.length then (if h2 : uerr l p = 0 ∧ 0 < ulen l p then uCnt l (p + ulen l p) (k + 1) else (0, 11)) else (k, 0)
termination_by l.length - p
theorem z25 {l : List UInt8} {p k : Nat} (h : ¬ p < l.length) : uCnt l p k = (k, 0) := by rw [uCnt, dif_neg h]
theorem z24 {l : List UInt8} {p k : Nat} (h : p < l.length) (h2 : uerr l p ≠ 0) : uCnt l p k = (0, 11) := by rw [uCnt, dif_pos h, dif_neg (fun x => h2 x.1)]
theorem z26 {l : List UInt8} {p k : Nat} (h : p < l.length) (h2 : uerr l p = 0) : uCnt l p k = uCnt l (p + ulen l p) (k + 1) := by rw [uCnt, dif_pos h, dif_pos ⟨h2, (j5p h2).1⟩]
def q3l (l : List UInt8) : Bool := decide ((uCnt l 0 0).2 = 0)
end

theorem z69 {x : UInt8} (h0 : x.toNat < 128) : ∃ c : Int, Told Tryz.prog 290 [.c (.v (.int .u8 (x.toNat : Int)))] (.tup [.c (.v (.int .i64 (q2b x : Int))), .c (.v (.int .i32 c))]) := by
 have e0 : ((x.toNat : Int) < 128) = True := by simp; omega
 have hu : q2b x = 1 := by unfold q2b; repeat' split <;> try omega
 rw [hu]
 apply Exists.intro
 case h =>
 refine VC.told j17 Tryz.func290 rfl Tryz.ntmps290 (by simp) (by rfl) (by rfl) fun hb => ?_
 clear hb
 refine q0d (e0) ?_
 refine VC.condT (by rfl) (by trivial) ?_
 refine q0c ?_
 refine ⟨.inr rfl, ?_⟩
 rw [Tryz.results290]
 simp only [q1x, resV, go_sem, simprocAttr]
 exact ⟨.c _, .c _⟩
theorem z7a {x : UInt8} (h0 : ¬ x.toNat < 128) (h1 : x.toNat < 194) : ∃ c : Int, Told Tryz.prog 290 [.c (.v (.int .u8 (x.toNat : Int)))] (.tup [.c (.v (.int .i64 (q2b x : Int))), .c (.v (.int .i32 c))]) := by
 have e0 : ((x.toNat : Int) < 128) = False := by simp; omega
 have e1 : ((x.toNat : Int) < 194) = True := by simp; omega
 have hu : q2b x = 0 := by unfold q2b; repeat' split <;> try omega
 rw [hu]
 apply Exists.intro
 case h =>
 refine VC.told j17 Tryz.func290 rfl Tryz.ntmps290 (by simp) (by rfl) (by rfl) fun hb => ?_
 clear hb
 refine q0d (e0) ?_
 refine VC.condF (by rfl) (by trivial) ?_
 refine q0d (e1) ?_
 refine VC.condT (by rfl) (by trivial) ?_
 refine q0c ?_
 refine ⟨.inr rfl, ?_⟩
 rw [Tryz.results290]
 simp only [q1x, resV, go_sem, simprocAttr]
 exact ⟨.c _, .c _⟩
theorem z7b {x : UInt8} (h0 : ¬ x.toNat < 128) (h1 : ¬ x.toNat < 194) (h2 : x.toNat < 224) : ∃ c : Int, Told Tryz.prog 290 [.c (.v (.int .u8 (x.toNat : Int)))] (.tup [.c (.v (.int .i64 (q2b x : Int))), .c (.v (.int .i32 c))]) := by
 have e0 : ((x.toNat : Int) < 128) = False := by simp; omega
 have e1 : ((x.toNat : Int) < 194) = False := by simp; omega
 have e2 : ((x.toNat : Int) < 224) = True := by simp; omega
 have hu : q2b x = 2 := by unfold q2b; repeat' split <;> try omega
 rw [hu]
 apply Exists.intro
 case h =>
 refine VC.told j17 Tryz.func290 rfl Tryz.ntmps290 (by simp) (by rfl) (by rfl) fun hb => ?_
 clear hb
 refine q0d (e0) ?_
 refine VC.condF (by rfl) (by trivial) ?_
 refine q0d (e1) ?_
 refine VC.condF (by rfl) (by trivial) ?_
 refine q0d (e2) ?_
 refine VC.condT (by rfl) (by trivial) ?_
 refine q0c ?_
 refine ⟨.inr rfl, ?_⟩
 rw [Tryz.results290]
 simp only [q1x, resV, go_sem, simprocAttr]
 exact ⟨.c _, .c _⟩
theorem z7c {x : UInt8} (h0 : ¬ x.toNat < 128) (h1 : ¬ x.toNat < 194) (h2 : ¬ x.toNat < 224) (h3 : x.toNat < 240) : ∃ c : Int, Told Tryz.prog 290 [.c (.v (.int .u8 (x.toNat : Int)))] (.tup [.c (.v (.int .i64 (q2b x : Int))), .c (.v (.int .i32 c))]) := by
 have e0 : ((x.toNat : Int) < 128) = False := by simp; omega
 have e1 : ((x.toNat : Int) < 194) = False := by simp; omega
 have e2 : ((x.toNat : Int) < 224) = False := by simp; omega
 have e3 : ((x.toNat : Int) < 240) = True := by simp; omega
 have hu : q2b x = 3 := by unfold q2b; repeat' split <;> try omega
 rw [hu]
 apply Exists.intro
 case h =>
 refine VC.told j17 Tryz.func290 rfl Tryz.ntmps290 (by simp) (by rfl) (by rfl) fun hb => ?_
 clear hb
 refine q0d (e0) ?_
 refine VC.condF (by rfl) (by trivial) ?_
 refine q0d (e1) ?_
 refine VC.condF (by rfl) (by trivial) ?_
 refine q0d (e2) ?_
 refine VC.condF (by rfl) (by trivial) ?_
 refine q0d (e3) ?_
 refine VC.condT (by rfl) (by trivial) ?_
 refine q0c ?_
 refine ⟨.inr rfl, ?_⟩
 rw [Tryz.results290]
 simp only [q1x, resV, go_sem, simprocAttr]
 exact ⟨.c _, .c _⟩
theorem z7d {x : UInt8} (h0 : ¬ x.toNat < 128) (h1 : ¬ x.toNat < 194) (h2 : ¬ x.toNat < 224) (h3 : ¬ x.toNat < 240) (h4 : x.toNat < 245) : ∃ c : Int, Told Tryz.prog 290 [.c (.v (.int .u8 (x.toNat : Int)))] (.tup [.c (.v (.int .i64 (q2b x : Int))), .c (.v (.int .i32 c))]) := by
 have e0 : ((x.toNat : Int) < 128) = False := by simp; omega
 have e1 : ((x.toNat : Int) < 194) = False := by simp; omega
 have e2 : ((x.toNat : Int) < 224) = False := by simp; omega
 have e3 : ((x.toNat : Int) < 240) = False := by simp; omega
 have e4 : ((x.toNat : Int) < 245) = True := by simp; omega
 have hu : q2b x = 4 := by unfold q2b; repeat' split <;> try omega
 rw [hu]
 apply Exists.intro
 case h =>
 refine VC.told j17 Tryz.func290 rfl Tryz.ntmps290 (by simp) (by rfl) (by rfl) fun hb => ?_
 clear hb
 refine q0d (e0) ?_
 refine VC.condF (by rfl) (by trivial) ?_
 refine q0d (e1) ?_
 refine VC.condF (by rfl) (by trivial) ?_
 refine q0d (e2) ?_
 refine VC.condF (by rfl) (by trivial) ?_
 refine q0d (e3) ?_
 refine VC.condF (by rfl) (by trivial) ?_
 refine q0d (e4) ?_
 refine VC.condT (by rfl) (by trivial) ?_
 refine q0c ?_
 refine ⟨.inr rfl, ?_⟩
 rw [Tryz.results290]
 simp only [q1x, resV, go_sem, simprocAttr]
 exact ⟨.c _, .c _⟩
theorem z7e {x : UInt8} (h0 : ¬ x.toNat < 128) (h1 : ¬ x.toNat < 194) (h2 : ¬ x.toNat < 224) (h3 : ¬ x.toNat < 240) (h4 : ¬ x.toNat < 245) : ∃ c : Int, Told Tryz.prog 290 [.c (.v (.int .u8 (x.toNat : Int)))] (.tup [.c (.v (.int .i64 (q2b x : Int))), .c (.v (.int .i32 c))]) := by
 have e0 : ((x.toNat : Int) < 128) = False := by simp; omega
 have e1 : ((x.toNat : Int) < 194) = False := by simp; omega
 have e2 : ((x.toNat : Int) < 224) = False := by simp; omega
 have e3 : ((x.toNat : Int) < 240) = False := by simp; omega
 have e4 : ((x.toNat : Int) < 245) = False := by simp; omega
 have hu : q2b x = 0 := by unfold q2b; repeat' split <;> try omega
 rw [hu]
 apply Exists.intro
 case h =>
 refine VC.told j17 Tryz.func290 rfl Tryz.ntmps290 (by simp) (by rfl) (by rfl) fun hb => ?_
 clear hb
 refine q0d (e0) ?_
 refine VC.condF (by rfl) (by trivial) ?_
 refine q0d (e1) ?_
 refine VC.condF (by rfl) (by trivial) ?_
 refine q0d (e2) ?_
 refine VC.condF (by rfl) (by trivial) ?_
 refine q0d (e3) ?_
 refine VC.condF (by rfl) (by trivial) ?_
 refine q0d (e4) ?_
 refine VC.condF (by rfl) (by trivial) ?_
 refine q0c ?_
 refine ⟨.inr rfl, ?_⟩
 rw [Tryz.results290]
 simp only [q1x, resV, go_sem, simprocAttr]
 exact ⟨.c _, .c _⟩
theorem z68 (x : UInt8) : ∃ c : Int, Told Tryz.prog 290 [.c (.v (.int .u8 (x.toNat : Int)))] (.tup [.c (.v (.int .i64 (q2b x : Int))), .c (.v (.int .i32 c))]) := by
 by_cases h0 : x.toNat < 128
 · exact z69 h0
 by_cases h1 : x.toNat < 194
 · exact z7a h0 h1
 by_cases h2 : x.toNat < 224
 · exact z7b h0 h1 h2
 by_cases h3 : x.toNat < 240
 · exact z7c h0 h1 h2 h3
 by_cases h4 : x.toNat < 245
 · exact z7d h0 h1 h2 h3 h4
 · exact z7e h0 h1 h2 h3 h4

theorem z7g {x y : UInt8} (h0 : x.toNat = 224) : Told Tryz.prog 291 [.c (.v (.int .u8 (x.toNat : Int))), .c (.v (.int .u8 (y.toNat : Int)))] (.c (.v (.bool (usec x y)))) := by
 have e0 : ((x.toNat : Int) == 224) = true := by simp; omega
 have hu : usec x y = decide (160 ≤ y.toNat ∧ y.toNat ≤ 191) := by
  unfold usec ulo uhi
  congr 1
  repeat' split
  all_goals first | rfl | omega
 rw [hu]
 refine VC.told j25 Tryz.func291 rfl Tryz.ntmps291 (by simp) (by rfl) (by rfl) fun hb => ?_
 clear hb
 refine q0d (e0) ?_
 refine VC.condT (by rfl) (by trivial) ?_
 refine q0c ?_
 refine ⟨.inr rfl, ?_⟩
 rw [Tryz.results291]
 simp only [q1x, resV, go_sem, simprocAttr]
 refine q30 ?_
 congr 2
 rw [Bool.eq_iff_iff]
 simp
 omega
theorem z7h {x y : UInt8} (h0 : x.toNat ≠ 224) (h1 : x.toNat = 237) : Told Tryz.prog 291 [.c (.v (.int .u8 (x.toNat : Int))), .c (.v (.int .u8 (y.toNat : Int)))] (.c (.v (.bool (usec x y)))) := by
 have e0 : ((x.toNat : Int) == 224) = false := by simp; omega
 have e1 : ((x.toNat : Int) == 237) = true := by simp; omega
 have hu : usec x y = decide (128 ≤ y.toNat ∧ y.toNat ≤ 159) := by
  unfold usec ulo uhi
  congr 1
  repeat' split
  all_goals first | rfl | omega
 rw [hu]
 refine VC.told j25 Tryz.func291 rfl Tryz.ntmps291 (by simp) (by rfl) (by rfl) fun hb => ?_
 clear hb
 refine q0d (e0) ?_
 refine VC.condF (by rfl) (by trivial) ?_
 refine q0d (e1) ?_
 refine VC.condT (by rfl) (by trivial) ?_
 refine q0c ?_
 refine ⟨.inr rfl, ?_⟩
 rw [Tryz.results291]
 simp only [q1x, resV, go_sem, simprocAttr]
 refine q30 ?_
 congr 2
 rw [Bool.eq_iff_iff]
 simp
 omega
theorem z7i {x y : UInt8} (h0 : x.toNat ≠ 224) (h1 : x.toNat ≠ 237) (h2 : x.toNat = 240) : Told Tryz.prog 291 [.c (.v (.int .u8 (x.toNat : Int))), .c (.v (.int .u8 (y.toNat : Int)))] (.c (.v (.bool (usec x y)))) := by
 have e0 : ((x.toNat : Int) == 224) = false := by simp; omega
 have e1 : ((x.toNat : Int) == 237) = false := by simp; omega
 have e2 : ((x.toNat : Int) == 240) = true := by simp; omega
 have hu : usec x y = decide (144 ≤ y.toNat ∧ y.toNat ≤ 191) := by
  unfold usec ulo uhi
  congr 1
  repeat' split
  all_goals first | rfl | omega
 rw [hu]
 refine VC.told j25 Tryz.func291 rfl Tryz.ntmps291 (by simp) (by rfl) (by rfl) fun hb => ?_
 clear hb
 refine q0d (e0) ?_
 refine VC.condF (by rfl) (by trivial) ?_
 refine q0d (e1) ?_
 refine VC.condF (by rfl) (by trivial) ?_
 refine q0d (e2) ?_
 refine VC.condT (by rfl) (by trivial) ?_
 refine q0c ?_
 refine ⟨.inr rfl, ?_⟩
 rw [Tryz.results291]
 simp only [q1x, resV, go_sem, simprocAttr]
 refine q30 ?_
 congr 2
 rw [Bool.eq_iff_iff]
 simp
 omega
theorem z7j {x y : UInt8} (h0 : x.toNat ≠ 224) (h1 : x.toNat ≠ 237) (h2 : x.toNat ≠ 240) (h3 : x.toNat = 244) : Told Tryz.prog 291 [.c (.v (.int .u8 (x.toNat : Int))), .c (.v (.int .u8 (y.toNat : Int)))] (.c (.v (.bool (usec x y)))) := by
 have e0 : ((x.toNat : Int) == 224) = false := by simp; omega
 have e1 : ((x.toNat : Int) == 237) = false := by simp; omega
 have e2 : ((x.toNat : Int) == 240) = false := by simp; omega
 have e3 : ((x.toNat : Int) == 244) = true := by simp; omega
 have hu : usec x y = decide (128 ≤ y.toNat ∧ y.toNat ≤ 143) := by
  unfold usec ulo uhi
  congr 1
  repeat' split
  all_goals first | rfl | omega
 rw [hu]
 refine VC.told j25 Tryz.func291 rfl Tryz.ntmps291 (by simp) (by rfl) (by rfl) fun hb => ?_
 clear hb
 refine q0d (e0) ?_
 refine VC.condF (by rfl) (by trivial) ?_
 refine q0d (e1) ?_
 refine VC.condF (by rfl) (by trivial) ?_
 refine q0d (e2) ?_
 refine VC.condF (by rfl) (by trivial) ?_
 refine q0d (e3) ?_
 refine VC.condT (by rfl) (by trivial) ?_
 refine q0c ?_
 refine ⟨.inr rfl, ?_⟩
 rw [Tryz.results291]
 simp only [q1x, resV, go_sem, simprocAttr]
 refine q30 ?_
 congr 2
 rw [Bool.eq_iff_iff]
 simp
 omega
theorem z7k {x y : UInt8} (h0 : x.toNat ≠ 224) (h1 : x.toNat ≠ 237) (h2 : x.toNat ≠ 240) (h3 : x.toNat ≠ 244) : Told Tryz.prog 291 [.c (.v (.int .u8 (x.toNat : Int))), .c (.v (.int .u8 (y.toNat : Int)))] (.c (.v (.bool (usec x y)))) := by
 have e0 : ((x.toNat : Int) == 224) = false := by simp; omega
 have e1 : ((x.toNat : Int) == 237) = false := by simp; omega
 have e2 : ((x.toNat : Int) == 240) = false := by simp; omega
 have e3 : ((x.toNat : Int) == 244) = false := by simp; omega
 have hu : usec x y = decide (128 ≤ y.toNat ∧ y.toNat ≤ 191) := by
  unfold usec ulo uhi
  congr 1
  repeat' split
  all_goals first | rfl | omega
 rw [hu]
 refine VC.told j25 Tryz.func291 rfl Tryz.ntmps291 (by simp) (by rfl) (by rfl) fun hb => ?_
 clear hb
 refine q0d (e0) ?_
 refine VC.condF (by rfl) (by trivial) ?_
 refine q0d (e1) ?_
 refine VC.condF (by rfl) (by trivial) ?_
 refine q0d (e2) ?_
 refine VC.condF (by rfl) (by trivial) ?_
 refine q0d (e3) ?_
 refine VC.condF (by rfl) (by trivial) ?_
 refine q0c ?_
 refine ⟨.inr rfl, ?_⟩
 rw [Tryz.results291]
 simp only [q1x, resV, go_sem, simprocAttr]
 refine q30 ?_
 congr 2
 rw [Bool.eq_iff_iff]
 simp
 omega
theorem usec_told (x y : UInt8) : Told Tryz.prog 291 [.c (.v (.int .u8 (x.toNat : Int))), .c (.v (.int .u8 (y.toNat : Int)))] (.c (.v (.bool (usec x y)))) := by
 by_cases h0 : x.toNat = 224
 · exact z7g h0
 by_cases h1 : x.toNat = 237
 · exact z7h h0 h1
 by_cases h2 : x.toNat = 240
 · exact z7i h0 h1 h2
 by_cases h3 : x.toNat = 244
 · exact z7j h0 h1 h2 h3
 · exact z7k h0 h1 h2 h3

theorem cont_bits : ∀ x : Nat, x < 256 → ((IntKind.u8.wrap ((BitVec.ofInt IntKind.u8.bits ((x : Nat) : Int) &&& BitVec.ofInt IntKind.u8.bits 192).toNat : Int)) != 128) = !decide (128 ≤ x ∧ x < 192) := by decide +kernel
theorem cont_bit (x : UInt8) : ((IntKind.u8.wrap ((BitVec.ofInt IntKind.u8.bits (x.toNat : Int) &&& BitVec.ofInt IntKind.u8.bits 192).toNat : Int)) != 128) = !ucont x := cont_bits x.toNat x.toNat_lt
theorem pv_at {l : List UInt8} {i : Nat} (h : i < l.length) : (q0o l)[i]? = some [.v (.int .u8 ((q1t l i).toNat : Int))] := by
 unfold q0o q1t
 rw [List.getElem?_map, List.getElem?_eq_getElem h]
 rfl
def q5g (l : List UInt8) (p : Nat) : Nat := if uerr l p = 0 then p + ulen l p else p
theorem z7n (l : List UInt8) (p : Nat) (hp : p ≤ l.length) (hbig : l.length ≤ 9223372036854775000) : Told Tryz.prog 265 [.c (.sl 1 (q0o l)), .c (.v (.int .i64 (p : Int)))] (.tup [.any, .c (.v (.int .i64 (q5g l p : Int))), .c (.v (.int .i64 (uerr l p : Int)))]) := by
 have hlen : (q0o l).length = l.length := by simp [q0o]
 refine VC.told ent_265 Tryz.func265 rfl Tryz.ntmps265 (by simp) (by rfl) (by rfl) fun hb => ?_
 clear hb
 have e1 : ((p : Int) < 0) = False := eq_false (by omega)
 have e2 : ((p : Int) > (l.length : Int)) = False := eq_false (by omega)
 refine q0d (And.intro e1 (And.intro e2 hlen)) ?_
 refine VC.condF (by rfl) (by trivial) ?_
 refine q0d (hlen) ?_
 refine VC.cond (by rfl) (by trivial) (fun hc => ?_) (fun hc => ?_)
 · have he : p = l.length := by simp at hc; omega
   have hu : uerr l p = 10 := by unfold uerr; rw [if_neg (by omega)]
   have hn : q5g l p = p := by unfold q5g; rw [if_neg (by omega)]
   rw [hu, hn]
   refine q0c ?_
   refine ⟨.inr rfl, ?_⟩
   rw [Tryz.results265]
   simp only [q1x, resV, go_sem, simprocAttr]
   exact ⟨.any _, .c _, .c _⟩
 have hlt : p < l.length := by simp at hc; omega
 clear hc
 obtain ⟨c0, hfirst⟩ := z68 (q1t l p)
 have hat := pv_at hlt
 refine q0d (And.intro hlen hat) ?_
 (refine AO.step fun K hK => ?_; simp only [go_sem, Int.reduceBEq, Int.reduceLE, Int.reduceLT, Int.reduceNeg, Nat.reduceAdd, Nat.reduceEqDiff, Nat.reduceLT, Nat.reduceLeDiff, Nat.reduceMul, Nat.reduceSub, reduceCtorEq, ↓reduceIte, hat]; (first | refine q1m ?_ | skip))
 refine .inl ⟨_, hfirst, hK _ _ _ ?_⟩
 clear hK K hfirst
 refine q0c ?_
 refine VC.cond (by rfl) (by trivial) (fun hc => ?_) (fun hc => ?_)
 · have hf : q2b (q1t l p) = 0 := by simp at hc; omega
   have hu : uerr l p = 11 := by unfold uerr; rw [if_pos hlt, if_pos hf]
   have hn : q5g l p = p := by unfold q5g; rw [if_neg (by omega)]
   rw [hu, hn]
   refine q0c ?_
   refine ⟨.inr rfl, ?_⟩
   rw [Tryz.results265]
   simp only [q1x, resV, go_sem, simprocAttr]
   exact ⟨.any _, .c _, .c _⟩
 have hf : q2b (q1t l p) ≠ 0 := by simp at hc; omega
 clear hc
 have hue : uerr l p = q3g l p (q2b (q1t l p) - 1) := by unfold uerr; rw [if_pos hlt, if_neg hf]
 have hf4 : q2b (q1t l p) ≤ 4 := by unfold q2b; repeat' split <;> try omega
 obtain ⟨n, hn⟩ : ∃ n, n = q2b (q1t l p) := ⟨_, rfl⟩
 have hul : ulen l p = n := hn.symm
 rw [← hn] at hf hf4 hue
 refine q0d (hn.symm) ?_
 refine VC.loop (ι := {q : Nat × Int // 1 ≤ q.1 ∧ q.1 ≤ n ∧ q3g l p (q.1 - 1) = 0}) (fun q => [(0, .c (.sl 1 (q0o l))), (1, .c (.v (.int .i64 (p : Int)))), (4, .c (.v (.int .i32 q.1.2))), (7, .c (.v (.int .i64 (n : Int)))), (8, .c (.v (.int .i64 (q.1.1 : Int))))])
  (fun _ => []) 0 (fun q => n - q.1.1) ⟨(1, c0), Nat.le_refl _, by simp only []; omega, rfl⟩ ?_ ?_
 · simp only [← hn, Weak, eq_self, q09, q03, sc_c, q05, q06, q07, q02, q04, ScL, q08, List.forall_mem_map, go_sem, Int.reduceBEq, Int.reduceLE, Int.reduceLT, Int.reduceNeg, Nat.reduceAdd, Nat.reduceEqDiff, Nat.reduceLT, Nat.reduceLeDiff, Nat.reduceMul, Nat.reduceSub, reduceCtorEq, ↓reduceIte]
   all_goals first | rfl | exact cI (by omega)
 rintro ⟨⟨i, c⟩, hi1, hi2, hst⟩
 simp only [] at hi1 hi2 hst ⊢
 refine q0c ?_
 refine VC.cond (by rfl) (by trivial) (fun hc => ?_) (fun hc => ?_)
 · have hin : i < n := by simp at hc; omega
   clear hc
   have hw1 : IntKind.i64.wrap ((p : Int) + (i : Int)) = (p : Int) + (i : Int) := q0w (by omega) (by omega)
   have hw2 : IntKind.i64.wrap ((i : Int) + 1) = (i : Int) + 1 := q0w (by omega) (by omega)
   refine q0d (And.intro hlen hw1) ?_
   refine VC.cond (by rfl) (by trivial) (fun hc => ?_) (fun hc => ?_)
   · have hpi : p + i = l.length := by simp at hc; omega
     have hsp : q3h l p i = 10 := by unfold q3h; rw [if_neg (by omega)]
     have hu : uerr l p = 10 := by rw [hue, z3g hi1 hin hst (by omega), hsp]
     have hnx : q5g l p = p := by unfold q5g; rw [if_neg (by omega)]
     rw [hu, hnx]
     refine q0c ?_
     refine ⟨.inr rfl, ?_⟩
     rw [Tryz.results265]
     simp only [q1x, resV, go_sem, simprocAttr]
     exact ⟨.any _, .c _, .c _⟩
   have hpi : p + i < l.length := by
    have : p + i ≠ l.length := by simp at hc; omega
    have hall : p + i ≤ l.length := by
     have h0 := hst
     cases hi : i with
     | zero => omega
     | succ k =>
       rw [hi] at h0
       cases k with
       | zero => omega
       | succ k =>
         simp only [Nat.add_sub_cancel, q3g] at h0
         split at h0
         · unfold q3h at h0
           split at h0
           · omega
           · simp at h0
         · rename_i h1; exact absurd h0 h1
    omega
   clear hc
   have hat2 := pv_at hpi
   have hti : ((p : Int) + (i : Int)).toNat = p + i := by omega
   have hsec := usec_told (q1t l p) (q1t l (p + i))
   have hcb := cont_bit (q1t l (p + i))
   (try simp only [go_sem, Int.reduceBEq, Int.reduceLE, Int.reduceLT, Int.reduceNeg, Nat.reduceAdd, Nat.reduceEqDiff, Nat.reduceLT, Nat.reduceLeDiff, Nat.reduceMul, Nat.reduceSub, reduceCtorEq, ↓reduceIte] at hcb)
   refine q0d (And.intro hlen (And.intro hw1 (And.intro hti (And.intro hat2 (And.intro hat hcb))))) ?_
   (refine AO.step fun K hK => ?_; simp only [go_sem, Int.reduceBEq, Int.reduceLE, Int.reduceLT, Int.reduceNeg, Nat.reduceAdd, Nat.reduceEqDiff, Nat.reduceLT, Nat.reduceLeDiff, Nat.reduceMul, Nat.reduceSub, reduceCtorEq, ↓reduceIte, hat, hcb]; (first | refine q1m ?_ | skip))
   refine .inl ⟨_, fun _ => hsec, hK _ _ _ ?_⟩
   clear hK K hsec
   refine q0c ?_
   refine VC.cond (by rfl) (by trivial) (fun hc => ?_) (fun hc => ?_)
   · have hsp : q3h l p i = 11 := by
      unfold q3h
      rw [if_pos hpi, if_neg]
      simp at hc
      rintro ⟨g1, g2⟩
      rcases hc with hc | hc
      · simp [hc] at g1
      · have := g2 (by omega)
        simp_all
     have hu : uerr l p = 11 := by rw [hue, z3g hi1 hin hst (by omega), hsp]
     have hnx : q5g l p = p := by unfold q5g; rw [if_neg (by omega)]
     rw [hu, hnx]
     refine q0c ?_
     refine ⟨.inr rfl, ?_⟩
     rw [Tryz.results265]
     simp only [q1x, resV, go_sem, simprocAttr]
     exact ⟨.any _, .c _, .c _⟩
   · have hsp : q3h l p i = 0 := by
      unfold q3h
      rw [if_pos hpi, if_pos]
      simp at hc
      refine ⟨hc.1, fun h1 => ?_⟩
      exact hc.2 (by omega)
     have hst2 : q3g l p i = 0 := by
      cases hi : i with
      | zero => omega
      | succ k =>
        rw [hi] at hst hsp
        exact z7m (by simpa using hst) hsp
     clear hc
     refine q0d (hw2) ?_
     apply RQ.next ⟨(i + 1, _), by simp only []; omega, by simp only []; omega, by simpa using hst2⟩
     · refine q4q ?_
       exact ⟨rfl, cI (by omega)⟩
     · simp only []; omega
 · have hin : i = n := by simp at hc; omega
   subst hin
   have hu : uerr l p = 0 := by rw [hue, hst]
   have hnx : q5g l p = p + i := by unfold q5g; rw [if_pos hu, hul]
   have hbd := j5p hu
   have hw1 : IntKind.i64.wrap ((p : Int) + (i : Int)) = ((p + i : Nat) : Int) := by rw [q0w (by omega) (by omega)]; omega
   rw [hu, hnx]
   refine q0d (hw1) ?_
   refine ⟨.inr rfl, ?_⟩
   rw [Tryz.results265]
   simp only [q1x, resV, go_sem, simprocAttr]
   exact ⟨.any _, .c _, .c _⟩

theorem z65 (l : List UInt8) (hbig : l.length ≤ 9223372036854775000) : Told Tryz.prog 219 [.c (.sl 1 (q0o l))] (.tup [.c (.v (.int .i64 ((uCnt l 0 0).1 : Int))), .c (.v (.int .i64 ((uCnt l 0 0).2 : Int)))]) := by
 have hlen : (q0o l).length = l.length := by simp [q0o]
 refine VC.toldP ent_219 Tryz.func219 rfl Tryz.ntmps219 fun hb => ?_
 clear hb
 obtain ⟨V, hV⟩ : ∃ V, V = uCnt l 0 0 := ⟨_, rfl⟩
 rw [← hV]
 refine q0c ?_
 refine VC.loop (ι := {q : Nat × Nat // q.1 ≤ l.length ∧ q.2 ≤ q.1 ∧ uCnt l q.1 q.2 = V}) (fun q => [(0, .c (.sl 1 (q0o l))), (4, .c (.v (.int .i64 (q.1.2 : Int)))), (5, .c (.v (.int .i64 (q.1.1 : Int))))]) (fun _ => []) 0 (fun q => l.length - q.1.1) ⟨(0, 0), Nat.zero_le _, Nat.le_refl _, hV.symm⟩ ?_ ?_
 · simp only [Weak, eq_self, q09, q03, sc_c, q05, q06, q07, q02, q04, ScL, q08, List.forall_mem_map, go_sem, Int.reduceBEq, Int.reduceLE, Int.reduceLT, Int.reduceNeg, Nat.reduceAdd, Nat.reduceEqDiff, Nat.reduceLT, Nat.reduceLeDiff, Nat.reduceMul, Nat.reduceSub, reduceCtorEq, ↓reduceIte]
   all_goals rfl
 rintro ⟨⟨p, k⟩, hp, hk, hu⟩
 simp only [] at hp hk hu ⊢
 refine q0d (hlen) ?_
 refine VC.cond (by rfl) (by trivial) (fun hc => ?_) (fun hc => ?_)
 · have hlt : p < l.length := by simp at hc; omega
   have ht := z7n l p hp hbig
   have hw : IntKind.i64.wrap ((k : Int) + 1) = (k : Int) + 1 := q0w (by omega) (by omega)
   refine q0d (hlen) ?_
   refine q0e (ht) ?_
   refine q0c ?_
   refine VC.cond (by rfl) (by trivial) (fun he => ?_) (fun he => ?_)
   · have h2 : uerr l p ≠ 0 := by simpa using he
     rw [z24 hlt h2] at hu
     subst hu
     refine q0c ?_
     refine retX Tryz.results219 ?_
     exact ⟨.c _, .c _⟩
   · have h2 : uerr l p = 0 := by simpa using he
     obtain ⟨h3, h4⟩ := j5p h2
     have hn : q5g l p = p + ulen l p := by unfold q5g; rw [if_pos h2]
     rw [z26 hlt h2] at hu
     refine q0d (And.intro hw hn) ?_
     refine .next ⟨(p + ulen l p, k + 1), h4, by simp only []; omega, hu⟩ ?_ (by simp only []; omega)
     refine q4q ?_
     exact cI (by omega)
 · have hge : ¬ p < l.length := by simp at hc; omega
   rw [z25 hge] at hu
   subst hu
   refine q0c ?_
   refine retX Tryz.results219 ?_
   exact ⟨.c _, .c _⟩
theorem z3f (l : List UInt8) (hbig : l.length ≤ 9223372036854775000) : Told Tryz.prog 157 [.c (.sl 1 (q0o l))] (.c (.v (.bool (q3l l)))) := by
 have h := z65 l hbig
 refine VC.toldP ent_157 Tryz.func157 rfl Tryz.ntmps157 fun hb => ?_
 clear hb
 refine q0c ?_
 refine q0e (h) ?_
 refine q0c ?_
 refine retX Tryz.results157 ?_
 exact q30 (by unfold q3l; congr 2; rw [Bool.eq_iff_iff]; simp)

mutual
def JT.sm (N : Nat) : JT → Prop
 | .mk k n s ks xs => s.length ≤ N ∧ ks.length ≤ N ∧ (∀ y ∈ ks, y.length ≤ N) ∧ xs.length ≤ N ∧ JT.smL N xs
def JT.smL (N : Nat) : List JT → Prop
 | [] => True
 | x :: xs => x.sm N ∧ JT.smL N xs
end
theorem j5l {N : Nat} : ∀ {xs : List JT}, JT.smL N xs → ∀ x ∈ xs, x.sm N
 | x :: xs, h, y, hy => by
   rcases List.mem_cons.1 hy with rfl | hy
   · exact h.1
   · exact j5l h.2 y hy
def q4v : JT → Bool
 | .mk k n s ks xs =>
   if k = 1 then (n == 0) && s.isEmpty && xs.isEmpty else if k = 2 then (n == 0 || n == 1) && s.isEmpty && xs.isEmpty else if k = 3 then s.isEmpty && xs.isEmpty
   else if k = 4 then (n == 0) && xs.isEmpty && q3l s else if k = 5 ∨ k = 6 then (n == 0) && s.isEmpty else false
theorem q87 (s : List UInt8) : (!((str s).toList == (⟨#[]⟩ : ByteArray).toList)) = !s.isEmpty := by
 rw [q2i, show (⟨#[]⟩ : ByteArray) = str [] from rfl, q2i]
 cases s <;> rfl
theorem nn_eq (n m : Int) : (!(n != m)) = (n == m) := by cases h : n == m <;> simp_all [bne]
theorem z5a (t : JT) (ht : t.sm 140737488355328) : Told Tryz.prog 113 [t.av] (.c (.v (.bool (q4v t)))) := by
 cases t with
 | mk k n s ks xs =>
 have hs : s.length ≤ 140737488355328 := ht.1
 have hR := z3f s (by omega)
 refine VC.told ent_113 Tryz.func113 rfl Tryz.ntmps113 (by simp) rfl rfl fun hb => ?_
 clear hb
 have g1 : decide ((xs.length : Int) > 0) = !xs.isEmpty := by cases xs <;> simp <;> omega
 refine q0d (And.intro @JT.av_eq (And.intro @q0t (And.intro @q87 g1))) ?_
 refine VC.cond (by rfl) (by trivial) (fun h1 => ?_) (fun h1 => ?_)
 · refine q0c ?_
   refine retX Tryz.results113 ?_
   refine q30 ?_
   simp only [beq_iff_eq] at h1
   simp only [q4v, h1, if_true, nn_eq, q50, Bool.not_not]
 refine q0d (And.intro @JT.av_eq @q0t) ?_
 refine VC.cond (by rfl) (by trivial) (fun h2 => ?_) (fun h2 => ?_)
 · refine q0d (And.intro @q0t (And.intro @q87 g1)) ?_
   refine retX Tryz.results113 ?_
   refine q30 ?_
   obtain rfl : k = 2 := by simpa using h2
   simp [q4v]
 refine q0d (And.intro @JT.av_eq @q0t) ?_
 refine VC.cond (by rfl) (by trivial) (fun h3 => ?_) (fun h3 => ?_)
 · refine q0d (And.intro @q0t (And.intro @q87 g1)) ?_
   refine retX Tryz.results113 ?_
   refine q30 ?_
   obtain rfl : k = 3 := by simpa using h3
   simp [q4v]
 refine q0d (And.intro @JT.av_eq @q0t) ?_
 refine VC.cond (by rfl) (by trivial) (fun h4 => ?_) (fun h4 => ?_)
 · obtain rfl : k = 4 := by simpa using h4
   refine q0d (And.intro @q0t (And.intro @q87 (And.intro g1 (And.intro @q2l hs)))) ?_
   refine j20 (@q6t) (hR) ?_
   refine q0c ?_
   refine retX Tryz.results113 ?_
   refine q30 ?_
   simp only [q4v, nn_eq, q50, Bool.not_not]
   simp
 refine q0d (And.intro @JT.av_eq @q0t) ?_
 refine VC.cond (by rfl) (by trivial) (fun h5 => ?_) (fun h5 => ?_)
 · obtain rfl : k = 5 := by simpa using h5
   refine q0d (@q0t) ?_
   refine VC.condT (by rfl) (by trivial) ?_
   refine q0d (And.intro @q0t (And.intro @q87 g1)) ?_
   refine retX Tryz.results113 ?_
   refine q30 ?_
   simp only [q4v, nn_eq, q50, Bool.not_not]
   simp
 refine q0d (And.intro @JT.av_eq @q0t) ?_
 refine VC.cond (by rfl) (by trivial) (fun h6 => ?_) (fun h6 => ?_)
 · obtain rfl : k = 6 := by simpa using h6
   refine q0d (And.intro @q0t (And.intro @q87 g1)) ?_
   refine retX Tryz.results113 ?_
   refine q30 ?_
   simp only [q4v, nn_eq, q50, Bool.not_not]
   simp
 · refine q0d (And.intro @q0t (And.intro @q87 g1)) ?_
   refine retX Tryz.results113 ?_
   refine q30 ?_
   simp only [beq_eq_false_iff_ne] at h1 h2 h3 h4 h5 h6
   simp [q4v, h1, h2, h3, h4, h5, h6]
section
open Go.RowKit Go.Sort
theorem z7q (l : List (List UInt8)) : Told Tryz.prog 159 [.c (.sl 1 (l.map sPV))] (.fn (.func 222) [] [.pp [.sl 1 (l.map sPV)]]) := by
 refine VC.toldP ent_159 Tryz.func159 rfl Tryz.ntmps159 fun hb => ?_
 clear hb
 refine q0c ?_
 refine retX Tryz.results159 ?_
 exact .fnL .nil (.cons (.refP (es := [.sl 1 (l.map sPV)]) rfl rfl rfl rfl rfl) .nil)
theorem z4x (l : List (List UInt8)) (hl : l.length ≤ 4294967296) : ToldM Tryz.prog 220 [.fn (.func 222) [] [.pp [.sl 1 (l.map sPV)]]] [] [some (sB l)] (.row 1000000 l.length) := by
 have h := z33 l hl
 unfold sB at h ⊢
 refine VC.toldXF (And.intro @q4c @sA_sc) ent_220 [16] Tryz.func220 rfl Tryz.ntmps220 fun hb hbL => ?_
 clear hb hbL
 refine q0c ?_
 refine q0i (@q5e) [] (h) ?_
 refine q0d (And.intro @q5e @q4c) ?_
 refine q0j (And.intro @q5e @q4c) Tryz.results220 ?_
 exact .keepW rfl
theorem z6y (l : List (List UInt8)) (hl : l.length ≤ 4294967296) : ToldM Tryz.prog 158 [.fn (.func 222) [] [.pp [.sl 1 (l.map sPV)]]] [] [some (sB (srt l))] (.row 1000000 l.length) := by
 have h := z4x l hl
 have h2 := sort_told l hl
 have hsl := q7f l
 unfold sB at h h2 ⊢
 refine VC.toldXF (And.intro @q4c (And.intro @sA_sc hsl)) ent_158 [16] Tryz.func158 rfl Tryz.ntmps158 fun hb hbL => ?_
 clear hb hbL
 refine q0c ?_
 refine q0i (@q5e) [] (h) ?_
 refine q0d (And.intro @q5e @q4c) ?_
 refine q0i (@q5e) [16] (h2) ?_
 refine q0d (And.intro @q5e @q4c) ?_
 refine q0j (And.intro @q5e @q4c) Tryz.results158 ?_
 exact .keepW rfl
theorem z5c (s : List UInt8) (hs : s.length ≤ 140737488355328) : Told Tryz.prog 160 [.c (.v (.string (str s)))] (.c (.v (.bool (!q3l s)))) := by
 have h := z3f s (by omega)
 refine VC.toldP ent_160 Tryz.func160 rfl Tryz.ntmps160 fun hb => ?_
 clear hb
 refine q0d (And.intro @q2l hs) ?_
 refine q33 (@q6t) (h) ?_
 refine q0c ?_
 refine retX Tryz.results160 ?_
 exact .c _
def q7p : JT → Bool
 | .mk k n s ks xs => if k ≠ 6 then ks.isEmpty else decide (ks.length = xs.length) && (decide ((Lib.compact (srt ks)).length = ks.length) && ks.all q3l)
theorem z5b (t : JT) (ht : t.sm 4294967296) : Told Tryz.prog 114 [t.av] (.c (.v (.bool (q7p t)))) := by
 cases t with
 | mk k n s ks xs =>
 obtain ⟨_, hk, hks, _, _⟩ := ht
 have hV := z7q ks
 have hS := z6y ks hk
 have hC := z40 (srt ks) (by rw [q7f]; exact hk)
 have hF := cnfS_told (g := 160) (fs := []) (cs := []) rfl rfl ks (fun s => !q3l s) fun s hs => z5c s (by have := hks s hs; omega)
 unfold sB at hS hC
 rw [q7f] at hC
 refine VC.told ent_114 Tryz.func114 rfl Tryz.ntmps114 (by simp) rfl rfl fun hb => ?_
 clear hb
 refine q0d (And.intro @JT.av_eq @q0t) ?_
 refine VC.cond (by rfl) (by trivial) (fun h6 => ?_) (fun h6 => ?_)
 · refine q0d (@q0t) ?_
   refine retX Tryz.results114 ?_
   refine q30 ?_
   simp only [bne_iff_ne] at h6
   simp only [q7p]
   rw [if_pos h6]
   cases ks <;> simp <;> omega
 · refine q0d (@q0t) ?_
   refine q0e (hV) ?_
   refine q0c ?_
   refine q0i (@q5e) [] (hS) ?_
   simp only [bne_eq_false_iff_eq] at h6
   subst h6
   by_cases hkx : ks.length = xs.length
   · have hg : ((ks.length : Int) == (xs.length : Int)) = true := by simp [hkx]
     refine q0d (And.intro @q5e (And.intro @q4c (And.intro @q0t hg))) ?_
     refine q0i (And.intro @q5e (And.intro @q4c @q7f)) [64] (hC) ?_
     refine q0d (And.intro @q5e (And.intro @q4c (And.intro @q0t hg))) ?_
     refine j20 (@q0t) (hF) ?_
     refine q0c ?_
     refine retX Tryz.results114 ?_
     refine q30 ?_
     have e1 : (!ks.any fun s => !q3l s) = ks.all q3l := by rw [List.not_any_eq_all_not]; simp
     have e2 : (((Lib.compact (srt ks)).length : Int) == (ks.length : Int)) = decide ((Lib.compact (srt ks)).length = ks.length) := by
      rw [Bool.eq_iff_iff]
      simp
      omega
     rw [e1, e2]
     simp [q7p, hkx]
   · have hg : ((ks.length : Int) == (xs.length : Int)) = false := by simp; omega
     refine q0d (And.intro @q5e (And.intro @q4c (And.intro @q0t hg))) ?_
     refine retX Tryz.results114 ?_
     refine q30 ?_
     simp [q7p, hkx]
end

theorem ixfJ_told {g : FuncId} {fs cs : List AV} (hp : AV.pureL fs = true) (hp' : AV.pureL cs = true) (l : List (JT)) (p : JT → Bool) (hk : ∀ x ∈ l, Told Tryz.prog g (fs ++ ([x.av] ++ cs)) (.c (.v (.bool (p x))))) :
  Told Tryz.prog 162 [.c (.sl 5 (l.map JT.cells)), .fn (.func g) fs cs] (.c (.v (.int .i64 (idxP p l)))) := by
 refine VC.told ent_162 Tryz.func162 rfl Tryz.ntmps162 (by simp) (by simp [AV.pureB, AV.pureL, hp, hp']) rfl fun hb => ?_
 simp only [List.mem_cons, List.not_mem_nil, or_false, forall_eq_or_imp, forall_eq, q47, q5d, List.length_map] at hb
 have h1 := hb.1.1
 clear hb
 refine q0c ?_
 refine VC.loop (ι := {i : Nat // i ≤ l.length ∧ ∀ j x, j < i → l[j]? = some x → p x = false}) (fun i => [(0, .c (.sl 5 (l.map JT.cells))), (1, .fn (.func g) fs cs), (7, .c (.v (.int .i64 l.length))), (8, .c (.v (.int .i64 i.1)))]) (fun _ => []) 0 (fun i => l.length - i.1) ⟨0, Nat.zero_le _, by intro j x hj; omega⟩ ?_ ?_
 · simp only [q4d hp, q4d hp', Weak, eq_self, q09, q03, sc_c, q05, q06, q07, q02, q04, ScL, q08, List.forall_mem_map, go_sem, Int.reduceBEq, Int.reduceLE, Int.reduceLT, Int.reduceNeg, Nat.reduceAdd, Nat.reduceEqDiff, Nat.reduceLT, Nat.reduceLeDiff, Nat.reduceMul, Nat.reduceSub, reduceCtorEq, ↓reduceIte]
   all_goals rfl
 rintro ⟨i, hi, ht⟩
 refine q0c ?_
 refine VC.cond (by rfl) (by trivial) (fun hc => ?_) (fun hc => ?_)
 · simp only [decide_eq_true_eq] at hc
   obtain ⟨x, hx⟩ : ∃ x, l[i]? = some x := ⟨l[i]'(by omega), List.getElem?_eq_getElem _⟩
   have hw : IntKind.i64.wrap ((i : Int) + 1) = (i : Int) + 1 := q0w (by omega) (by omega)
   have hkx := hk x (List.mem_of_getElem? hx)
   refine q0d (And.intro @q4w (And.intro hx (And.intro @JT.av_eq (And.intro @q2n (And.intro @q3a @q2t))))) ?_
   refine q33 (And.intro @JT.av_eq (And.intro @q2n (And.intro @q3a (And.intro @q2t (And.intro hp (And.intro hp' (And.intro @j3l (And.intro @q20 @lAss)))))))) (hkx) ?_
   refine q0c ?_
   refine VC.cond (by rfl) (by trivial) (fun hpx => ?_) (fun hpx => ?_)
   · have hr := j2m hx hpx ht
     refine q0c ?_
     refine retX Tryz.results162 ?_
     rw [hr]
     exact .c _
   · refine q0d (hw) ?_
     refine .next ⟨i + 1, by omega, fun j y hj hy => ?_⟩ ?_ (by simp only []; omega)
     · rcases Nat.lt_or_ge j i with h | h
       · exact ht j y h hy
       · obtain rfl : j = i := by omega
         rw [hx] at hy
         obtain rfl := Option.some.inj hy
         exact hpx
     simp only [q4d hp, q4d hp', Weak, eq_self, q09, q03, sc_c, q05, q06, q07, q02, q04, ScL, q08, List.forall_mem_map, go_sem, Int.reduceBEq, Int.reduceLE, Int.reduceLT, Int.reduceNeg, Nat.reduceAdd, Nat.reduceEqDiff, Nat.reduceLT, Nat.reduceLeDiff, Nat.reduceMul, Nat.reduceSub, reduceCtorEq, ↓reduceIte]
     exact cI (by omega)
 · simp only [decide_eq_false_iff_not] at hc
   obtain rfl : i = l.length := by omega
   have hr := j2n ht
   refine q0c ?_
   refine retX Tryz.results162 ?_
   rw [hr]
   exact .c _
theorem cnfJ_told {g : FuncId} {fs cs : List AV} (hp : AV.pureL fs = true) (hp' : AV.pureL cs = true) (l : List (JT)) (p : JT → Bool) (hk : ∀ x ∈ l, Told Tryz.prog g (fs ++ ([x.av] ++ cs)) (.c (.v (.bool (p x))))) :
  Told Tryz.prog 115 [.c (.sl 5 (l.map JT.cells)), .fn (.func g) fs cs] (.c (.v (.bool (l.any p)))) := by
 have hi := ixfJ_told hp hp' l p hk
 refine VC.told ent_115 Tryz.func115 rfl Tryz.ntmps115 (by simp) (by simp [AV.pureB, AV.pureL, hp, hp']) rfl fun hb => ?_
 clear hb
 refine q0c ?_
 refine q33 (And.intro hp hp') (hi) ?_
 refine q0c ?_
 refine retX Tryz.results115 ?_
 exact q30 (by rw [j4u])

def JT.kids : JT → List JT
 | .mk _ _ _ _ xs => xs
mutual
theorem sm_le {N M : Nat} (h : N ≤ M) : ∀ t : JT, t.sm N → t.sm M
 | .mk k n s ks xs => fun ⟨h1, h2, h3, h4, h5⟩ => ⟨Nat.le_trans h1 h, Nat.le_trans h2 h, fun y hy => Nat.le_trans (h3 y hy) h, Nat.le_trans h4 h, smL_le h xs h5⟩
theorem smL_le {N M : Nat} (h : N ≤ M) : ∀ xs : List JT, JT.smL N xs → JT.smL M xs
 | [] => fun _ => trivial
 | x :: xs => fun hx => ⟨sm_le h x hx.1, smL_le h xs hx.2⟩
end
mutual
def q56 (d : Nat) : JT → Bool
 | .mk k n s ks xs => q4v (.mk k n s ks xs) && q7p (.mk k n s ks xs) && !(decide (32 ≤ d) && (decide (k = 5) || decide (k = 6))) && q7q (d + 1) xs
def q7q (d : Nat) : List JT → Bool
 | [] => true
 | x :: xs => q56 d x && q7q d xs
end
theorem z0q (d : Nat) : ∀ xs : List JT, (!xs.any fun x => !q56 d x) = q7q d xs
 | [] => rfl
 | x :: xs => by rw [q7q, ← z0q d xs]; simp
theorem z6a {x : JT} {z : Int} {b : Bool} (h0 : 0 ≤ z) (h1 : z ≤ 32) (h : Told Tryz.prog 69 [x.av, .c (.v (.int .i64 (z + 1)))] (.c (.v (.bool b)))) : Told Tryz.prog 116 [x.av, .pp [.v (.int .i64 z)]] (.c (.v (.bool (!b)))) := by
 have hw : IntKind.i64.wrap (z + 1) = z + 1 := q0w (by omega) (by omega)
 refine VC.told ent_116 Tryz.func116 rfl Tryz.ntmps116 (by simp) (by simp [AV.pureB, AV.pureL, JT.av, q20]) rfl fun hb => ?_
 clear hb
 refine q0d (And.intro @JT.av_eq (And.intro @q2n (And.intro @q3a (And.intro @q2t hw)))) ?_
 refine q33 (And.intro @JT.av_eq (And.intro @q2n (And.intro @q3a (And.intro @q2t (And.intro hw @q20))))) (h) ?_
 refine q0c ?_
 refine retX Tryz.results116 ?_
 exact .c _
theorem j84 {k n : Int} {s : List UInt8} {ks : List (List UInt8)} {xs : List JT} (h : q4v (.mk k n s ks xs) = true) (h5 : k ≠ 5) (h6 : k ≠ 6) : xs = [] := by
 rw [q4v] at h
 split at h
 · simp at h; exact h.2
 · split at h
   · simp at h; exact h.2
   · split at h
     · simp at h; exact h.2
     · split at h
       · simp at h; exact h.1.2
       · rw [if_neg (by simp [h5, h6])] at h
         exact absurd h (by simp)
theorem z6c : ∀ (m : Nat) (t : JT), SizeOf.sizeOf t ≤ m → t.sm 4294967296 → ∀ (d : Nat) (z : Int), d ≤ 32 → z = (d : Int) → Told Tryz.prog 69 [t.av, .c (.v (.int .i64 z))] (.c (.v (.bool (q56 d t)))) := by
 intro m
 induction m with
 | zero => intro t ht; cases t; simp at ht
 | succ m ih =>
 intro t ht hsm d z hd hz
 have hB := z5a t (sm_le (by omega) t hsm)
 have hKy := z5b t hsm
 have hx : ∀ x ∈ t.kids, Told Tryz.prog 69 [x.av, .c (.v (.int .i64 (z + 1)))] (.c (.v (.bool (q56 (d + 1) x)))) ∨ 32 ≤ d := by
  intro x hx
  by_cases h32 : 32 ≤ d
  · exact .inr h32
  · cases t with
    | mk k n s ks xs => exact .inl (ih x (by have := List.sizeOf_lt_of_mem (show x ∈ xs from hx); simp at ht; omega) (j5l hsm.2.2.2.2 x hx) (d + 1) (z + 1) (by omega) (by omega))
 clear ih ht hsm
 obtain ⟨V, hV⟩ : ∃ V, V = q56 d t := ⟨_, rfl⟩
 rw [← hV]
 cases t with
 | mk k n s ks xs =>
 rw [q56] at hV
 replace hx : ∀ x ∈ xs, _ := hx
 obtain ⟨b1, hb1⟩ : ∃ b1, b1 = q4v (.mk k n s ks xs) := ⟨_, rfl⟩
 obtain ⟨b2, hb2⟩ : ∃ b2, b2 = q7p (.mk k n s ks xs) := ⟨_, rfl⟩
 rw [← hb1] at hB hV
 rw [← hb2] at hKy hV
 simp only [JT.av, q0t, List.map_cons, List.map_nil] at hB hKy
 refine VC.told ent_69 Tryz.func69 rfl Tryz.ntmps69 (by simp) rfl rfl fun hb => ?_
 clear hb
 refine q0d (And.intro @JT.av_eq @q0t) ?_
 refine q33 (And.intro @JT.av_eq @q0t) (hB) ?_
 refine q0d (And.intro @JT.av_eq @q0t) ?_
 refine j20 (And.intro @JT.av_eq @q0t) (hKy) ?_
 refine q0d (And.intro @JT.av_eq @q0t) ?_
 refine VC.cond (by rfl) (by trivial) (fun hc => ?_) (fun hc => ?_)
 · have hVf : V = false := by
    rw [hV]
    cases b1 <;> cases b2 <;> simp_all
    omega
   rw [hVf]
   refine q0c ?_
   refine retX Tryz.results69 ?_
   exact .c _
 · have hb12 : b1 = true ∧ b2 = true ∧ (32 ≤ d → k ≠ 5 ∧ k ≠ 6) := by
    cases b1 <;> cases b2 <;> simp_all
    intro h32
    exact hc (by omega)
   obtain ⟨rfl, rfl, hk56⟩ := hb12
   have hx2 : ∀ x ∈ xs, Told Tryz.prog 69 [x.av, .c (.v (.int .i64 (z + 1)))] (.c (.v (.bool (q56 (d + 1) x)))) := by
    intro x hxm
    rcases hx x hxm with h | h
    · exact h
    · obtain ⟨h5, h6⟩ := hk56 h
      rw [j84 hb1.symm h5 h6] at hxm
      simp at hxm
   have hVt : V = q7q (d + 1) xs := by
    rw [hV]
    by_cases h32 : 32 ≤ d
    · obtain ⟨h5, h6⟩ := hk56 h32
      simp [h5, h6]
    · simp [h32]
   have hF := cnfJ_told (g := 116) (fs := []) (cs := [.pp [.v (.int .i64 z)]]) rfl rfl xs (fun x => !q56 (d + 1) x) fun x hxm => z6a (by omega) (by omega) (hx2 x hxm)
   refine VC.skip ?_; refine SQ.normal ?_
   refine VC.frz [8] [(2, .ref 0 1 0 0), (3, .pp [.v (.int .i64 z)])] [(0, ⟨false, 25, 5, [(JT.mk k n s ks xs).cells.map .c]⟩)] 400 ?_ ?_
   · refine q6y (@q0t) ?_
     exact ⟨⟨.same _, .ref (es := [.v (.int .i64 z)]) (by simp) rfl rfl rfl rfl⟩, .same _⟩
   refine q0d (@q0t) ?_
   refine q33 (@q0t) (hF) ?_
   refine q0c ?_
   refine retX Tryz.results69 ?_
   rw [hVt, ← z0q]
   exact .c _
def jR (t : JT) : Bool := q56 0 t
theorem z0p (t : JT) (ht : t.sm 4294967296) : Told Tryz.prog 34 [t.av] (.c (.v (.bool (jR t)))) := by
 have h := z6c _ t (Nat.le_refl _) ht 0 0 (by omega) rfl
 refine VC.told ent_34 Tryz.func34 rfl Tryz.ntmps34 (by simp) (by simp [AV.pureB, AV.pureL, JT.av, q20]) rfl fun hb => ?_
 clear hb
 refine q0d (And.intro @JT.av_eq (And.intro @q2n (And.intro @q3a @q2t))) ?_
 refine q33 (And.intro @JT.av_eq (And.intro @q2n (And.intro @q3a (And.intro @q2t @q20)))) (h) ?_
 refine q0c ?_
 refine retX Tryz.results34 ?_
 exact .c _

theorem nodup_of {ks : List (List UInt8)} (h : (Lib.compact (srt ks)).length = ks.length) : ks.Nodup := by
 have hperm : (srt ks).Perm ks := List.mergeSort_perm ks _
 have hlen := q7f ks
 have hsort : (srt ks).Pairwise fun a b => a ≤ b := by
  have := List.pairwise_mergeSort (le := fun x y : List UInt8 => decide (x ≤ y)) (fun a b c h1 h2 => by simp only [decide_eq_true_eq] at h1 h2 ⊢; exact List.le_trans h1 h2) (fun a b => by simp only [Bool.or_eq_true, decide_eq_true_eq]; exact List.le_total a b) ks
  exact this.imp fun h => by simpa using h
 generalize srt ks = L at h hperm hlen hsort
 refine hperm.nodup_iff.1 ?_
 have hk : ∀ j, j < L.length → Lib.keeps L.toArray j = true := by
  rw [← hlen] at h
  unfold Lib.compact Lib.compactUpTo at h
  rw [List.length_map] at h
  have h2 : ((List.range L.length).filter (Lib.keeps L.toArray)).length = (List.range L.length).length := by rw [h, List.length_range]
  intro j hj
  exact List.length_filter_eq_length_iff.1 h2 j (List.mem_range.2 hj)
 rw [List.nodup_iff_pairwise_ne, List.pairwise_iff_getElem]
 intro i j hi hj hij heq
 have h1 := List.pairwise_iff_getElem.1 hsort
 have hk1 := hk (i + 1) (by omega)
 have hle1 := h1 i (i + 1) hi (by omega) (by omega)
 have hle2 : L[i + 1]'(by omega) ≤ L[j] := by
  rcases Nat.lt_or_ge (i + 1) j with h2 | h2
  · exact h1 (i + 1) j (by omega) hj h2
  · have : i + 1 = j := by omega
    subst this
    exact List.le_refl _
 rw [← heq] at hle2
 have he := List.le_antisymm hle1 hle2
 unfold Lib.keeps at hk1
 have g1 : L.toArray[i + 1]! = L[i + 1]'(by omega) := by simp [show i + 1 < L.length by omega]
 have g2 : L.toArray[i + 1 - 1]! = L[i] := by simp [hi]
 rw [g1, g2, he] at hk1
 simp at hk1
theorem z4z {ks : List (List UInt8)} (h : ks.Nodup) : (Lib.compact (srt ks)).length = ks.length := by
 have hperm : (srt ks).Perm ks := List.mergeSort_perm ks _
 have hlen := q7f ks
 have hnd := hperm.nodup_iff.2 h
 generalize srt ks = L at hperm hlen hnd ⊢
 have hk : ∀ j, j < L.length → Lib.keeps L.toArray j = true := by
  intro j hj
  unfold Lib.keeps
  by_cases h0 : j = 0
  · simp [h0]
  · have g1 : L.toArray[j]! = L[j] := by simp [hj]
    have g2 : L.toArray[j - 1]! = L[j - 1]'(by omega) := by simp [show j - 1 < L.length by omega]
    rw [g1, g2]
    have := List.pairwise_iff_getElem.1 (List.nodup_iff_pairwise_ne.1 hnd) (j - 1) j (by omega) hj (by omega)
    exact decide_eq_true (.inr fun e => this e.symm)
 unfold Lib.compact Lib.compactUpTo
 rw [List.length_map, List.length_filter_eq_length_iff.2 fun j hj => hk j (List.mem_range.1 hj), List.length_range, hlen]

def rfail : JT → Bool
 | .mk k n s ks xs => decide (k < 1) || decide (k > 6) || (decide (k ≠ 2) && decide (k ≠ 3) && decide (n ≠ 0)) || (decide (k = 2) && decide (n ≠ 0) && decide (n ≠ 1)) || (decide (k ≠ 4) && !s.isEmpty) || !q3l s
   || (decide (k < 5) && !xs.isEmpty) || (decide (k ≠ 6) && !ks.isEmpty) || (decide (k = 6) && decide (ks.length ≠ xs.length))
mutual
def q4y : JT → Bool
 | .mk k n s ks xs => !rfail (.mk k n s ks xs) && (ks.all q3l && decide ks.Nodup) && q5u xs
def q5u : List JT → Bool
 | [] => true
 | x :: xs => q4y x && q5u xs
end
theorem z6b : q3l [] = true := by decide +kernel
theorem j4a (m : Nat) : ∀ (xs : List JT) (n : Nat), q23 n xs ≤ m ↔ n ≤ m ∧ ∀ x ∈ xs, 1 + q1y x ≤ m
 | [], n => by simp [q23]
 | x :: xs, n => by
   rw [q23, j4a m xs]
   simp only [List.mem_cons, forall_eq_or_imp]
   constructor
   · rintro ⟨h1, h2⟩; exact ⟨by omega, by omega, h2⟩
   · rintro ⟨h1, h2, h3⟩; exact ⟨by omega, h3⟩
theorem keyed_iff {k n : Int} {s : List UInt8} {ks : List (List UInt8)} {xs : List JT} : q7p (.mk k n s ks xs) = ((if k ≠ 6 then ks.isEmpty else decide (ks.length = xs.length)) && (ks.all q3l && decide ks.Nodup)) := by
 rw [q7p]
 by_cases h6 : k = 6
 · rw [if_neg (by simp [h6]), if_neg (by simp [h6])]
   have : decide ((Lib.compact (srt ks)).length = ks.length) = decide ks.Nodup := by
    rw [Bool.eq_iff_iff]
    simp only [decide_eq_true_eq]
    exact ⟨nodup_of, z4z⟩
   rw [this, Bool.and_comm (ks.all q3l)]
 · rw [if_pos h6, if_pos h6]
   cases ks with
   | nil => simp
   | cons y ks => simp
theorem bare_iff (k n : Int) (s : List UInt8) (ks : List (List UInt8)) (xs : List JT) : (q4v (.mk k n s ks xs) && (if k ≠ 6 then ks.isEmpty else decide (ks.length = xs.length))) = !rfail (.mk k n s ks xs) := by
 rw [Bool.eq_iff_iff]
 unfold rfail
 rw [q4v]
 have hr := z6b
 by_cases h1 : k = 1
 · subst h1; cases s <;> cases xs <;> cases ks <;> simp [hr]
 by_cases h2 : k = 2
 · subst h2; cases s <;> cases xs <;> cases ks <;> simp [hr]
   all_goals omega
 by_cases h3 : k = 3
 · subst h3; cases s <;> cases xs <;> cases ks <;> simp [hr]
 by_cases h4 : k = 4
 · subst h4; cases s <;> cases xs <;> cases ks <;> simp [hr]
 by_cases h5 : k = 5
 · subst h5; cases s <;> cases xs <;> cases ks <;> simp [hr]
 by_cases h6 : k = 6
 · subst h6; cases s <;> cases xs <;> cases ks <;> simp [hr]
 · have : k < 1 ∨ k > 6 := by omega
   simp [h1, h2, h3, h4, h5, h6, this]
   omega
mutual
theorem z15 (d : Nat) (hd : d ≤ 32) : ∀ t : JT, q56 d t = (decide (d + q1y t ≤ 32) && q4y t)
 | .mk k n s ks xs => by
   rw [q56, q4y, keyed_iff, ← bare_iff, q1y]
   by_cases hb : q4v (.mk k n s ks xs) = true
   · by_cases h56 : k = 5 ∨ k = 6
     · rw [if_pos h56]
       by_cases h32 : d = 32
       · subst h32
         have := (j4a 0 xs 1)
         have h1 : ¬ 32 + q23 1 xs ≤ 32 := by
          intro h
          have := (j4a 0 xs 1).1 (by omega)
          omega
         rw [Bool.eq_iff_iff]
         simp [h1]
         omega
       · rw [z16 (d + 1) (by omega) xs]
         have h2 : decide (d + q23 1 xs ≤ 32) = (xs.all fun x => decide (d + 1 + q1y x ≤ 32)) := by
          rw [Bool.eq_iff_iff]
          simp only [decide_eq_true_eq, List.all_eq_true]
          have := j4a (32 - d) xs 1
          constructor
          · intro h x hx
            have := (this.1 (by omega)).2 x hx
            omega
          · intro h
            have := this.2 ⟨by omega, fun x hx => by have := h x hx; omega⟩
            omega
         have h3 : decide (32 ≤ d) = false := by simp; omega
         rw [h2, hb, h3]
         simp only [Bool.false_and, Bool.not_false, Bool.and_true, Bool.true_and]
         generalize (xs.all fun x => decide (d + 1 + q1y x ≤ 32)) = A
         generalize ((if k ≠ 6 then ks.isEmpty else decide (ks.length = xs.length)) && (ks.all q3l && decide ks.Nodup)) = Z
         cases A <;> cases Z <;> simp
     · rw [if_neg h56, j84 hb (fun h => h56 (.inl h)) (fun h => h56 (.inr h))]
       have h5 : decide (k = 5) = false := by simp; exact fun h => h56 (.inl h)
       have h6 : decide (k = 6) = false := by simp; exact fun h => h56 (.inr h)
       rw [h5, h6]
       simp [q7q, q5u, hd, Bool.and_assoc]
   · simp [hb]
theorem z16 (d : Nat) (hd : d ≤ 32) : ∀ xs : List JT, q7q d xs = ((xs.all fun x => decide (d + q1y x ≤ 32)) && q5u xs)
 | [] => rfl
 | x :: xs => by
   rw [q7q, q5u, z15 d hd x, z16 d hd xs, List.all_cons]
   cases decide (d + q1y x ≤ 32) <;> cases q4y x <;> simp
end
theorem j3f (t : JT) : jR t = (decide (q1y t ≤ 32) && q4y t) := by
 unfold jR
 rw [z15 0 (by omega) t, Nat.zero_add]

theorem z63 {α : Type} [DecidableEq α] {ks ls : List α} {i : Nat} {x y : α} (hx : ks[i]? = some x) (hy : ls[i]? = some y) (ht : ks.take i = ls.take i) : ks.take (i + 1) = ls.take (i + 1) ↔ x = y := by
 rw [List.take_add_one, List.take_add_one, hx, hy, ht]
 simp
noncomputable def jeq (a b : JT) : Bool := @decide (a = b) (Classical.propDecidable _)
theorem j6w (a b : JT) : jeq a b = true ↔ a = b := by simp [jeq]
theorem j6v (a b : JT) : jeq a b = false ↔ a ≠ b := by simp [jeq]
theorem j6x (a : JT) : jeq a a = true := (j6w a a).2 rfl

/-! Names. -/
def q4h (c : UInt8) : Bool := (decide (97 ≤ c.toNat) && decide (c.toNat ≤ 122)) || ((decide (65 ≤ c.toNat) && decide (c.toNat ≤ 90)) || decide (c.toNat = 95))
def q6m (c : UInt8) : Bool := decide (48 ≤ c.toNat) && decide (c.toNat ≤ 57)
def q4e : List UInt8 → Bool
 | [] => false
 | c :: cs => q4h c && cs.all fun c => q4h c || q6m c
def q1h (s : List UInt8) : Bool := decide (s.length ≤ 100) && q4e s
def q54 : Nat → List UInt8 → Bool
 | 0, _ => false
 | n + 1, s => q4e (s.takeWhile (· != 46)) && (match s.dropWhile (· != 46) with | [] => true | _ :: r => q54 n r)
def q4u (s : List UInt8) : Bool := decide (s.length ≤ 100) && q54 (s.length + 1) s
theorem z0f : ∀ (n m : Nat) (s : List UInt8), s.length < n → s.length < m → q54 n s = q54 m s
 | 0, _, _, h, _ => by omega
 | _, 0, _, _, h => by omega
 | n + 1, m + 1, s, h1, h2 => by
   rw [q54, q54]
   congr 1
   have hd : (s.dropWhile (· != 46)).length ≤ s.length := (List.dropWhile_sublist _).length_le
   split
   · rfl
   · rename_i x r hr
     rw [hr] at hd
     simp at hd
     exact z0f n m r (by omega) (by omega)
def q3v : List (List UInt8) := [[], [110, 117, 108, 108], [98, 111, 111, 108, 101, 97, 110], [105, 110, 116], [108, 111, 110, 103], [102, 108, 111, 97, 116], [100, 111, 117, 98, 108, 101], [98, 121, 116, 101, 115], [115, 116, 114, 105, 110, 103], [114, 101, 99, 111, 114, 100], [101, 110, 117, 109], [97, 114, 114, 97, 121], [109, 97, 112], [], [102, 105, 120, 101, 100]]
def q0h (s : List UInt8) : Nat := if s = [] then 0 else match q3v.findIdx? (· == s) with | some i => i | none => 0
/-! Schemas that may be. -/
def q39 : JT := .mk 0 0 [] [] []
def q3y (f : Nat → List Int → Int × List Int) : List FT → Int → List Int → Int × List Int
 | [], n, kn => (n, kn)
 | x :: xs, n, kn => q3y f xs (min (n + (f x.type.toNat kn).1) 1001) (f x.type.toNat kn).2
def knAt (kn : List Int) (k : Nat) : Int := match kn[k]? with | some n => n | none => 0
def q15 (ns : List NT) (k : Nat) : List FT := match ns[k]? with | some n => (if n.kind = 9 then n.fields else []) | none => []
def q2y (ns : List NT) : Nat → Nat → List Int → Int × List Int
 | 0, _, kn => (1001, kn)
 | d + 1, p, kn => if knAt kn p < 0 then (1001, kn) else if 0 < knAt kn p then (knAt kn p, kn) else
   ((q3y (q2y ns d) (q15 ns p) 1 (kn.set p (-1))).1, (q3y (q2y ns d) (q15 ns p) 1 (kn.set p (-1))).2.set p (q3y (q2y ns d) (q15 ns p) 1 (kn.set p (-1))).1)
def isN (name : List UInt8) (n : NT) : Bool := q1w n.kind && n.name == name

theorem z23 {P : Program} {f : FuncId} {xs : List Value} {r : Value} (hE : q0n P f) (hr : r.oneCell' = true) (h : ∀ W : World, Calls P f xs.toArray W fun e w' => e = .returned r ∧ w' = W) : Told P f (xs.map fun x => .c (.v x)) (.c (.v r)) := by
 refine ⟨hE, fun W ro vs hro hgk hl => ?_⟩
 have hvs : vs = xs := by
  apply List.ext_getElem?
  intro k
  by_cases hk : k < xs.length
  · have hkv : k < vs.length := by rw [hl.1]; simpa using hk
    have := hl.2 k _ _ (by rw [List.getElem?_map, List.getElem?_eq_getElem hk]; rfl) (List.getElem?_eq_getElem hkv)
    rw [List.getElem?_eq_getElem hkv, q13 this, List.getElem?_eq_getElem hk]
  · rw [List.getElem?_eq_none (by rw [hl.1]; simpa using hk), List.getElem?_eq_none (by omega)]
 subst hvs
 refine (h W).mono ?_
 rintro e W' ⟨rfl, rfl⟩
 exact ⟨r, ro, rfl, Below.refl _ _, fun b h => h, fun b h => ⟨.inl h, hro b h⟩, .c (.v hr), .c _⟩

theorem z5j (c : UInt8) : Told Tryz.prog 89 [.c (.v (.int .u8 (c.toNat : Int)))] (.c (.v (.bool (q4h c)))) := by
 obtain ⟨V, hV⟩ : ∃ V, V = q4h c := ⟨_, rfl⟩
 rw [← hV]
 obtain ⟨y, hy⟩ : ∃ y : Int, y = (c.toNat : Int) := ⟨_, rfl⟩
 rw [← hy]
 have hv : V = ((decide (y ≥ 97) && decide (y ≤ 122)) || ((decide (y ≥ 65) && decide (y ≤ 90)) || (y == 95))) := by
  have e : (y == 95) = decide (c.toNat = 95) := by
   rw [hy]
   by_cases h : c.toNat = 95
   · simp [h]
   · have : ¬ ((c.toNat : Int) = 95) := by omega
     simp [h, this]
  rw [hV, q4h, e, hy]
  congr 1
  · congr 1 <;> simp <;> omega
  · congr 1
    congr 1 <;> simp <;> omega
 clear hV hy
 replace hv := Lib.hid hv
 refine VC.toldP ent_89 Tryz.func89 rfl Tryz.ntmps89 fun hb => ?_
 clear hb
 refine q0d (@lAss) ?_
 refine retX Tryz.results89 ?_
 have hv2 : V = ((decide (y ≥ 97) && decide (y ≤ 122)) || (decide (y ≥ 65) && decide (y ≤ 90)) || (y == 95)) := by rw [hv.out, Bool.or_assoc]
 rw [hv2]
 exact .c _
def okAt (i : Nat) (c : UInt8) : Bool := q4h c || (decide (0 < i) && q6m c)
theorem z2l {s : List UInt8} : q4e s = true ↔ s ≠ [] ∧ ∀ (i : Nat) (c : UInt8), s[i]? = some c → okAt i c = true := by
 cases s with
 | nil => simp [q4e]
 | cons x xs =>
   simp only [q4e, Bool.and_eq_true, List.all_eq_true, ne_eq, reduceCtorEq, not_false_eq_true, true_and]
   constructor
   · rintro ⟨h1, h2⟩ i c hc
     match i with
     | 0 =>
       simp at hc
       subst hc
       simp [okAt, h1]
     | i + 1 =>
       rw [List.getElem?_cons_succ] at hc
       have := h2 c (List.mem_of_getElem? hc)
       simpa [okAt] using this
   · intro h
     refine ⟨by simpa [okAt] using h 0 x rfl, fun c hc => ?_⟩
     obtain ⟨i, hi⟩ := List.getElem?_of_mem hc
     simpa [okAt] using h (i + 1) c (by rw [List.getElem?_cons_succ]; exact hi)
theorem z2m (s : List UInt8) (hs : s.length ≤ 1000000000) : Told Tryz.prog 50 [.c (.v (.string (str s)))] (.c (.v (.bool (q4e s)))) := by
 obtain ⟨V, hV⟩ : ∃ V, V = q4e s := ⟨_, rfl⟩
 rw [← hV]
 refine VC.toldP ent_50 Tryz.func50 rfl Tryz.ntmps50 fun hb => ?_
 clear hb
 refine q0d (@q2l) ?_
 refine VC.loop (ι := {i : Nat // i ≤ s.length ∧ ∀ (j : Nat) (c : UInt8), j < i → s[j]? = some c → okAt j c = true})
  (fun q => [(0, .c (.v (.string (str s)))), (5, .c (.v (.int .i64 (s.length : Int)))), (6, .c (.v (.int .i64 (q.1 : Int))))]) (fun _ => []) 800 (fun q => s.length - q.1) ⟨0, Nat.zero_le _, fun j c h => by omega⟩ ?_ ?_
 · simp only [Weak, eq_self, q09, q03, sc_c, q05, q06, q07, q02, q04, ScL, q08, List.forall_mem_map, go_sem, Int.reduceBEq, Int.reduceLE, Int.reduceLT, Int.reduceNeg, Nat.reduceAdd, Nat.reduceEqDiff, Nat.reduceLT, Nat.reduceLeDiff, Nat.reduceMul, Nat.reduceSub, reduceCtorEq, ↓reduceIte]
   try trivial
 rintro ⟨i, hi, ht⟩
 simp only []
 refine q0c ?_
 refine VC.cond (by rfl) (by trivial) (fun hc => ?_) (fun hc => ?_)
 · have hlt : i < s.length := by simp at hc; omega
   obtain ⟨c, hx⟩ : ∃ c, s[i]? = some c := ⟨s[i], List.getElem?_eq_getElem hlt⟩
   have hw : IntKind.i64.wrap ((i : Int) + 1) = (i : Int) + 1 := q0w (by omega) (by omega)
   have hL := z5j c
   refine q0d (And.intro @q2l (And.intro @q6t hx)) ?_
   refine q0e (hL) ?_
   refine q0d (And.intro @q2l (And.intro @q6t hx)) ?_
   refine VC.cond (by rfl) (by trivial) (fun hc2 => ?_) (fun hc2 => ?_)
   · have hf : V = false := by
      cases h : V with
      | false => rfl
      | true =>
        rw [hV, z2l] at h
        have := h.2 i c hx
        cases hl : q4h c with
        | true => simp [hl] at hc2
        | false =>
          simp [okAt, q6m, hl] at this hc2
          omega
     subst hf
     refine q0c ?_
     refine retX Tryz.results50 ?_
     exact .c _
   · refine q0d (hw) ?_
     refine .next ⟨i + 1, by omega, ?_⟩ ?_ (by simp only []; omega)
     · intro j d hj hd
       by_cases hji : j < i
       · exact ht j d hji hd
       · obtain rfl : j = i := by omega
         rw [hx] at hd
         obtain rfl := Option.some.inj hd
         cases hl : q4h c with
         | true => simp [okAt, hl]
         | false =>
           simp [okAt, q6m, hl] at hc2 ⊢
           omega
     simp only [Weak, eq_self, q09, q03, sc_c, q05, q06, q07, q02, q04, ScL, q08, List.forall_mem_map, go_sem, Int.reduceBEq, Int.reduceLE, Int.reduceLT, Int.reduceNeg, Nat.reduceAdd, Nat.reduceEqDiff, Nat.reduceLT, Nat.reduceLeDiff, Nat.reduceMul, Nat.reduceSub, reduceCtorEq, ↓reduceIte]
     try exact cI (by omega)
 · have hE : (⟨#[]⟩ : ByteArray).toList = [] := q2i []
   have hie : i = s.length := by simp at hc; omega
   have hf : V = !(s == []) := by
    rw [hV, Bool.eq_iff_iff, z2l]
    constructor
    · rintro ⟨h1, _⟩
      simpa using h1
    · intro h1
      refine ⟨by simpa using h1, fun j c hj => ht j c ?_ hj⟩
      have := (List.getElem?_eq_some_iff.1 hj).1
      omega
   refine q0d (And.intro @q2i hE) ?_
   refine retX Tryz.results50 ?_
   rw [hf]
   exact .c _
theorem j5k (s : List UInt8) (hs : s.length ≤ 1000000000) : Told Tryz.prog 97 [.c (.v (.string (str s)))] (.c (.v (.bool (q1h s)))) := by
 obtain ⟨V, hV⟩ : ∃ V, V = q1h s := ⟨_, rfl⟩
 rw [← hV]
 have hv : V = (decide ((s.length : Int) ≤ 100) && q4e s) := by
  rw [hV, q1h]
  congr 1
  simp
  omega
 have hT := z2m s hs
 clear hV
 refine VC.toldP ent_97 Tryz.func97 rfl Tryz.ntmps97 fun hb => ?_
 clear hb
 refine q0d (@q2l) ?_
 refine q6x (hT) ?_
 refine q0c ?_
 refine retX Tryz.results97 ?_
 rw [hv]
 exact .c _

theorem j6u (c : UInt8) : ∀ s : List UInt8, (Lib.indexByte s c = -1 ∧ s.takeWhile (· != c) = s ∧ s.dropWhile (· != c) = []) ∨ (∃ i : Nat, i < s.length ∧ Lib.indexByte s c = (i : Int) ∧ s.takeWhile (· != c) = s.take i ∧ s.dropWhile (· != c) = c :: s.drop (i + 1))
 | [] => .inl ⟨rfl, rfl, rfl⟩
 | x :: xs => by
   by_cases h : x = c
   · subst h
     exact .inr ⟨0, by simp, by simp [Lib.indexByte], by simp, by simp⟩
   · have hb : (x == c) = false := by simp [h]
     have hb' : (x != c) = true := by simp [h]
     rcases j6u c xs with ⟨h1, h2, h3⟩ | ⟨i, h0, h1, h2, h3⟩
     · exact .inl ⟨by simp [Lib.indexByte, hb, h1], by rw [List.takeWhile_cons, if_pos hb', h2], by rw [List.dropWhile_cons, if_pos hb', h3]⟩
     · refine .inr ⟨i + 1, by simp; omega, ?_, by rw [List.takeWhile_cons, if_pos hb', h2]; rfl, by rw [List.dropWhile_cons, if_pos hb', h3]; rfl⟩
       rw [Lib.indexByte, hb, h1]
       have : ((i : Int) == -1) = false := by simp
       simp [this]
theorem q88 (l : List UInt8) (a b : Nat) : (str l).extract a b = str ((l.take b).drop a) := by
 apply ByteArray.ext
 simp [str, ByteArray.data_extract, List.drop_take]
theorem z0n (s : List UInt8) : Told Tryz.prog 139 [.c (.v (.string (str s))), .c (.v (.string ⟨#[46]⟩))] (.c (.v (.int .i64 (Lib.indexByte s 46)))) :=
 z23 (xs := [.string (str s), .string ⟨#[46]⟩]) ent_139 rfl fun W => Tryz.stringslite_Index_one (str s) 46 W
theorem cut0_told (s : List UInt8) (hs : s.length ≤ 1000000000) : Told Tryz.prog 88 [.c (.v (.string (str s))), .c (.v (.string ⟨#[46]⟩))] (.tup [.c (.v (.string (str (s.takeWhile (· != 46))))), .c (.v (.string (str (s.dropWhile (· != 46)).tail))), .c (.v (.bool (!(s.dropWhile (· != 46)).isEmpty)))]) := by
 have hI := z0n s
 rcases j6u 46 s with ⟨h1, h2, h3⟩ | ⟨i, h0, h1, h2, h3⟩
 · rw [h2, h3]
   rw [h1] at hI
   refine VC.toldP ent_88 Tryz.func88 rfl Tryz.ntmps88 fun hb => ?_
   clear hb
   refine q0c ?_
   refine q0e (hI) ?_
   refine q0u ?_
   refine retX Tryz.results88 ?_
   exact ⟨.c _, .c _, .c _⟩
 · rw [h2, h3]
   rw [h1] at hI
   have hd : decide ((i : Int) ≥ 0) = true := by simp
   have hz : (⟨#[46]⟩ : ByteArray).size = 1 := rfl
   have hw : IntKind.i64.wrap ((i : Int) + 1) = (i : Int) + 1 := q0w (by omega) (by omega)
   have hx1 : (str s).extract 0 i = str (s.take i) := by
    rw [q88, List.drop_zero]
   have hx2 : (str s).extract (i + 1) s.length = str (s.drop (i + 1)) := by
    rw [q88, List.take_length]
   have ht : ((i : Int) + 1).toNat = i + 1 := by omega
   refine VC.toldP ent_88 Tryz.func88 rfl Tryz.ntmps88 fun hb => ?_
   clear hb
   refine q0c ?_
   refine q0e (hI) ?_
   refine q0f (And.intro hd (And.intro hz (And.intro hw @q2l))) ?_
   refine retX Tryz.results88 ?_
   rw [ht, hx1, hx2]
   exact ⟨.c _, .c _, .c _⟩
theorem cut_told (s : List UInt8) (hs : s.length ≤ 1000000000) : Told Tryz.prog 49 [.c (.v (.string (str s))), .c (.v (.string ⟨#[46]⟩))] (.tup [.c (.v (.string (str (s.takeWhile (· != 46))))), .c (.v (.string (str (s.dropWhile (· != 46)).tail))), .c (.v (.bool (!(s.dropWhile (· != 46)).isEmpty)))]) := by
 have hI := cut0_told s hs
 refine VC.toldP ent_49 Tryz.func49 rfl Tryz.ntmps49 fun hb => ?_
 clear hb
 refine q0c ?_
 refine q0e (hI) ?_
 refine q0c ?_
 refine retX Tryz.results49 ?_
 exact ⟨.c _, .c _, .c _⟩
theorem z0i (s : List UInt8) (hs : s.length ≤ 1000000000) : Told Tryz.prog 17 [.c (.v (.string (str s)))] (.c (.v (.bool (q4u s)))) := by
 obtain ⟨V, hV⟩ : ∃ V, V = q4u s := ⟨_, rfl⟩
 rw [← hV]
 unfold q4u at hV
 refine VC.toldP ent_17 Tryz.func17 rfl Tryz.ntmps17 fun hb => ?_
 clear hb
 refine q0d (@q2l) ?_
 refine VC.cond (by rfl) (by trivial) (fun hc => ?_) (fun hc => ?_)
 · have hf : V = false := by
    have : ¬ (s.length ≤ 100) := by simp at hc; omega
    rw [hV]
    simp [this]
   subst hf
   refine q0c ?_
   refine retX Tryz.results17 ?_
   exact .c _
 have hl : s.length ≤ 100 := by simp at hc; omega
 have hv : q54 (s.length + 1) s = V := by rw [hV]; simp [hl]
 clear hV hc
 refine q0c ?_
 refine VC.loop (ι := {l : List UInt8 // l.length ≤ 100 ∧ q54 (l.length + 1) l = V}) (fun q => [(0, .c (.v (.string (str q.1))))]) (fun _ => []) 800 (fun q => q.1.length) ⟨s, hl, hv⟩ ?_ ?_
 · exact q4r
 rintro ⟨l, hl, hv⟩
 simp only []
 rw [q54] at hv
 have hC := cut_told l (by omega)
 obtain ⟨p, hp⟩ : ∃ p, p = l.takeWhile (· != 46) := ⟨_, rfl⟩
 obtain ⟨D, hD⟩ : ∃ D, D = l.dropWhile (· != 46) := ⟨_, rfl⟩
 have hpl : p.length ≤ l.length := by rw [hp]; exact (List.takeWhile_sublist _).length_le
 have hDl : D.length ≤ l.length := by rw [hD]; exact (List.dropWhile_sublist _).length_le
 rw [← hp, ← hD] at hC hv
 clear hp hD
 have hS := z2m p (by omega)
 refine q0c ?_
 refine q0e (hC) ?_
 refine q0c ?_
 refine q0e (hS) ?_
 refine q0c ?_
 refine VC.cond (by rfl) (by trivial) (fun hc => ?_) (fun hc => ?_)
 · have hf : V = false := by
    rw [← hv]
    have : q4e p = false := by simpa using hc
    simp [this]
   subst hf
   refine q0c ?_
   refine retX Tryz.results17 ?_
   exact .c _
 have hp1 : q4e p = true := by simpa using hc
 rw [hp1, Bool.true_and] at hv
 refine q0c ?_
 refine VC.cond (by rfl) (by trivial) (fun hc2 => ?_) (fun hc2 => ?_)
 · cases D with
   | cons x r => simp at hc2
   | nil =>
     have hf : V = true := hv.symm
     subst hf
     refine q0c ?_
     refine retX Tryz.results17 ?_
     exact .c _
 · cases D with
   | nil => simp at hc2
   | cons x r =>
     simp only [] at hv
     simp only [List.length_cons] at hDl
     refine q0d (@lTail) ?_
     refine .next ⟨r, by omega, by rw [← hv]; exact z0f _ _ _ (by omega) (by omega)⟩ ?_ (by simp only []; omega)
     exact q4r
theorem j63 (s : List UInt8) : Told Tryz.prog 93 [.c (.v (.string (str s)))] (.c (.v (.int .i64 (q0h s : Int)))) := by
 obtain ⟨V, hV⟩ : ∃ V, V = q0h s := ⟨_, rfl⟩
 rw [← hV]
 obtain ⟨L, hL⟩ : ∃ L, L = q3v.map fun l => PV.v (.string (str l)) := ⟨_, rfl⟩
 have hg : glob Tryz.prog 1 = some L := by rw [hL]; kernel_rfl
 have hLl : L.length = 15 := by rw [hL]; rfl
 have hLt : L.take 15 = L := by rw [← hLl, List.take_length]
 refine VC.toldP ent_93 Tryz.func93 rfl Tryz.ntmps93 fun hb => ?_
 clear hb
 refine q0d (And.intro hg (And.intro hLl hLt)) ?_
 have hE : (⟨#[]⟩ : ByteArray).toList = [] := q2i []
 have hkl : q3v.length = 15 := rfl
 refine VC.loop (ι := {i : Nat // i ≤ 15 ∧ ∀ (j : Nat) (w : List UInt8), j < i → q3v[j]? = some w → s ≠ [] → w ≠ s}) (fun q => [(0, .c (.v (.string (str s)))), (5, .agg (L.map .c)), (6, .c (.v (.int .i64 (q.1 : Int))))]) (fun _ => []) 800 (fun q => 15 - q.1) ⟨0, by omega, fun j w h => by omega⟩ ?_ ?_
 · exact q4r
 rintro ⟨i, hi, ht⟩
 simp only []
 refine q0c ?_
 refine VC.cond (by rfl) (by trivial) (fun hc => ?_) (fun hc => ?_)
 · have hlt : i < 15 := by simp at hc; omega
   obtain ⟨w, hx⟩ : ∃ w, q3v[i]? = some w := ⟨q3v[i]'(by omega), List.getElem?_eq_getElem (by omega)⟩
   have hLx : (L.map AV.c)[i]? = some (.c (.v (.string (str w)))) := by rw [hL, List.getElem?_map, List.getElem?_map, hx]; rfl
   have hw : IntKind.i64.wrap ((i : Int) + 1) = (i : Int) + 1 := q0w (by omega) (by omega)
   refine q0d (And.intro hLx (And.intro @q2i hE)) ?_
   refine VC.cond (by rfl) (by trivial) (fun hc2 => ?_) (fun hc2 => ?_)
   · have hh : w = s ∧ s ≠ [] := by simpa using hc2
     have hf : V = i := by
      rw [hV, q0h, if_neg hh.2]
      have : q3v.findIdx? (· == s) = some i := by
       rw [List.findIdx?_eq_some_iff_getElem]
       refine ⟨by omega, ?_, fun j hj => ?_⟩
       · have := (List.getElem?_eq_some_iff.1 hx).2
         simp [this, hh.1]
       · have := ht j _ hj (List.getElem?_eq_getElem (by omega)) hh.2
         simpa using this
      rw [this]
     subst hf
     refine q0c ?_
     refine retX Tryz.results93 ?_
     exact .c _
   · have hh : ¬ (w = s ∧ s ≠ []) := by simpa using hc2
     refine q0d (hw) ?_
     refine .next ⟨i + 1, by omega, ?_⟩ ?_ (by simp only []; omega)
     · intro j u hj hu hs
       by_cases hji : j < i
       · exact ht j u hji hu hs
       · obtain rfl : j = i := by omega
         rw [hx] at hu
         obtain rfl := Option.some.inj hu
         exact fun e => hh ⟨e, hs⟩
     refine q4q ?_
     exact cI (by omega)
 · have hie : i = 15 := by simp at hc; omega
   have hf : V = 0 := by
    rw [hV, q0h]
    split
    · rfl
    · rename_i hs
      have : q3v.findIdx? (· == s) = none := by
       rw [List.findIdx?_eq_none_iff]
       intro w hw
       obtain ⟨j, hj⟩ := List.getElem?_of_mem hw
       have := ht j w (by have := (List.getElem?_eq_some_iff.1 hj).1; omega) hj hs
       simpa using this
      rw [this]
   subst hf
   refine q0c ?_
   refine retX Tryz.results93 ?_
   exact .c _

theorem z2n (ks : List (List UInt8)) (key : List UInt8) : Told Tryz.prog 59 [.c (.sl 1 (ks.map sPV)), .c (.v (.string (str key)))] (.c (.v (.int .i64 (idxS key ks)))) := by
 refine VC.told ent_59 Tryz.func59 rfl Tryz.ntmps59 (by simp) rfl rfl fun hb => ?_
 simp only [q47, q5d, q81, List.mem_cons, List.not_mem_nil, or_false, forall_eq_or_imp, forall_eq, List.length_map, and_true] at hb
 have h1 := hb.1
 clear hb
 refine q0c ?_
 refine VC.loop (ι := {i : Nat // i ≤ ks.length ∧ ∀ j, j < i → ks[j]? ≠ some key}) (fun i => [(0, .c (.sl 1 (ks.map sPV))), (1, .c (.v (.string (str key)))), (7, .c (.v (.int .i64 ks.length))), (8, .c (.v (.int .i64 i.1)))]) (fun _ => []) 0 (fun i => ks.length - i.1) ⟨0, Nat.zero_le _, by intro j hj; omega⟩ ?_ ?_
 · simp only [Weak, eq_self, q09, q03, sc_c, q05, q06, q07, q02, q04, ScL, q08, List.forall_mem_map, go_sem, Int.reduceBEq, Int.reduceLE, Int.reduceLT, Int.reduceNeg, Nat.reduceAdd, Nat.reduceEqDiff, Nat.reduceLT, Nat.reduceLeDiff, Nat.reduceMul, Nat.reduceSub, reduceCtorEq, ↓reduceIte]
   all_goals rfl
 rintro ⟨i, hi, ht⟩
 refine q0c ?_
 refine VC.cond (by rfl) (by trivial) (fun hc => ?_) (fun hc => ?_)
 · simp only [decide_eq_true_eq] at hc
   obtain ⟨x, hx⟩ : ∃ x, ks[i]? = some x := ⟨ks[i], List.getElem?_eq_getElem (by omega)⟩
   have hw : IntKind.i64.wrap ((i : Int) + 1) = (i : Int) + 1 := q0w (by omega) (by omega)
   refine q0d (And.intro @q4w (And.intro hx (And.intro @q6a @q2i))) ?_
   refine VC.cond (by rfl) (by trivial) (fun hc2 => ?_) (fun hc2 => ?_)
   · have hxy : key = x := by simpa using hc2
     subst hxy
     have hr := idxS_at hx ht
     refine q0c ?_
     refine ⟨.inr rfl, ?_⟩
     rw [Tryz.results59, hr]
     simp only [q1x, resV, go_sem, simprocAttr]
     exact .c _
   · have hxy : key ≠ x := by simpa using hc2
     refine q0d (hw) ?_
     refine .next ⟨i + 1, by omega, fun j hj => ?_⟩ ?_ (by simp only []; omega)
     · rcases Nat.lt_or_ge j i with h | h
       · exact ht j h
       · obtain rfl : j = i := by omega
         rw [hx]
         intro e
         exact hxy (Option.some.inj e).symm
     refine q4q ?_
     exact cI (by omega)
 · simp only [decide_eq_false_iff_not] at hc
   obtain rfl : i = ks.length := by omega
   have hr := idxS_none ht
   refine q0c ?_
   refine ⟨.inr rfl, ?_⟩
   rw [Tryz.results59, hr]
   simp only [q1x, resV, go_sem, simprocAttr]
   exact .c _

theorem j7b (k : Int) : Told Tryz.prog 55 [.c (.v (.int .i64 k))] (.c (.v (.bool (q1w k)))) := by
 obtain ⟨V, hV⟩ : ∃ V, V = q1w k := ⟨_, rfl⟩
 rw [← hV]
 unfold q1w at hV
 replace hV := Lib.hid hV
 refine VC.toldP ent_55 Tryz.func55 rfl Tryz.ntmps55 fun hb => ?_
 clear hb
 refine q0c ?_
 refine retX Tryz.results55 ?_
 rw [hV.out]
 exact .c _
theorem idxS_ge (key : List UInt8) (ks : List (List UInt8)) : decide (idxS key ks ≥ 0) = ks.contains key := by
 unfold idxS
 cases h : ks.findIdx? (fun k => decide (key = k)) with
 | none =>
   rw [List.findIdx?_eq_none_iff] at h
   have : key ∉ ks := fun hm => by simpa using h key hm
   simp [this]
 | some i =>
   rw [List.findIdx?_eq_some_iff_getElem] at h
   obtain ⟨hi, h1, _⟩ := h
   have : key ∈ ks := by
    have := List.getElem_mem hi
    simp at h1
    rwa [← h1] at this
   simp [this]
theorem j9o (ks : List (List UInt8)) (key : List UInt8) : Told Tryz.prog 96 [.c (.sl 1 (ks.map sPV)), .c (.v (.string (str key)))] (.c (.v (.bool (ks.contains key)))) := by
 have hI := z2n ks key
 have hG := idxS_ge key ks
 generalize idxS key ks = z at hI hG
 rw [← hG]
 clear hG
 refine VC.toldP ent_96 Tryz.func96 rfl Tryz.ntmps96 fun hb => ?_
 clear hb
 refine q0c ?_
 refine q0e (hI) ?_
 refine q0c ?_
 refine retX Tryz.results96 ?_
 exact .c _

def rA {α : Type} (f : α → List PV) (l : List α) : List (List AV) := l.map fun x => (f x).map .c
theorem q0a {α : Type} (f : α → List PV) (l : List α) : (rA f l).length = l.length := by simp [rA]
theorem q32 {α : Type} (f : α → List PV) : rA f [] = [] := rfl
theorem q4j {α : Type} {f : α → List PV} {l : List α} {i : Nat} {x : α} (h : l[i]? = some x) : (rA f l)[i]? = some ((f x).map .c) := by simp [rA, h]
theorem q69 {α : Type} {f : α → List PV} (l : List α) (i : Nat) (x : α) : (rA f l).set i ((f x).map .c) = rA f (l.set i x) := by simp [rA, List.map_set]
theorem q58 {α : Type} (f : α → List PV) (l : List α) (x : α) : rA f l ++ [(f x).map .c] = rA f (l ++ [x]) := by simp [rA]
theorem q4p {α : Type} (f : α → List PV) (l : List α) : rA f l = (l.map f).map fun e => e.map AV.c := by simp [rA]
theorem renL_pv (ρ : Nat → Nat) : ∀ l : List PV, AV.renL ρ (l.map .c) = l.map .c
 | [] => rfl
 | x :: l => by rw [List.map_cons, AV.renL, renL_pv ρ l]; rfl
theorem q0b {α : Type} (ρ : Nat → Nat) (f : α → List PV) (l : List α) : (rA f l).map (AV.renL ρ) = rA f l := by
 unfold rA
 rw [List.map_map]
 apply List.map_congr_left
 intro x _
 exact renL_pv ρ _
theorem q0g {α : Type} {used : Nat → Prop} {h : Nat → Option Blkd} (f : α → List PV) (l : List α) : (∀ e ∈ rA f l, ∀ x ∈ e, Sc used h x) = True := eq_true fun e he x hx => by
 obtain ⟨b, _, rfl⟩ := List.mem_map.1 he
 obtain ⟨p, _, rfl⟩ := List.mem_map.1 hx
 exact .c
theorem q43 {α : Type} {K : Nat → Bool} {h : Nat → Option Blkd} {j n : Nat} {T : TypeId} {z : Nat} {f : α → List PV} {l : List α} (hB : h j = some ⟨true, T, z, rA f l⟩) (hn : l.length = n) (hk : K j = false) (hz : ∀ x ∈ l, (f x).length = z) :
  Frz K h (.row j n) (.c (.sl z (l.map f))) := by
 refine Frz.row (B := ⟨true, T, z, rA f l⟩) hB rfl ?_ hk ?_ ?_ ?_
 · show (rA f l).length = n
   rw [q0a, hn]
 · simp [q0a]
 · intro i e e' h1 h2
   rw [q4p, List.getElem?_map, h2] at h1
   obtain rfl := Option.some.inj h1
   simp
 · intro i k e e' x p h1 h2 h3 h4
   rw [q4p, List.getElem?_map, h2] at h1
   obtain rfl := Option.some.inj h1
   rw [List.getElem?_map, h4] at h3
   obtain rfl := Option.some.inj h3
   exact .c p

def q7l : Nat → List (List UInt8) → Option Nat
 | n, [] => some n
 | n, y :: ys => if n ≤ 2500 then (if 2500 < y.length then none else q7l (n + 1 + y.length) ys) else some n
mutual
def q6c (d : Nat) : JT → Nat
 | .mk k n s ks xs => if 60 < d ∨ 2500 < s.length ∨ 2500 < ks.length ∨ 2500 < xs.length then 2501 else match q7l (1 + s.length) ks with | none => 2501 | some n => q5l d n xs
def q5l (d : Nat) : Nat → List JT → Nat
 | n, [] => n
 | n, x :: xs => if n ≤ 2500 then q5l d (n + q6c (d + 1) x) xs else n
end
theorem j89 : ∀ (ys : List (List UInt8)) (n m : Nat), n ≤ 5001 → q7l n ys = some m → m ≤ 5001
 | [], n, m, h, e => by simp [q7l] at e; omega
 | y :: ys, n, m, h, e => by
   rw [q7l] at e
   split at e
   · split at e
     · simp at e
     · exact j89 ys _ m (by omega) e
   · simp at e; omega
mutual
theorem tbulk5_le (d : Nat) : ∀ (t : JT), q6c d t ≤ 5001 + 2501 * (61 - d)
 | .mk k n s ks xs => by
   rw [q6c]
   split
   · omega
   · rename_i h
     split
     · omega
     · rename_i m hm
       exact j5z d xs m (by have := j89 ks _ _ (by omega) hm; omega)
theorem j5z (d : Nat) : ∀ (xs : List JT) (n : Nat), n ≤ 5001 + 2501 * (61 - d) → q5l d n xs ≤ 5001 + 2501 * (61 - d)
 | [], n, h => by rw [q5l]; exact h
 | x :: xs, n, h => by
   rw [q5l]
   split
   · have := tbulk5_le (d + 1) x
     by_cases hd : 60 < d
     · have h2 : q6c (d + 1) x = 2501 := by
        cases x
        rw [q6c, if_pos (by omega)]
       exact j5z d xs _ (by omega)
     · exact j5z d xs _ (by omega)
   · exact h
end
theorem j33 (d : Nat) : ∀ (xs : List JT) (n : Nat), n ≤ q5l d n xs
 | [], n => by rw [q5l]; exact Nat.le_refl _
 | x :: xs, n => by
   rw [q5l]
   split
   · exact Nat.le_trans (Nat.le_add_right _ _) (j33 d xs _)
   · exact Nat.le_refl _
mutual
theorem z64 (d : Nat) : ∀ (t : JT), q6c d t ≤ 2500 → q1y t + d ≤ 61
 | .mk k n s ks xs => fun h => by
   rw [q6c] at h
   split at h
   · omega
   · rename_i hd
     split at h
     · omega
     · rw [q1y]
       split
       · exact j85 d xs _ 1 (by omega) h
       · omega
theorem j85 (d : Nat) : ∀ (xs : List JT) (n m : Nat), m + d ≤ 61 → q5l d n xs ≤ 2500 → q23 m xs + d ≤ 61
 | [], n, m, hm, h => by rw [q23]; exact hm
 | x :: xs, n, m, hm, h => by
   rw [q5l] at h
   split at h
   · have h1 := j33 d xs (n + q6c (d + 1) x)
     have h2 := z64 (d + 1) x (by omega)
     rw [q23]
     exact j85 d xs _ _ (by omega) h
   · omega
end
/-! A tree that is not great is small. -/
theorem j9a : ∀ (ys : List (List UInt8)) (n m : Nat), q7l n ys = some m → m ≤ 2500 → n + ys.length ≤ m ∧ ∀ y ∈ ys, y.length ≤ 2500
 | [], n, m, h, hm => by rw [q7l] at h; obtain rfl := Option.some.inj h; exact ⟨by simp, by simp⟩
 | y :: ys, n, m, h, hm => by
   rw [q7l] at h
   split at h
   · split at h
     · simp at h
     · obtain ⟨h1, h2⟩ := j9a ys _ m h hm
       refine ⟨by simp; omega, fun z hz => ?_⟩
       rcases List.mem_cons.1 hz with rfl | hz
       · omega
       · exact h2 z hz
   · obtain rfl := Option.some.inj h
     omega
mutual
theorem bulk_sm5 (d : Nat) : ∀ t : JT, q6c d t ≤ 2500 → t.sm 2500
 | .mk k n s ks xs => fun h => by
   rw [q6c] at h
   split at h
   · omega
   · rename_i h1
     split at h
     · omega
     · rename_i m hm
       have h2 := j33 d xs m
       obtain ⟨_, h3⟩ := j9a ks _ m hm (by omega)
       exact ⟨by omega, by omega, h3, by omega, j86 d m xs h⟩
theorem j86 (d n : Nat) : ∀ xs : List JT, q5l d n xs ≤ 2500 → JT.smL 2500 xs
 | [] => fun _ => trivial
 | x :: xs => fun h => by
   rw [q5l] at h
   split at h
   · have := j33 d xs (n + q6c (d + 1) x)
     exact ⟨bulk_sm5 (d + 1) x (by omega), j86 d _ xs h⟩
   · omega
end

def FT.sm (N : Nat) (f : FT) : Prop := f.name.length ≤ N ∧ f.aliases.length ≤ N ∧ (∀ y ∈ f.aliases, y.length ≤ N) ∧ f.dflt.sm N
def NT.sm (N : Nat) (n : NT) : Prop := n.name.length ≤ N ∧ n.dflt.length ≤ N ∧ (n.aliases.length ≤ N ∧ ∀ y ∈ n.aliases, y.length ≤ N) ∧ (n.symbols.length ≤ N ∧ ∀ y ∈ n.symbols, y.length ≤ N) ∧ n.branches.length ≤ N ∧ (n.fields.length ≤ N ∧ ∀ f ∈ n.fields, f.sm N)
def ST.sm (N : Nat) (s : ST) : Prop := s.nodes.length ≤ N ∧ ∀ n ∈ s.nodes, n.sm N

theorem kids_told (n : NT) (hn : n.sm 1000000) : Told Tryz.prog 140 [n.av] (.c (.sl 1 ((q28 n).map iPV))) := by
 obtain ⟨L, hL⟩ : ∃ L, L = q28 n := ⟨_, rfl⟩
 rw [← hL]
 unfold q28 at hL
 have hfl := hn.2.2.2.2.2.1
 have hbl := hn.2.2.2.2.1
 rw [NT.av_eq, q3w]
 refine VC.toldP ent_140 Tryz.func140 rfl Tryz.ntmps140 fun hb => ?_
 clear hb
 by_cases h9 : n.kind = 9
 · rw [if_pos h9] at hL
   subst hL
   rw [h9]
   refine q0u ?_
   refine VC.nil 3 3 1 (by rfl) (by trivial) (by rfl) ?_
   refine VC.loop (ι := {i : Nat // i ≤ n.fields.length}) (fun q => [(3, .row 88 q.1), (11, .c (.sl 9 (n.fields.map FT.cells))), (12, .c (.v (.int .i64 (n.fields.length : Int)))), (13, .c (.v (.int .i64 (q.1 : Int))))])
    (fun q => [(88, ⟨true, 3, 1, rA iPV ((n.fields.map (·.type)).take q.1)⟩)]) 800 (fun q => n.fields.length - q.1) ⟨0, Nat.zero_le _⟩ ?_ ?_
   · simp only [q0a, q0g, q32, Weak, eq_self, q09, q03, sc_c, q05, q06, q07, q02, q04, ScL, q08, List.forall_mem_map, go_sem, Int.reduceBEq, Int.reduceLE, Int.reduceLT, Int.reduceNeg, Nat.reduceAdd, Nat.reduceEqDiff, Nat.reduceLT, Nat.reduceLeDiff, Nat.reduceMul, Nat.reduceSub, reduceCtorEq, ↓reduceIte]
     try simp
   rintro ⟨i, hi⟩
   simp only []
   refine q0c ?_
   refine VC.cond (by rfl) (by trivial) (fun hc => ?_) (fun hc => ?_)
   · have hlt : i < n.fields.length := by simp at hc; omega
     obtain ⟨f, hx⟩ : ∃ f, n.fields[i]? = some f := ⟨n.fields[i], List.getElem?_eq_getElem hlt⟩
     have hw : IntKind.i64.wrap ((i : Int) + 1) = (i : Int) + 1 := q0w (by omega) (by omega)
     have hxp : (n.fields.map FT.cells)[i]? = some f.cells := by rw [List.getElem?_map, hx]; rfl
     have hl : (rA iPV ((n.fields.map (·.type)).take i)).length = i := by rw [q0a]; simp; omega
     have hr : rA iPV ((n.fields.map (·.type)).take i) ++ [[.c (.v (.int .i64 f.type))]] = rA iPV ((n.fields.map (·.type)).take (i + 1)) := by
      rw [List.take_add_one, List.getElem?_map, hx]
      exact q58 iPV _ f.type
     have hl2 : (rA iPV ((n.fields.map (·.type)).take (i + 1))).length = i + 1 := by rw [q0a]; simp; omega
     refine q0d (And.intro hxp (And.intro @j2d (And.intro @q2n (And.intro @q3a (And.intro @q2t (And.intro hl (And.intro hr hw))))))) ?_
     refine .next ⟨i + 1, by omega⟩ ?_ (by simp only []; omega)
     refine q1l (And.intro hl2 @q0g) ?_
     exact ⟨cI (by omega), Nat.le_refl _⟩
   · have hie : i = n.fields.length := by simp at hc; omega
     have htk : (n.fields.map (·.type)).take i = n.fields.map (·.type) := List.take_of_length_le (by simp; omega)
     rw [htk]
     refine q0d (hie) ?_
     refine retX Tryz.results140 ?_
     apply q43 (f := iPV) (l := n.fields.map (·.type)) (T := 3)
     · rfl
     · simp [hie]
     · rfl
     · simp [iPV]
 by_cases h11 : n.kind = 11
 · rw [if_neg h9, if_pos (.inl h11)] at hL
   subst hL
   rw [h11]
   refine q0u ?_
   refine retX Tryz.results140 ?_
   exact q43 (f := iPV) (l := [n.items]) rfl rfl rfl (by simp [iPV])
 by_cases h12 : n.kind = 12
 · rw [if_neg h9, if_pos (.inr h12)] at hL
   subst hL
   rw [h12]
   refine q0u ?_
   refine retX Tryz.results140 ?_
   exact q43 (f := iPV) (l := [n.items]) rfl rfl rfl (by simp [iPV])
 by_cases h13 : n.kind = 13
 · rw [if_neg h9, if_neg (by simp [h11, h12]), if_pos h13] at hL
   subst hL
   rw [h13]
   refine q0u ?_
   refine retX Tryz.results140 ?_
   refine q43 (f := iPV) (l := n.branches) (T := 3) ?_ ?_ rfl (by simp [iPV])
   · simp [q8a, q4p]
   · simp
 · rw [if_neg h9, if_neg (by simp [h11, h12]), if_neg h13] at hL
   subst hL
   have e9 : (n.kind == 9) = false := by simpa using h9
   have e11 : (n.kind == 11) = false := by simpa using h11
   have e12 : (n.kind == 12) = false := by simpa using h12
   have e13 : (n.kind == 13) = false := by simpa using h13
   refine q0f (And.intro e9 (And.intro e11 (And.intro e12 e13))) ?_
   refine retX Tryz.results140 ?_
   exact .nil _

def KnOk (kn : List Int) : Prop := ∀ x ∈ kn, -1 ≤ x ∧ x ≤ 1001
theorem KnOk.set {kn : List Int} (h : KnOk kn) (p : Nat) {v : Int} (hv : -1 ≤ v ∧ v ≤ 1001) : KnOk (kn.set p v) := fun x hx => by
 rcases List.mem_or_eq_of_mem_set hx with h1 | rfl
 · exact h x h1
 · exact hv
theorem j56 {kn : List Int} (p : Nat) {v : Int} (hv : v ≠ 0) : (kn.set p v).count 0 ≤ kn.count 0 := by
 by_cases hp : p < kn.length
 · rw [List.count_set hp]
   have : (v == 0) = false := by simpa using hv
   simp [this]
 · rw [List.set_eq_of_length_le (by omega)]
   exact Nat.le_refl _
theorem j9p {kn : List Int} {p : Nat} {v : Int} (hp : kn[p]? = some 0) (hv : v ≠ 0) : (kn.set p v).count 0 < kn.count 0 := by
 obtain ⟨hlt, h0⟩ := List.getElem?_eq_some_iff.1 hp
 rw [List.count_set hlt]
 have : (v == 0) = false := by simpa using hv
 have hpos : 0 < kn.count 0 := List.count_pos_iff.2 (h0 ▸ List.getElem_mem hlt)
 simp [this, h0]
 omega
theorem z3l (f : Nat → List Int → Int × List Int) (N : Nat) (hf : ∀ q kn, kn.length = N → KnOk kn → (f q kn).2.length = N ∧ KnOk (f q kn).2 ∧ (f q kn).2.count 0 ≤ kn.count 0 ∧ 1 ≤ (f q kn).1 ∧ (f q kn).1 ≤ 1001) :
  ∀ (xs : List FT) (n : Int) (kn : List Int), kn.length = N → KnOk kn → 1 ≤ n → n ≤ 1001 → (q3y f xs n kn).2.length = N ∧ KnOk (q3y f xs n kn).2 ∧ (q3y f xs n kn).2.count 0 ≤ kn.count 0 ∧ 1 ≤ (q3y f xs n kn).1 ∧ (q3y f xs n kn).1 ≤ 1001
 | [], n, kn, h1, h2, h3, h4 => ⟨h1, h2, Nat.le_refl _, h3, h4⟩
 | x :: xs, n, kn, h1, h2, h3, h4 => by
   rw [q3y]
   obtain ⟨a1, a2, a3, a4, a5⟩ := hf x.type.toNat kn h1 h2
   obtain ⟨b1, b2, b3, b4, b5⟩ := z3l f N hf xs (min (n + (f x.type.toNat kn).1) 1001) (f x.type.toNat kn).2 a1 a2 (by omega) (by omega)
   exact ⟨b1, b2, by omega, b4, b5⟩
theorem knAt_of {kn : List Int} {p : Nat} {v : Int} (h : kn[p]? = some v) : knAt kn p = v := by rw [knAt, h]
theorem j8f (ns : List NT) : ∀ (d q : Nat) (kn : List Int), kn.length = ns.length → KnOk kn → (q2y ns d q kn).2.length = ns.length ∧ KnOk (q2y ns d q kn).2 ∧ (q2y ns d q kn).2.count 0 ≤ kn.count 0 ∧ 1 ≤ (q2y ns d q kn).1 ∧ (q2y ns d q kn).1 ≤ 1001
 | 0, q, kn, h1, h2 => ⟨h1, h2, Nat.le_refl _, (by decide : (1 : Int) ≤ 1001), (by decide : (1001 : Int) ≤ 1001)⟩
 | d + 1, q, kn, h1, h2 => by
   rw [q2y]
   split
   · exact ⟨h1, h2, Nat.le_refl _, (by decide : (1 : Int) ≤ 1001), (by decide : (1001 : Int) ≤ 1001)⟩
   · split
     · rename_i h3 h4
       refine ⟨h1, h2, Nat.le_refl _, by omega, ?_⟩
       unfold knAt
       split
       · rename_i v hv
         exact (h2 v (List.mem_of_getElem? hv)).2
       · exact (by decide : (0 : Int) ≤ 1001)
     · obtain ⟨b1, b2, b3, b4, b5⟩ := z3l (q2y ns d) ns.length (j8f ns d) (q15 ns q) 1 (kn.set q (-1)) (by rw [List.length_set]; exact h1) (h2.set q (by decide)) (by decide) (by decide)
       have c1 := j56 (kn := kn) q (v := -1) (by decide)
       have c2 := j56 (kn := (q3y (q2y ns d) (q15 ns q) 1 (kn.set q (-1))).2) q (v := (q3y (q2y ns d) (q15 ns q) 1 (kn.set q (-1))).1) (by omega)
       exact ⟨by rw [List.length_set]; exact b1, b2.set q (by omega), by simp only []; omega, b4, b5⟩
theorem z7t (s : ST) (hl : s.nodes.length ≤ 1000000) (hs : ∀ n ∈ s.nodes, n.sm 1000000) (hr : ∀ n ∈ s.nodes, n.kind = 9 → ∀ f ∈ n.fields, 0 ≤ f.type ∧ f.type < (s.nodes.length : Int)) : ∀ (d p : Nat) (kn : List Int), p < s.nodes.length → kn.length = s.nodes.length → KnOk kn → kn.count 0 < d →
  ToldM Tryz.prog 54 [s.av, .c (.v (.int .i64 (p : Int))), .row 1000000 s.nodes.length] [⟨true, 3, 1, rA iPV kn⟩] [some ⟨true, 3, 1, rA iPV (q2y s.nodes d p kn).2⟩] (.c (.v (.int .i64 (q2y s.nodes d p kn).1))) := by
 intro d
 induction d with
 | zero => intro p kn _ _ _ h; omega
 | succ d ih =>
 intro p kn hp hk hko hc
 obtain ⟨R, hR⟩ : ∃ R, R = q2y s.nodes (d + 1) p kn := ⟨_, rfl⟩
 rw [← hR]
 rw [q2y] at hR
 obtain ⟨v, hv⟩ : ∃ v, kn[p]? = some v := ⟨kn[p]'(by omega), List.getElem?_eq_getElem (by omega)⟩
 rw [knAt_of hv] at hR
 have hvp : (rA iPV kn)[p]? = some [.c (.v (.int .i64 v))] := q4j hv
 have hkl : (rA iPV kn).length = s.nodes.length := by rw [q0a, hk]
 obtain ⟨N, hN⟩ : ∃ N, N = s.nodes.length := ⟨_, rfl⟩
 rw [ST.av_eq, q2q]
 by_cases hv0 : v < 0
 · rw [if_pos hv0] at hR
   subst hR
   have e0 : decide (v < 0) = true := by simpa using hv0
   refine VC.toldXF (And.intro @q0a (And.intro @q0g hk)) ent_54 [] Tryz.func54 rfl Tryz.ntmps54 fun hb hbL => ?_
   clear hb hbL
   refine q0f (And.intro hvp (And.intro hkl e0)) ?_
   refine q0j (@q0b) Tryz.results54 ?_
   exact .c _
 have e0 : decide (v < 0) = false := by simpa using hv0
 rw [if_neg hv0] at hR
 by_cases hv1 : 0 < v
 · rw [if_pos hv1] at hR
   subst hR
   have e1 : decide (v > 0) = true := by simpa using hv1
   refine VC.toldXF (And.intro @q0a (And.intro @q0g hk)) ent_54 [] Tryz.func54 rfl Tryz.ntmps54 fun hb hbL => ?_
   clear hb hbL
   refine q0f (And.intro hvp (And.intro hkl (And.intro e0 e1))) ?_
   refine q0j (@q0b) Tryz.results54 ?_
   exact .c _
 have e1 : decide (v > 0) = false := by simpa using hv1
 rw [if_neg hv1] at hR
 obtain rfl : v = 0 := by omega
 obtain ⟨n, hn⟩ : ∃ n, s.nodes[p]? = some n := ⟨s.nodes[p], List.getElem?_eq_getElem hp⟩
 have hnp : (s.nodes.map NT.cells)[p]? = some n.cells := by rw [List.getElem?_map, hn]; rfl
 have hns := hs n (List.mem_of_getElem? hn)
 have hfl := hns.2.2.2.2.2.1
 have hset : (rA iPV kn).set p [.c (.v (.int .i64 (-1)))] = rA iPV (kn.set p (-1)) := q69 kn p (-1)
 have hfa : q15 s.nodes p = if n.kind = 9 then n.fields else [] := by rw [q15, hn]
 obtain ⟨K0, hK0⟩ : ∃ K, K = q3y (q2y s.nodes d) (q15 s.nodes p) 1 (kn.set p (-1)) := ⟨_, rfl⟩
 rw [← hK0] at hR
 subst hR
 have hct := j9p (v := -1) hv (by decide)
 refine VC.toldXF (And.intro @q0a (And.intro @q0g hk)) ent_54 [] Tryz.func54 rfl Tryz.ntmps54 fun hb hbL => ?_
 clear hb hbL
 refine q0f (And.intro hvp (And.intro hkl (And.intro e0 (And.intro e1 (And.intro hset (And.intro hnp @q3w)))))) ?_
 refine VC.loop (ι := {x : Nat × (Int × List Int) // x.1 ≤ n.fields.length ∧ x.2.2.length = s.nodes.length ∧ KnOk x.2.2 ∧ x.2.2.count 0 < kn.count 0 ∧ 1 ≤ x.2.1 ∧ x.2.1 ≤ 1001 ∧ (if n.kind = 9 then q3y (q2y s.nodes d) (n.fields.drop x.1) x.2.1 x.2.2 else (x.2.1, x.2.2)) = K0})
  (fun q => [(1, .c (.v (.int .i64 (p : Int)))), (2, .row 1000000 s.nodes.length), (3, .ref 0 1 0 0), (7, .c (.v (.int .i64 q.1.2.1))), (34, .c (.sl 9 (n.fields.map FT.cells))), (35, .c (.v (.int .i64 (n.fields.length : Int)))), (36, .c (.v (.int .i64 (q.1.1 : Int))))])
  (fun q => [(0, ⟨false, 30, 2, [[.c (.sl 10 (s.nodes.map NT.cells)), .c (.v (.int .i64 s.root))]]⟩), (1000000, ⟨true, 3, 1, rA iPV q.1.2.2⟩)]) 800 (fun q => n.fields.length - q.1.1)
  ⟨(0, (1, kn.set p (-1))), Nat.zero_le _, by simp only []; rw [List.length_set]; exact hk, hko.set p (by decide), hct, by simp only []; omega, by simp only []; omega, by
    rw [hK0, hfa]
    split
    · rw [List.drop_zero]
    · rfl⟩ ?_ ?_
 · simp only [q0a, q0g, hk, List.length_set, Weak, eq_self, q09, q03, sc_c, q05, q06, q07, q02, q04, ScL, q08, List.forall_mem_map, go_sem, Int.reduceBEq, Int.reduceLE, Int.reduceLT, Int.reduceNeg, Nat.reduceAdd, Nat.reduceEqDiff, Nat.reduceLT, Nat.reduceLeDiff, Nat.reduceMul, Nat.reduceSub, reduceCtorEq, ↓reduceIte]
   try simp
 clear hK0 hct hv hvp hset
 rintro ⟨⟨i, m, kn'⟩, hi, hk', hko', hc', hm1, hm2, hK⟩
 simp only [] at hi hk' hko' hc' hm1 hm2 hK ⊢
 have hkl' : (rA iPV kn').length = s.nodes.length := by rw [q0a, hk']
 refine q0c ?_
 refine VC.cond (by rfl) (by trivial) (fun hc2 => ?_) (fun hc2 => ?_)
 · have hil : i < n.fields.length := by simp at hc2; omega
   obtain ⟨f, hx⟩ : ∃ f, n.fields[i]? = some f := ⟨n.fields[i], List.getElem?_eq_getElem hil⟩
   have hxp : (n.fields.map FT.cells)[i]? = some f.cells := by rw [List.getElem?_map, hx]; rfl
   have hw : IntKind.i64.wrap ((i : Int) + 1) = (i : Int) + 1 := q0w (by omega) (by omega)
   by_cases h9 : n.kind = 9
   · have e9 : (n.kind == 9) = true := by simpa using h9
     obtain ⟨h0, h1⟩ := hr n (List.mem_of_getElem? hn) h9 f (List.mem_of_getElem? hx)
     obtain ⟨q, hq⟩ : ∃ q : Nat, f.type = (q : Int) := ⟨f.type.toNat, by omega⟩
     have hI := ih q kn' (by omega) hk' hko' (by omega)
     obtain ⟨w1, w2, w3, w4, w5⟩ := j8f s.nodes d q kn' hk' hko'
     rw [if_pos h9, (List.drop_eq_getElem_cons hil).trans (by rw [(List.getElem?_eq_some_iff.1 hx).2]), q3y, hq, Int.toNat_natCast] at hK
     obtain ⟨M, hM⟩ : ∃ M, M = q2y s.nodes d q kn' := ⟨_, rfl⟩
     rw [← hM] at hI hK w1 w2 w3 w4 w5
     clear ih hM
     have hww : IntKind.i64.wrap (m + M.1) = m + M.1 := q0w (by omega) (by omega)
     have hkl2 : (rA iPV M.2).length = s.nodes.length := by rw [q0a, w1]
     simp only [ST.av_eq, q2q, List.map_cons, List.map_nil] at hI
     refine q0f (And.intro hxp (And.intro @j2d (And.intro @q2n (And.intro @q3a (And.intro @q2t (And.intro hnp (And.intro @q3w (And.intro e9 (And.intro hkl' hq))))))))) ?_
     refine q0i (And.intro hkl' (And.intro hq @q0b)) [1000000] (hI) ?_
     refine q0d (And.intro hww (And.intro hw hkl2)) ?_
     refine .next ⟨(i + 1, (min (m + M.1) 1001, M.2)), by simp only []; omega, w1, w2, by simp only []; omega, by simp only []; omega, by simp only []; omega, by simp only []; rw [if_pos h9]; exact hK⟩ ?_ (by simp only []; omega)
     refine q1l (And.intro @q0a (And.intro @q0g (And.intro @q0b w1))) ?_
     exact ⟨cI (by omega), Nat.le_refl _⟩
   · have e9 : (n.kind == 9) = false := by simpa using h9
     rw [if_neg h9] at hK
     refine q0f (And.intro hxp (And.intro @j2d (And.intro @q2n (And.intro @q3a (And.intro @q2t (And.intro hnp (And.intro @q3w (And.intro e9 hw)))))))) ?_
     refine .next ⟨(i + 1, (m, kn')), by simp only []; omega, hk', hko', hc', hm1, hm2, by simp only []; rw [if_neg h9]; exact hK⟩ ?_ (by simp only []; omega)
     refine q1l (And.intro @q0a (And.intro @q0g hk')) ?_
     exact ⟨cI (by omega), Nat.le_refl _⟩
 · have hie : i = n.fields.length := by simp at hc2; omega
   have hf : K0 = (m, kn') := by
    rw [← hK]
    split
    · rw [hie, List.drop_length, q3y]
    · rfl
   subst hf
   have hset : (rA iPV kn').set p [.c (.v (.int .i64 m))] = rA iPV (kn'.set p m) := q69 kn' p m
   obtain ⟨u, hu⟩ : ∃ u, kn'[p]? = some u := ⟨kn'[p]'(by omega), List.getElem?_eq_getElem (by omega)⟩
   have hup : (rA iPV kn')[p]? = some [.c (.v (.int .i64 u))] := q4j hu
   refine q0d (And.intro hkl' (And.intro hup hset)) ?_
   refine q0j (@q0b) Tryz.results54 ?_
   exact .c _

def q2a (g : Nat → Int) : List FT → Int → Int
 | [], n => n
 | x :: xs, n => q2a g xs (min (n + g x.type.toNat) 1001)
def omg (ns : List NT) : Nat → Nat → Int
 | 0, _ => 1001
 | d + 1, p => q2a (omg ns d) (q15 ns p) 1
theorem j6l {g h : Nat → Int} (hgh : ∀ q, g q ≤ h q) : ∀ (xs : List FT) (n m : Int), n ≤ m → q2a g xs n ≤ q2a h xs m
 | [], n, m, h => h
 | x :: xs, n, m, h => by
   rw [q2a, q2a]
   have := hgh x.type.toNat
   exact j6l hgh xs _ _ (by omega)
theorem j3b {g : Nat → Int} : ∀ (xs : List FT) (n : Int), n ≤ 1001 → q2a g xs n ≤ 1001
 | [], n, h => h
 | x :: xs, n, h => by
   rw [q2a]
   exact j3b xs _ (by omega)
theorem q8o {g : Nat → Int} (hg : ∀ q, 1 ≤ g q) : ∀ (xs : List FT) (n : Int), n ≤ 1001 → n ≤ q2a g xs n
 | [], n, h => Int.le_refl _
 | x :: xs, n, h => by
   rw [q2a]
   have h1 := hg x.type.toNat
   have := q8o hg xs (min (n + g x.type.toNat) 1001) (by omega)
   omega
theorem z0c {g : Nat → Int} (hg : ∀ q, 1 ≤ g q) : ∀ (xs : List FT) (n : Int), 1 ≤ n → n ≤ 1001 → (∃ x ∈ xs, g x.type.toNat = 1001) → q2a g xs n = 1001
 | [], n, _, h, hx => by obtain ⟨x, hx, _⟩ := hx; simp at hx
 | x :: xs, n, h1, h, hx => by
   rw [q2a]
   have hgx := hg x.type.toNat
   by_cases he : g x.type.toNat = 1001
   · have hm : min (n + g x.type.toNat) 1001 = 1001 := by omega
     rw [hm]
     have a := q8o hg xs 1001 (by omega)
     have b := j3b (g := g) xs 1001 (by omega)
     omega
   · obtain ⟨y, hy, hy2⟩ := hx
     rcases List.mem_cons.1 hy with rfl | hy
     · exact absurd hy2 he
     · exact z0c hg xs _ (by omega) (by omega) ⟨y, hy, hy2⟩
theorem z0a {g h : Nat → Int} : ∀ (xs : List FT) (n : Int), (∀ x ∈ xs, g x.type.toNat = h x.type.toNat) → q2a g xs n = q2a h xs n
 | [], n, _ => rfl
 | x :: xs, n, e => by
   rw [q2a, q2a, e x (by simp)]
   exact z0a xs _ fun y hy => e y (by simp [hy])
theorem j3k (ns : List NT) : ∀ (d p : Nat), 1 ≤ omg ns d p ∧ omg ns d p ≤ 1001
 | 0, p => ⟨by rw [omg]; decide, by rw [omg]; decide⟩
 | d + 1, p => by
   rw [omg]
   exact ⟨q8o (fun q => (j3k ns d q).1) _ _ (by decide), j3b _ _ (by decide)⟩
theorem omg_dec (ns : List NT) : ∀ (d p : Nat), omg ns (d + 1) p ≤ omg ns d p
 | 0, p => by rw [omg.eq_1]; exact (j3k ns 1 p).2
 | d + 1, p => by
   rw [omg, omg]
   exact j6l (omg_dec ns d) _ _ _ (Int.le_refl _)
theorem z1c (ns : List NT) (d p : Nat) : ∀ e, omg ns (d + e) p ≤ omg ns d p
 | 0 => Int.le_refl _
 | e + 1 => Int.le_trans (omg_dec ns (d + e) p) (z1c ns d p e)
theorem omg_one (ns : List NT) (p : Nat) : ∀ (b d : Nat), omg ns d p ≤ (b : Int) → ∃ D, ∀ e, omg ns (D + e) p = omg ns D p
 | 0, d, h => by have := (j3k ns d p).1; omega
 | b + 1, d, h => by
   by_cases hs : ∀ e, omg ns (d + e) p = omg ns d p
   · exact ⟨d, hs⟩
   · obtain ⟨e, he⟩ := Classical.not_forall.1 hs
     have := z1c ns d p e
     exact omg_one ns p b (d + e) (by omega)
theorem omg_all (ns : List NT) : ∀ N : Nat, ∃ D, ∀ p, p < N → ∀ e, omg ns (D + e) p = omg ns D p
 | 0 => ⟨0, fun p h => by omega⟩
 | N + 1 => by
   obtain ⟨D1, h1⟩ := omg_all ns N
   obtain ⟨D2, h2⟩ := omg_one ns N 1001 0 (by rw [omg]; decide)
   refine ⟨max D1 D2, fun p hp e => ?_⟩
   by_cases hpN : p < N
   · have a := h1 p hpN (max D1 D2 - D1 + e)
     have b := h1 p hpN (max D1 D2 - D1)
     rw [show D1 + (max D1 D2 - D1 + e) = max D1 D2 + e by omega] at a
     rw [show D1 + (max D1 D2 - D1) = max D1 D2 by omega] at b
     rw [a, b]
   · obtain rfl : p = N := by omega
     have a := h2 (max D1 D2 - D2 + e)
     have b := h2 (max D1 D2 - D2)
     rw [show D2 + (max D1 D2 - D2 + e) = max D1 D2 + e by omega] at a
     rw [show D2 + (max D1 D2 - D2) = max D1 D2 by omega] at b
     rw [a, b]
structure IsG (ns : List NT) (G : Nat → Int) : Prop where
 range : ∀ p, 1 ≤ G p ∧ G p ≤ 1001
 fix : ∀ p, p < ns.length → G p = q2a G (q15 ns p) 1
 top : ∀ S : Nat → Prop, (∀ q, S q → ∃ x ∈ q15 ns q, S x.type.toNat) → ∀ q, S q → G q = 1001
theorem omg_top (ns : List NT) (S : Nat → Prop) (hS : ∀ q, S q → ∃ x ∈ q15 ns q, S x.type.toNat) : ∀ (d q : Nat), S q → omg ns d q = 1001
 | 0, q, _ => by rw [omg]
 | d + 1, q, h => by
   rw [omg]
   obtain ⟨x, hx, hx2⟩ := hS q h
   exact z0c (fun q => (j3k ns d q).1) _ _ (by decide) (by decide) ⟨x, hx, omg_top ns S hS d _ hx2⟩
theorem exG (ns : List NT) (hr : ∀ p, ∀ x ∈ q15 ns p, x.type.toNat < ns.length) : ∃ G, IsG ns G := by
 obtain ⟨D, hD⟩ := omg_all ns ns.length
 refine ⟨omg ns D, fun p => j3k ns D p, fun p hp => ?_, fun S hS q hq => omg_top ns S hS D q hq⟩
 have h := hD p hp 1
 rw [← h, omg]
def Edge (ns : List NT) (p q : Nat) : Prop := ∃ x ∈ q15 ns p, x.type.toNat = q
inductive Way (ns : List NT) : Nat → Nat → Prop
 | one {p q : Nat} (h : Edge ns p q) : Way ns p q
 | step {p q r : Nat} (h : Edge ns p q) (w : Way ns q r) : Way ns p r
theorem Way.tail {ns : List NT} {p q r : Nat} (w : Way ns p q) (h : Edge ns q r) : Way ns p r := by
 induction w with
 | one h1 => exact .step h1 (.one h)
 | step h1 _ ih => exact .step h1 (ih h)
theorem IsG.cyc {ns : List NT} {G : Nat → Int} (h : IsG ns G) {p : Nat} (hp : Way ns p p) : G p = 1001 := by
 refine h.top (fun q => Way ns q p) (fun q hq => ?_) p hp
 cases hq with
 | one h1 =>
   obtain ⟨x, hx, he⟩ := h1
   exact ⟨x, hx, by rw [he]; exact hp⟩
 | step h1 w =>
   obtain ⟨x, hx, he⟩ := h1
   exact ⟨x, hx, by rw [he]; exact w⟩
structure Memo (ns : List NT) (G : Nat → Int) (kn : List Int) (p : Nat) : Prop where
 len : kn.length = ns.length
 ok : KnOk kn
 pos : ∀ (j : Nat) (v : Int), kn[j]? = some v → 0 < v → v = G j
 neg : ∀ (j : Nat) (v : Int), kn[j]? = some v → v < 0 → Way ns j p
structure Kept (ns : List NT) (G : Nat → Int) (kn kn' : List Int) : Prop where
 len : kn'.length = ns.length
 ok : KnOk kn'
 pos : ∀ (j : Nat) (v : Int), kn'[j]? = some v → 0 < v → v = G j
 neg : ∀ (j : Nat) (v : Int), kn'[j]? = some v → v < 0 → ∃ u, kn[j]? = some u ∧ u < 0
 cnt : kn'.count 0 ≤ kn.count 0
theorem z3m {ns : List NT} {G : Nat → Int} (hG : IsG ns G) (f : Nat → List Int → Int × List Int) (p : Nat) (c : Nat)
  (hf : ∀ (q : Nat) (kn : List Int), q < ns.length → Memo ns G kn q → kn.count 0 < c → (f q kn).1 = G q ∧ Kept ns G kn (f q kn).2) :
  ∀ (xs : List FT) (n : Int) (kn0 kn : List Int), (∀ x ∈ xs, x.type.toNat < ns.length ∧ Edge ns p x.type.toNat) → Kept ns G kn0 kn → (∀ (j : Nat) (v : Int), kn0[j]? = some v → v < 0 → j = p ∨ Way ns j p) → kn0.count 0 < c →
   (q3y f xs n kn).1 = q2a G xs n ∧ Kept ns G kn0 (q3y f xs n kn).2
 | [], n, kn0, kn, _, hk, _, _ => ⟨rfl, hk⟩
 | x :: xs, n, kn0, kn, hx, hk, hn, hc => by
   rw [q3y, q2a]
   obtain ⟨hxl, hxe⟩ := hx x (by simp)
   have hm : Memo ns G kn x.type.toNat := ⟨hk.len, hk.ok, hk.pos, fun j v hj hv => by
    obtain ⟨u, hu, hu0⟩ := hk.neg j v hj hv
    rcases hn j u hu hu0 with rfl | w
    · exact .one hxe
    · exact w.tail hxe⟩
   obtain ⟨h1, h2⟩ := hf x.type.toNat kn hxl hm (by have := hk.cnt; omega)
   rw [h1]
   exact z3m hG f p c hf xs _ kn0 _ (fun y hy => hx y (by simp [hy])) ⟨h2.len, h2.ok, h2.pos, fun j v hj hv => by
    obtain ⟨u, hu, hu0⟩ := h2.neg j v hj hv
    exact hk.neg j u hu hu0, by have := hk.cnt; have := h2.cnt; omega⟩ hn hc
theorem j3q {kn : List Int} {p j : Nat} {v w : Int} (h : (kn.set p w)[j]? = some v) : (j = p ∧ v = w) ∨ (j ≠ p ∧ kn[j]? = some v) := by
 rw [List.getElem?_set] at h
 split at h
 · rename_i hp
   split at h
   · exact .inl ⟨hp.symm, (Option.some.inj h).symm⟩
   · simp at h
 · rename_i hp
   exact .inr ⟨fun e => hp e.symm, h⟩
theorem z3n {ns : List NT} {G : Nat → Int} (hG : IsG ns G) (hr : ∀ p, ∀ x ∈ q15 ns p, x.type.toNat < ns.length) : ∀ (d p : Nat) (kn : List Int), p < ns.length → Memo ns G kn p → kn.count 0 < d → (q2y ns d p kn).1 = G p ∧ Kept ns G kn (q2y ns d p kn).2
 | 0, p, kn, _, _, h => by omega
 | d + 1, p, kn, hp, hm, hc => by
   obtain ⟨v, hv⟩ : ∃ v, kn[p]? = some v := ⟨kn[p]'(by rw [hm.len]; exact hp), List.getElem?_eq_getElem _⟩
   have hself : Kept ns G kn kn := ⟨hm.len, hm.ok, hm.pos, fun j u hj hu => ⟨u, hj, hu⟩, Nat.le_refl _⟩
   rw [q2y, knAt_of hv]
   split
   · rename_i h0
     exact ⟨(hG.cyc (hm.neg p v hv h0)).symm, hself⟩
   · split
     · rename_i h0 h1
       exact ⟨hm.pos p v hv h1, hself⟩
     · rename_i h0 h1
       obtain rfl : v = 0 := by omega
       have hct := j9p (v := -1) hv (by decide)
       have hk1 : Kept ns G (kn.set p (-1)) (kn.set p (-1)) := ⟨by rw [List.length_set]; exact hm.len, hm.ok.set p (by decide), fun j u hj hu => by
        rcases j3q hj with ⟨_, rfl⟩ | ⟨_, h⟩
        · omega
        · exact hm.pos j u h hu, fun j u hj hu => ⟨u, hj, hu⟩, Nat.le_refl _⟩
       obtain ⟨h2, h3⟩ := z3m hG (q2y ns d) p d (fun q kn hq hmq hcq => z3n hG hr d q kn hq hmq hcq) (q15 ns p) 1 (kn.set p (-1)) (kn.set p (-1)) (fun x hx => ⟨hr p x hx, x, hx, rfl⟩) hk1 (fun j u hj hu => by
        rcases j3q hj with ⟨e, _⟩ | ⟨_, h⟩
        · exact .inl e
        · exact .inr (hm.neg j u h hu)) (by omega)
       simp only []
       rw [h2, ← hG.fix p hp]
       have hGp := hG.range p
       have c2 := j56 (kn := (q3y (q2y ns d) (q15 ns p) 1 (kn.set p (-1))).2) p (v := G p) (by omega)
       refine ⟨rfl, by rw [List.length_set]; exact h3.len, h3.ok.set p (by omega), fun j u hj hu => ?_, fun j u hj hu => ?_, by have := h3.cnt; omega⟩
       · rcases j3q hj with ⟨rfl, rfl⟩ | ⟨_, h⟩
         · rfl
         · exact h3.pos j u h hu
       · rcases j3q hj with ⟨_, rfl⟩ | ⟨hne, h⟩
         · omega
         · obtain ⟨w, hw, hw0⟩ := h3.neg j u h hu
           rcases j3q hw with ⟨e, _⟩ | ⟨_, h'⟩
           · exact absurd e hne
           · exact ⟨w, h', hw0⟩
theorem memo_none {ns : List NT} {G : Nat → Int} {kn : List Int} (h1 : kn.length = ns.length) (h2 : KnOk kn) (h3 : ∀ (j : Nat) (v : Int), kn[j]? = some v → 0 < v → v = G j) (h4 : ∀ (j : Nat) (v : Int), kn[j]? = some v → ¬ v < 0) (p : Nat) : Memo ns G kn p :=
 ⟨h1, h2, h3, fun j v hj hv => absurd hv (h4 j v hj)⟩
def wOf (ns : List NT) (p : Nat) : Int := (q2y ns (ns.length + 1) p (List.replicate ns.length 0)).1
theorem wOf_G {ns : List NT} {G : Nat → Int} (hG : IsG ns G) (hr : ∀ p, ∀ x ∈ q15 ns p, x.type.toNat < ns.length) {p : Nat} (hp : p < ns.length) : wOf ns p = G p := by
 have hz : ∀ (j : Nat) (v : Int), (List.replicate ns.length (0 : Int))[j]? = some v → v = 0 := fun j v hj => (List.mem_replicate.1 (List.mem_of_getElem? hj)).2
 refine (z3n hG hr (ns.length + 1) p _ hp (memo_none (by simp) (fun x hx => by obtain rfl := (List.mem_replicate.1 hx).2; decide) (fun j v hj hv => ?_) (fun j v hj => ?_) p) ?_).1
 · have := hz j v hj; omega
 · have := hz j v hj; omega
 · have := List.count_le_length (a := (0 : Int)) (l := List.replicate ns.length 0); simp at this ⊢
end
end Go.Proofs.YthkofkaocipomaaGreatDoor
