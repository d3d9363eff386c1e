/- Texts that lead to the law BuildNames, joined. -/
import Derived.Test.YthkofkaocipomaaGreatDoorProg
import Derived.WalkKit
import Derived.WalkSpells
import Derived.WalkLawsBesides
import Derived.Handy
import Derived.Lib.Hide
import Derived.Laws.BytesArg
import Derived.Lib.SlBytesConst
import Derived.Test.YthkofkaocipomaaGreatDoorPkBuildNamesXTy
import Derived.RangeFuncNested
import Derived.RangeFuncBound
import Derived.RangeFuncCalls
import Derived.RangeFuncLeaves
import Derived.RangeFuncBox
import Derived.Shelf.Abstract
import Derived.Shelf.RegionOpen
import Derived.OwnWalkIn
import Derived.TacticsInMore
import Derived.LoopNIn
import Derived.LoopIn
import Derived.Maps.AppendAt
import Derived.Sort.EveryDepth
import Derived.Test.YthkofkaocipomaaGreatDoorPkBuildNamesXShelf
import Derived.Sort.OwnSorted
import Derived.Test.YthkofkaocipomaaGreatDoorPkBuildNamesXAbB
import Derived.Test.YthkofkaocipomaaGreatDoorPkBuildNamesXShi
namespace Go.Proofs.YthkofkaocipomaaGreatDoor
set_option maxRecDepth 100000
set_option maxHeartbeats 6400000
open Go.RowKit
set_option linter.unusedVariables false
set_option linter.unusedSimpArgs false

def q3l (w : World) (a : Option Addr) (b off : Nat) (l : List UInt8) : Prop :=
 (l ≠ [] → a = some ⟨b, off, none⟩) ∧ ∀ j, j < l.length → w.cell? ⟨b, off + j, none⟩ = some (.int .u8 ((l[j]?.getD 0).toNat : Int))
theorem q3l.idx {w : World} {a : Option Addr} {b off : Nat} {l : List UInt8} (h : q3l w a b off l) (n c : Nat) (hn : n = l.length) (i : Int) (W : World) (h0 : 0 ≤ i) (h1 : i < (n : Int)) :
  (Instr.indexAt 50 (.slice a n c) (.int .i64 i)).run Tryz.prog W = .ok (.pointer (some ⟨b, off + i.toNat, none⟩)) W := by
 have hne : l ≠ [] := by intro e; subst e; simp at hn; omega
 rw [h.1 hne]
 simp [go_sem, h0, h1, Addr.add]
 try (split <;> simp_all)
def str (l : List UInt8) : ByteArray := ⟨l.toArray⟩
theorem q2q (l : List UInt8) : str l = ⟨l.toArray⟩ := rfl
theorem q1u (l : List UInt8) : (str l).toList = l := by rw [ByteArray.toList_eq]; rfl
theorem q1t (l : List UInt8) : (str l).size = l.length := by simp [str, ByteArray.size]
theorem str_of (s : ByteArray) : str s.data.toList = s := by cases s; rfl
theorem q3l.keep {w w' : World} {a : Option Addr} {b off : Nat} {l : List UInt8} (h : q3l w a b off l) {B : Nat} (hb : Below B w w') (hlt : l ≠ [] → b < B) : q3l w' a b off l := by
 refine ⟨h.1, fun j hj => ?_⟩
 rw [← h.2 j hj]
 exact hb.cell (p := ⟨b, off + j, none⟩) (hlt (by intro e; subst e; simp at hj))
theorem q3l.lt {w : World} {a : Option Addr} {b off : Nat} {l : List UInt8} (h : q3l w a b off l) (hne : l ≠ []) : b < w.heap.size := by
 have := h.2 0 (List.length_pos_iff.2 hne)
 rcases Nat.lt_or_ge b w.heap.size with h | h
 · exact h
 · simp [World.cell?, Array.getElem?_eq_none h] at this
theorem q3l.below {w w' : World} {a : Option Addr} {b off : Nat} {l : List UInt8} (h : q3l w a b off l) (hb : Below w.heap.size w w') : q3l w' a b off l :=
 h.keep hb fun hne => h.lt hne

inductive JT where
 | mk (k : Int) (n : Int) (s : List UInt8) (ks : List (List UInt8)) (xs : List JT)
def idxS (key : List UInt8) (ks : List (List UInt8)) : Int := match ks.findIdx? (fun k => decide (key = k)) with | some i => (i : Int) | none => -1
theorem idxS_at {key : List UInt8} {ks : List (List UInt8)} {i : Nat} (h : ks[i]? = some key) (h0 : ∀ j, j < i → ks[j]? ≠ some key) : idxS key ks = (i : Int) := by
 unfold idxS
 have hi := (List.getElem?_eq_some_iff.1 h)
 have : ks.findIdx? (fun k => decide (key = k)) = some i := by
  rw [List.findIdx?_eq_some_iff_getElem]
  refine ⟨hi.1, by simp [hi.2], fun j hj => ?_⟩
  simp
  intro e
  exact h0 j hj (by rw [List.getElem?_eq_getElem (by have := hi.1; omega), e])
 rw [this]
theorem idxS_none {key : List UInt8} {ks : List (List UInt8)} (h0 : ∀ j, j < ks.length → ks[j]? ≠ some key) : idxS key ks = -1 := by
 unfold idxS
 have : ks.findIdx? (fun k => decide (key = k)) = none := by
  rw [List.findIdx?_eq_none_iff]
  intro x hx
  simp
  intro e
  obtain ⟨j, hj, hx⟩ := List.getElem_of_mem hx
  exact h0 j hj (by rw [List.getElem?_eq_getElem hj, hx, e])
 rw [this]

mutual
def JT.inr : JT → Prop
 | .mk k n s ks xs => (-9223372036854775808 ≤ n ∧ n ≤ 9223372036854775807) ∧ JT.inrL xs
def JT.inrL : List JT → Prop
 | [] => True
 | x :: xs => x.inr ∧ JT.inrL xs
end

def sPV (s : List UInt8) : List PV := [.v (.string (str s))]
theorem q5z (l : List UInt8) : (str l).data.toList = l := by simp [str]
mutual
def JT.cells : JT → List PV
 | .mk k n s ks xs => [.v (.int .i64 k), .v (.int .i64 n), .v (.string (str s)), .sl 5 (JT.cellsL xs), .sl 1 (ks.map sPV)]
def JT.cellsL : List JT → List (List PV)
 | [] => []
 | x :: xs => x.cells :: JT.cellsL xs
end
theorem j10 : ∀ (xs : List JT), JT.cellsL xs = xs.map JT.cells
 | [] => by simp [JT.cellsL]
 | x :: xs => by simp [JT.cellsL, j10 xs]
def JT.av (t : JT) : AV := .agg (t.cells.map .c)
theorem JT.av_eq (t : JT) : t.av = .agg (t.cells.map .c) := rfl
mutual
def q1n : JT → Nat
 | .mk k n s ks xs => if k = 5 ∨ k = 6 then q2s 1 xs else 0
def q2s : Nat → List JT → Nat
 | n, [] => n
 | n, x :: xs => q2s (max n (1 + q1n x)) xs
end
theorem q1e (k n : Int) (s : List UInt8) (ks : List (List UInt8)) (xs : List JT) : (JT.mk k n s ks xs).cells = [.v (.int .i64 k), .v (.int .i64 n), .v (.string (str s)), .sl 5 (xs.map JT.cells), .sl 1 (ks.map sPV)] := by simp [JT.cells, j10]
theorem q12 (t : JT) : t.cells.length = 5 := by cases t; simp [JT.cells]
theorem q2r (t : JT) : t.cells.take 5 = t.cells := List.take_of_length_le (by rw [q12]; exact Nat.le_refl _)
theorem q2h (t : JT) : (t.cells.map AV.c).take 5 = t.cells.map .c := List.take_of_length_le (by rw [List.length_map, q12]; exact Nat.le_refl _)
theorem j4e : ∀ (xs : List JT) (n : Nat), n ≤ q2s n xs ∧ ∀ x ∈ xs, q1n x + 1 ≤ q2s n xs
 | [], n => ⟨Nat.le_refl _, by simp⟩
 | y :: xs, n => by
   obtain ⟨h1, h2⟩ := j4e xs (max n (1 + q1n y))
   simp only [q2s]
   refine ⟨by omega, fun x hx => ?_⟩
   rcases List.mem_cons.1 hx with rfl | hx
   · omega
   · exact h2 x hx

def JT.kd : JT → Int | .mk k _ _ _ _ => k
def JT.num : JT → Int | .mk _ n _ _ _ => n
def JT.txt : JT → List UInt8 | .mk _ _ s _ _ => s
def JT.keys : JT → List (List UInt8) | .mk _ _ _ ks _ => ks
def JT.its : JT → List JT | .mk _ _ _ _ xs => xs
def jget (t : JT) (key : List UInt8) : Option JT :=
 match t with
 | .mk k n s ks xs => if k = 6 ∧ 0 ≤ idxS key ks then xs[(idxS key ks).toNat]? else none
theorem idxS_le (key : List UInt8) (ks : List (List UInt8)) : idxS key ks < ks.length ∧ -1 ≤ idxS key ks := by
 unfold idxS
 cases h : ks.findIdx? (fun k => decide (key = k)) with
 | none => simp only []; omega
 | some i =>
   have := (List.findIdx?_eq_some_iff_getElem.1 h).1
   simp only []
   omega

def iPV (n : Int) : List PV := [.v (.int .i64 n)]
structure FT where
 name : List UInt8
 aliases : List (List UInt8)
 type : Int
 has : Bool
 dflt : JT
def FT.cells (f : FT) : List PV := .v (.string (str f.name)) :: .sl 1 (f.aliases.map sPV) :: .v (.int .i64 f.type) :: .v (.bool f.has) :: f.dflt.cells
structure NT where
 kind : Int
 name : List UInt8
 aliases : List (List UInt8)
 fields : List FT
 symbols : List (List UInt8)
 has : Bool
 dflt : List UInt8
 size : Int
 items : Int
 branches : List Int
def NT.cells (n : NT) : List PV := [.v (.int .i64 n.kind), .v (.string (str n.name)), .sl 1 (n.aliases.map sPV), .sl 9 (n.fields.map FT.cells), .sl 1 (n.symbols.map sPV), .v (.bool n.has), .v (.string (str n.dflt)), .v (.int .i64 n.size), .v (.int .i64 n.items), .sl 1 (n.branches.map iPV)]
structure ST where
 nodes : List NT
 root : Int
def ST.cells (s : ST) : List PV := [.sl 10 (s.nodes.map NT.cells), .v (.int .i64 s.root)]
def FT.av (f : FT) : AV := .agg (f.cells.map .c)
def NT.av (n : NT) : AV := .agg (n.cells.map .c)
def ST.av (s : ST) : AV := .agg (s.cells.map .c)
theorem FT.av_eq (f : FT) : f.av = .agg (f.cells.map .c) := rfl
theorem NT.av_eq (n : NT) : n.av = .agg (n.cells.map .c) := rfl
theorem ST.av_eq (s : ST) : s.av = .agg (s.cells.map .c) := rfl
theorem q65 (n : Int) : iPV n = [.v (.int .i64 n)] := rfl
theorem q41 (n : NT) : n.cells = [.v (.int .i64 n.kind), .v (.string (str n.name)), .sl 1 (n.aliases.map sPV), .sl 9 (n.fields.map FT.cells), .sl 1 (n.symbols.map sPV), .v (.bool n.has), .v (.string (str n.dflt)), .v (.int .i64 n.size), .v (.int .i64 n.items), .sl 1 (n.branches.map iPV)] := rfl
theorem q44 (s : ST) : s.cells = [.sl 10 (s.nodes.map NT.cells), .v (.int .i64 s.root)] := rfl
theorem q58 (f : FT) : f.cells = .v (.string (str f.name)) :: .sl 1 (f.aliases.map sPV) :: .v (.int .i64 f.type) :: .v (.bool f.has) :: f.dflt.cells := rfl
theorem q6d (f : FT) : f.cells.length = 9 := by simp [FT.cells, q12]
theorem q69 (n : NT) : n.cells.length = 10 := rfl
theorem q9h (f : FT) : f.cells.take 9 = f.cells := List.take_of_length_le (by rw [q6d]; exact Nat.le_refl _)
theorem q9i (f : FT) : (f.cells.map AV.c).take 9 = f.cells.map .c := List.take_of_length_le (by rw [List.length_map, q6d]; exact Nat.le_refl _)
theorem q7t (n : NT) : n.cells.take 10 = n.cells := rfl
theorem q7u (n : NT) : (n.cells.map AV.c).take 10 = n.cells.map .c := rfl
/-! The order of a schema's nodes. -/
def q20 (k : Int) : Bool := k == 9 || k == 10 || k == 14
def q2u (n : NT) : List Int := if n.kind = 9 then n.fields.map (·.type) else if n.kind = 11 ∨ n.kind = 12 then [n.items] else if n.kind = 13 then n.branches else []
def q3r (ns : List NT) (k : Nat) : Int := match ns[k]? with | some n => n.kind | none => 0
def q2w (ns : List NT) (f : Nat → Bool × Nat) : List Int → Nat → Bool × Nat
 | [], p => (true, p)
 | k :: ks, p => if k = (p : Int) then (if (f p).1 = true then q2w ns f ks (f p).2 else (false, (f p).2)) else if k < 0 ∨ k > (p : Int) ∨ q20 (q3r ns k.toNat) = false then (false, p) else q2w ns f ks p
def q15 (ns : List NT) : Nat → Nat → Bool × Nat
 | 0, p => (false, p)
 | d + 1, p => match ns[p]? with | none => (false, p) | some n => q2w ns (q15 ns d) (q2u n) (p + 1)
def q3u (s : ST) : Bool := decide (0 < s.nodes.length) && (decide (s.nodes.length ≤ 200) && (decide (s.root = 0) && ((q15 s.nodes 33 0).1 && decide ((q15 s.nodes 33 0).2 = s.nodes.length))))
theorem j05 (ns : List NT) (f : Nat → Bool × Nat) (hf : ∀ p, p ≤ ns.length → p ≤ (f p).2 ∧ (f p).2 ≤ ns.length) : ∀ (ks : List Int) (p : Nat), p ≤ ns.length → p ≤ (q2w ns f ks p).2 ∧ (q2w ns f ks p).2 ≤ ns.length
 | [], p, h => ⟨Nat.le_refl _, h⟩
 | k :: ks, p, h => by
   rw [q2w]
   have h1 := hf p h
   split
   · split
     · have h2 := j05 ns f hf ks (f p).2 h1.2
       omega
     · exact h1
   · split
     · exact ⟨Nat.le_refl _, h⟩
     · exact j05 ns f hf ks p h
theorem j4l (ns : List NT) : ∀ (d p : Nat), p ≤ ns.length → p ≤ (q15 ns d p).2 ∧ (q15 ns d p).2 ≤ ns.length
 | 0, p, h => ⟨Nat.le_refl _, h⟩
 | d + 1, p, h => by
   rw [q15]
   split
   · exact ⟨Nat.le_refl _, h⟩
   · rename_i n hn
     have hp : p < ns.length := (List.getElem?_eq_some_iff.1 hn).1
     have := j05 ns _ (j4l ns d) (q2u n) (p + 1) hp
     omega
def Stand (ns : List NT) (a b : Nat) : Prop :=
 (∀ (i : Nat) (n : NT), a ≤ i → i < b → ns[i]? = some n → ∀ k ∈ q2u n, 0 ≤ k ∧ k < (b : Int) ∧ (k ≤ (i : Int) → q20 (q3r ns k.toNat) = true)) ∧ (∀ i : Nat, a < i → i < b → ∃ (j : Nat) (n : NT), a ≤ j ∧ j < i ∧ ns[j]? = some n ∧ (i : Int) ∈ q2u n)
def Met (ns : List NT) (a : Nat) (done : List Int) (b : Nat) : Prop :=
 a < b ∧ (∀ k ∈ done, 0 ≤ k ∧ k < (b : Int) ∧ (k ≤ (a : Int) → q20 (q3r ns k.toNat) = true)) ∧ (∀ (i : Nat) (n : NT), a < i → i < b → ns[i]? = some n → ∀ k ∈ q2u n, 0 ≤ k ∧ k < (b : Int) ∧ (k ≤ (i : Int) → q20 (q3r ns k.toNat) = true))
  ∧ (∀ i : Nat, a < i → i < b → (i : Int) ∈ done ∨ ∃ (j : Nat) (n : NT), a < j ∧ j < i ∧ ns[j]? = some n ∧ (i : Int) ∈ q2u n)
theorem j06 (ns : List NT) (f : Nat → Bool × Nat) (hf : ∀ p q, f p = (true, q) → p < q ∧ Stand ns p q) (a : Nat) : ∀ (ks : List Int) (done : List Int) (p q : Nat), Met ns a done p → q2w ns f ks p = (true, q) → Met ns a (done ++ ks) q
 | [], done, p, q, h, hw => by
   rw [q2w] at hw
   obtain rfl : p = q := (Prod.mk.inj hw).2
   rwa [List.append_nil]
 | k :: ks, done, p, q, h, hw => by
   rw [q2w] at hw
   obtain ⟨h0, h1, h2, h3⟩ := h
   have hc : done ++ k :: ks = (done ++ [k]) ++ ks := by simp
   rw [hc]
   split at hw
   · rename_i hk
     split at hw
     · rename_i hb
       obtain ⟨hlt, hs⟩ := hf p (f p).2 (by rw [← hb])
       refine j06 ns f hf a ks (done ++ [k]) (f p).2 q ⟨by omega, ?_, ?_, ?_⟩ hw
       · intro k' hk'
         rcases List.mem_append.1 hk' with h | h
         · have := h1 k' h
           exact ⟨this.1, by omega, this.2.2⟩
         · obtain rfl := List.mem_singleton.1 h
           exact ⟨by omega, by omega, fun h => by omega⟩
       · intro i n hi1 hi2 hn k' hk'
         by_cases hip : i < p
         · have := h2 i n hi1 hip hn k' hk'
           exact ⟨this.1, by omega, this.2.2⟩
         · exact hs.1 i n (by omega) hi2 hn k' hk'
       · intro i hi1 hi2
         by_cases hip : i < p
         · rcases h3 i hi1 hip with h | h
           · exact .inl (List.mem_append.2 (.inl h))
           · exact .inr h
         · by_cases hie : i = p
           · exact .inl (List.mem_append.2 (.inr (by rw [hie, hk]; simp)))
           · obtain ⟨j, n, hj1, hj2, hn, hm⟩ := hs.2 i (by omega) hi2
             exact .inr ⟨j, n, by omega, hj2, hn, hm⟩
     · simp at hw
   · rename_i hk
     split at hw
     · simp at hw
     · rename_i hc2
       refine j06 ns f hf a ks (done ++ [k]) p q ⟨h0, ?_, h2, ?_⟩ hw
       · intro k' hk'
         rcases List.mem_append.1 hk' with h | h
         · exact h1 k' h
         · obtain rfl := List.mem_singleton.1 h
           have hnn : q20 (q3r ns k'.toNat) = true := by
            cases hb : q20 (q3r ns k'.toNat) with
            | true => rfl
            | false => exact absurd (.inr (.inr hb)) hc2
           have : ¬ (k' < 0) := fun h => hc2 (.inl h)
           have : ¬ (k' > (p : Int)) := fun h => hc2 (.inr (.inl h))
           exact ⟨by omega, by omega, fun _ => hnn⟩
       · intro i hi1 hi2
         rcases h3 i hi1 hi2 with h | h
         · exact .inl (List.mem_append.2 (.inl h))
         · exact .inr h
theorem j4m (ns : List NT) : ∀ (d p q : Nat), q15 ns d p = (true, q) → p < q ∧ Stand ns p q
 | 0, p, q, h => by simp [q15] at h
 | d + 1, p, q, h => by
   rw [q15] at h
   split at h
   · simp at h
   · rename_i n hn
     have hm := j06 ns _ (j4m ns d) p (q2u n) [] (p + 1) q ⟨by omega, by simp, fun i n h1 h2 => by omega, fun i h1 h2 => by omega⟩ h
     rw [List.nil_append] at hm
     obtain ⟨h0, h1, h2, h3⟩ := hm
     refine ⟨h0, ?_, ?_⟩
     · intro i n' hi1 hi2 hn' k hk
       by_cases hi : i = p
       · subst hi
         rw [hn] at hn'
         obtain rfl := Option.some.inj hn'
         exact h1 k hk
       · exact h2 i n' (by omega) hi2 hn' k hk
     · intro i hi1 hi2
       rcases h3 i hi1 hi2 with h | ⟨j, n', hj1, hj2, hn', hm⟩
       · exact ⟨p, n, by omega, hi1, hn, h⟩
       · exact ⟨j, n', by omega, hj2, hn', hm⟩
theorem j5v {s : ST} (h : q3u s = true) : Stand s.nodes 0 s.nodes.length := by
 unfold q3u at h
 simp only [Bool.and_eq_true, decide_eq_true_eq] at h
 obtain ⟨_, _, _, h1, h2⟩ := h
 exact (j4m s.nodes 33 0 _ (by rw [← h1, ← h2])).2
section
open Go.RowKit Go.Shelf
attribute [local go_sem] Oper.semAt_some
def upTo {α : Type} (f : Nat → α) (k : Nat) : List α := (List.range k).map f
theorem j4i {α : Type} (f : Nat → α) (k : Nat) : upTo f (k + 1) = upTo f k ++ [f k] := by simp [upTo, List.range_succ]
theorem j6l {α : Type} (f : Nat → α) (k : Nat) : (upTo f k).length = k := by simp [upTo]
theorem upTo_all {α : Type} [Inhabited α] (zs : List α) (d : α) : upTo (fun j => zs[j]?.getD d) zs.length = zs := by
 apply List.ext_getElem
 · simp [upTo]
 · intro i h1 h2
   simp [upTo, h2]
theorem j6u (F : Fence) (n : Nat) (h7 : F.fn 222) (hro : F.round = none) (hn : 1 ≤ n) (l Bs o n₀ b off len cap : Nat) (zs : List (List UInt8)) (hreach : len * 16 ≤ 140737488351232) (hb : b < n₀) (J Jx : List (List UInt8) → World → Prop)
  (hY : ∀ pre x W, J pre W → pre.length < len → YieldAt F (n - 1) Tryz.prog l #[.string (str x)] W fun e W' =>
   (e = .returned (.bool true) ∧ J (pre ++ [x]) W' ∧ Below n₀ W W') ∨ (e = .returned (.bool false) ∧ Jx (pre ++ [x]) W'))
  (W : World) (hBs : W.cell? ⟨Bs, o, none⟩ = some (.slice (some ⟨b, off, none⟩) len cap)) (hc : ∀ j, j < len → W.cell? ⟨b, off + j, none⟩ = some (.string (str (zs[j]?.getD [])))) (h0 : J [] W) :
  CallsIn F n Tryz.prog 222 #[.func (.yield l) #[] #[], .pointer (some ⟨Bs, o, none⟩)] W fun e W' => (∃ v, e = .returned v) ∧
   ((∃ ys, ys = upTo (fun j => zs[j]?.getD []) len ∧ J ys W') ∨ (∃ pre, (∃ k, k ≤ len ∧ pre = upTo (fun j => zs[j]?.getD []) k) ∧ Jx pre W')) := by
 refine callsIn_of_wp Tryz.func222 rfl h7 ?_ hro
 simp only [Tryz.ntmps222, List.size_toArray, List.length_cons, List.length_nil, Nat.reduceAdd, Nat.reduceSub, Array.replicate_succ, Array.replicate_zero, List.push_toArray, List.append_toArray, List.nil_append, List.cons_append]
 gi_wp2
 gi_loopw [7] (fun i wr => ∃ k : Nat, k ≤ len ∧ i = .int .i64 k ∧ J (upTo (fun j => zs[j]?.getD []) k) wr ∧ Below n₀ W wr)
  (fun i _ => len - (intOf i).toNat)
 case atStart => exact ⟨0, Nat.zero_le _, rfl, h0, Below.refl _ _⟩
 case round =>
  obtain ⟨k, hk, rfl, hJs, hnx⟩ := hrel
  have hcx : k < len → wr.cell? ⟨b, off + k, none⟩ = some (.string (str (zs[k]?.getD []))) := fun h => (hnx.cell (p := ⟨b, off + k, none⟩) hb).trans (hc k h)
  by_cases hlt : k < len
  · obtain ⟨fn, tmps, assign, body, hy, hR⟩ := hY _ (zs[k]?.getD []) wr hJs (by rw [j6l]; exact hlt)
    have hcx' := hcx hlt
    gi_wp2
    refine hR.mono ?_
    rintro e W3 (⟨rfl, hJ3, hk3⟩ | ⟨rfl, hJx3⟩)
    · gi_wp2
      go_roundw
      case rel => exact ⟨k + 1, by omega, by simp, by rw [j4i]; exact hJ3, hnx.trans hk3⟩
      case measure => simp [intOf]; omega
    · gi_wp2
      refine bodyPost_ret (results_none rfl _ _ _) rfl ?_
      exact ⟨⟨_, rfl⟩, .inr ⟨_, ⟨k + 1, by omega, (j4i _ _).symm⟩, hJx3⟩⟩
  · obtain rfl : k = len := by omega
    gi_wp2
    go_end0
    exact ⟨⟨_, rfl⟩, .inl ⟨_, rfl, hJs⟩⟩
theorem j6v (F : Fence) (n : Nat) (h7 : F.fn 222) (hro : F.round = none) (l Bs o : Nat) (J : List (List UInt8) → World → Prop) (W : World) (a : Option Addr) (c : Nat) (hBs : W.cell? ⟨Bs, o, none⟩ = some (.slice a 0 c)) (h0 : J [] W) :
  CallsIn F n Tryz.prog 222 #[.func (.yield l) #[] #[], .pointer (some ⟨Bs, o, none⟩)] W fun e W' => (∃ v, e = .returned v) ∧ J [] W' := by
 refine callsIn_of_wp Tryz.func222 rfl h7 ?_ hro
 simp only [Tryz.ntmps222, List.size_toArray, List.length_cons, List.length_nil, Nat.reduceAdd, Nat.reduceSub, Array.replicate_succ, Array.replicate_zero, List.push_toArray, List.append_toArray, List.nil_append, List.cons_append]
 gi_wp2
 gi_loopw [7] (fun i wr => i = .int .i64 0 ∧ J [] wr) (fun _ _ => 0)
 case atStart => exact ⟨rfl, h0⟩
 case round =>
  obtain ⟨rfl, hJs⟩ := hrel
  gi_wp2
  go_end0
  exact ⟨⟨_, rfl⟩, hJs⟩
theorem upTo_take (zs : List (List UInt8)) {k : Nat} (hk : k ≤ zs.length) : upTo (fun j => zs[j]?.getD []) k = zs.take k := by
 apply List.ext_getElem
 · simp [upTo, hk]
 · intro i h1 h2
   have : i < zs.length := by simp [upTo] at h1; omega
   simp [upTo, this]
def Strs (n₀ : Nat) (W : World) (sv : Value) (zs : List (List UInt8)) : Prop :=
 ∃ a cap, sv = .slice a zs.length cap ∧ (zs ≠ [] → ∃ b off, a = some ⟨b, off, none⟩ ∧ b < n₀ ∧ ∀ j, j < zs.length → W.cell? ⟨b, off + j, none⟩ = some (.string (str (zs[j]?.getD []))))
theorem Strs.below {n₀ : Nat} {A B : World} (h : Below n₀ A B) {sv : Value} {zs : List (List UInt8)} : Strs n₀ A sv zs → Strs n₀ B sv zs
 | ⟨a, cap, e, hc⟩ => ⟨a, cap, e, fun hn => by
   obtain ⟨b, off, h1, h2, h3⟩ := hc hn
   exact ⟨b, off, h1, h2, fun j hj => (h.cell (p := ⟨b, off + j, none⟩) h2).trans (h3 j hj)⟩⟩
theorem j6x (F : Fence) (n : Nat) (h7 : F.fn 222) (hro : F.round = none) (hn : 1 ≤ n) (Bs o n₀ : Nat) (sv : Value) (zs : List (List UInt8)) (hreach : zs.length * 16 ≤ 140737488351232) (w : World) (hBs : Bs < w.heap.size) (hn₀ : n₀ ≤ w.heap.size)
  (hc : w.cell? ⟨Bs, o, none⟩ = some sv) (hI : Strs n₀ w sv zs) :
  SeqStopsK F n Tryz.prog 222 #[.pointer (some ⟨Bs, o, none⟩)] (fun x : List UInt8 => #[Value.string (str x)]) (Below n₀) (fun ys => ys = zs) (fun pre => pre <+: zs) zs.length w := fun l J Jx W hW _ _ hY h0 => by
 have hc' := (hW.cell (p := ⟨Bs, o, none⟩) hBs).trans hc
 obtain ⟨a, cap, rfl, hcs⟩ := hI.below (hW.mono hn₀)
 by_cases hz : zs = []
 · subst hz
   exact (j6v F n h7 hro l Bs o J W a cap hc' h0).mono fun e W' ⟨he, hj⟩ => ⟨he, .inl ⟨_, rfl, hj⟩⟩
 · obtain ⟨b, off, rfl, hb, hcs⟩ := hcs hz
   refine (j6u F n h7 hro hn l Bs o n₀ b off zs.length cap zs hreach hb J Jx hY W hc' hcs h0).mono ?_
   rintro e W' ⟨he, ⟨ys, rfl, hj⟩ | ⟨pre, ⟨k, hk, rfl⟩, hj⟩⟩
   · exact ⟨he, .inl ⟨_, upTo_all zs _, hj⟩⟩
   · exact ⟨he, .inr ⟨_, by rw [upTo_take zs hk]; exact List.take_prefix _ _, hj⟩⟩
def sV (s : List UInt8) : Value := .string (str s)
theorem sinfo : (Tryz.prog.info? 9).map (fun i => (i.zero, i.size, i.bytes)) = some (some (.string ⟨#[]⟩), 1, 16) := by kernel_rfl
theorem j4v (F : Fence) (n : Nat) (h3 : F.fn 267) (h7 : F.fn 222) (hro : F.round = none) (hn : 3 ≤ n) (Bs o : Nat) (sv : Value) (zs : List (List UInt8)) (hlen : zs.length ≤ maxLen) (hbytes : zs.length * 16 ≤ 140737488351232) (w : World) (hBs : Bs < w.heap.size)
  (hc : w.cell? ⟨Bs, o, none⟩ = some sv) (hI : Strs w.heap.size w sv zs) :
  CallsIn F n Tryz.prog 267 #[.slice none 0 0, .func (.func 222) #[] #[.pointer (some ⟨Bs, o, none⟩)]] w fun e W' => ∃ v, e = .returned v ∧ W'.ownsRow w.heap.size 9 1 v zs.length (zs.map sV) ∧ Below w.heap.size w W' := by
 have h1 : 1 ≤ n := by omega
 obtain ⟨i0, hi, hz0, hz1, hz2⟩ := info_parts sinfo
 refine callsIn_of_wp_marks Tryz.func267 rfl h3 ?_ hro
 simp only [Tryz.ntmps267, List.size_toArray, List.length_cons, List.length_nil, Nat.reduceAdd, Nat.reduceSub, Array.replicate_succ, Array.replicate_zero, List.push_toArray, List.append_toArray, List.nil_append, List.cons_append]
 gi_wp2
 have bO := Boxed.new w 23 (.slice none 0 0)
 have hB0 : Below w.heap.size w (w.alloc (.cells #[.slice none 0 0] 23)) := (Below.refl _ w).alloc (Nat.le_refl _) _
 refine wpIn_rangeFunc_ownG hro h1 (gf := 222) (lb := #[.pointer (some ⟨Bs, o, none⟩)]) rfl h7 (q0h Tryz.func222 (by kernel_rfl) rfl)
  (j6x F (n - 1) h7 hro (by omega) Bs o w.heap.size sv zs hbytes _ (by simp; omega) (by simp) ((hB0.cell (p := ⟨Bs, o, none⟩) hBs).trans hc) (hI.below hB0)) belowK_t (belowK_b (by simp)) (Below.refl _ _) (fun _ => rfl)
  (fun pre W => (∃ v, Boxed W w.heap.size 23 v ∧ W.ownsRow w.heap.size 9 1 v pre.length (pre.map sV) ∧ (v = .slice none 0 0 ↔ pre = [])) ∧ Below w.heap.size w W)
  (fun _ _ _ => False)
  (OwnFrom.and (Own.from (holdsRow_own w.heap.size w.heap.size 23 9 1 (fun pre => pre.length) (fun pre => pre.map sV) (fun pre v => v = .slice none 0 0 ↔ pre = [])) _) (ownFrom_below (Nat.le_refl _) (by simp)))
  (fun _ _ _ _ _ hs _ _ => hs)
  ⟨⟨_, bO, World.ownsRow_nil _ _ _ _, by simp⟩, hB0⟩
  (fun x => { tmps := #[.slice none 0 0, .func (.func 222) #[] #[.pointer (some ⟨Bs, o, none⟩)], .pointer (some ⟨w.heap.size, 0, none⟩), undef, .slice none 0 0, .string (str x), .func (.func 222) #[] #[.pointer (some ⟨Bs, o, none⟩)], .string (str x), undef, undef, undef, undef, undef], defers := [] }) ?assign ?body ?done ?stop
 case assign =>
  intro l x W K hK
  gi_wp2
  exact hK
 case body =>
  rintro l pre x W ⟨⟨v, hv, hrow, hnil⟩, hB⟩ hlt
  have hc := hv.cell
  gi_wp2_with (gi_at_builtin; refine wpListIn_append_own _ rfl _ _ 23 rfl w.heap.size 9 i0 (.string ⟨#[]⟩) 1 16 Tryz.underlying23 hi hz0 hz1 hz2 rfl (by decide) _ _ _ rfl (hrow.alloc _) ⟨W.heap.size, 0, none⟩ 1 1 [.string (str x)] rfl rfl (cell_one_new _ _ _) (by simp [Value.oneCell']) (by omega) (by omega) (by have := hB.size; simp; omega) ?_; intro v' w1 hown' hgrow _; obtain ⟨g', cap', rfl⟩ := ownsRow_succ hown'; obtain ⟨hv1, hv2, hr2, hk2, hb2⟩ := hv.appended (by decide) hrow hB.size (Nat.le_refl _) hown' hgrow; have hc1 := hv1.cell; have hf1 := hv1.frozen)
  exact ⟨hk2.from _, hb2, ⟨_, hv2, by simpa [sV] using hr2, by simp⟩, hB.trans hb2⟩
 case done =>
  rintro D ys W hD rfl ⟨⟨v, hv, hrow, hnil⟩, hB⟩ hK
  have hc := hv.cell
  gi_wp2
  refine ⟨by simp, .inl ⟨_, _, rfl, run_takeDeferred hK, ?_⟩⟩
  exact ⟨_, results_tmp rfl _ _ _, v, rfl, ownsRow_putObj hrow _ hK rfl, hB.trans (belowK_b (w := w) (Nat.le_refl _) W D _ _ (by simp at hD; omega) hK rfl rfl)⟩
 case stop =>
  rintro D c pre W _ _ h _
  exact h.elim
theorem j4w (Bs o : Nat) (sv : Value) (zs : List (List UInt8)) (hlen : zs.length ≤ maxLen) (hbytes : zs.length * 16 ≤ 140737488351232) (w : World) (hBs : Bs < w.heap.size)
  (hc : w.cell? ⟨Bs, o, none⟩ = some sv) (hI : Strs w.heap.size w sv zs) :
  Calls Tryz.prog 267 #[.slice none 0 0, .func (.func 222) #[] #[.pointer (some ⟨Bs, o, none⟩)]] w fun e W' => ∃ v, e = .returned v ∧ W'.ownsRow w.heap.size 9 1 v zs.length (zs.map sV) ∧ Below w.heap.size w W' :=
 calls_of_every_depth (L := [267, 222]) (n := 3) fun D => j4v _ 3 (by simp [Fence.list]) (by simp [Fence.list]) rfl (Nat.le_refl _) Bs o sv zs hlen hbytes w hBs hc hI
end
section
open Go.RowKit Go.Sort
def sA (l : List (List UInt8)) : List (List AV) := l.map fun s => [AV.c (.v (.string (str s)))]
def sB (l : List (List UInt8)) : Blkd := ⟨true, 9, 1, sA l⟩
theorem q2b (l : List (List UInt8)) : (sA l).length = l.length := by simp [sA]
theorem q22 (ρ : Nat → Nat) (l : List (List UInt8)) : (sA l).map (AV.renL ρ) = sA l := by
 induction l with
 | nil => rfl
 | cons x l ih => show AV.renL ρ _ :: (sA l).map _ = _; rw [ih]; rfl
theorem sA_sc {used : Nat → Prop} {h : Nat → Option Blkd} (l : List (List UInt8)) : (∀ e ∈ sA l, ∀ x ∈ e, Sc used h x) = True := eq_true fun e he x hx => by
 obtain ⟨b, _, rfl⟩ := List.mem_map.1 he
 simp at hx
 subst hx
 exact .c
theorem sA_flat (l : List (List UInt8)) : (sA l).flatten = l.map fun s => AV.c (.v (.string (str s))) := by
 induction l with
 | nil => rfl
 | cons x l ih => show _ ++ (sA l).flatten = _; rw [ih]; rfl
theorem j3o {W : World} {ro : Nat → Prop} {φ : Nat → Value} {h : Nat → Option Blkd} {j : Nat} {l : List (List UInt8)} (hB : BRep W ro φ h j (sB l)) : W.ownsRow 0 9 1 (φ j) l.length (l.map sV) := by
 obtain ⟨h1, h2, vs, h3, h4⟩ := hB
 rw [if_pos (show (sB l).row = true from rfl)] at h4
 have hvs : vs = l.map sV := by
  have h5 : RepL W ro φ h (l.map fun s => AV.c (.v (.string (str s)))) vs := by rw [← sA_flat]; exact h3
  apply List.ext_getElem?
  intro k
  by_cases hk : k < l.length
  · have hkv : k < vs.length := by rw [h5.1]; simpa using hk
    have := h5.2 k _ _ (by rw [List.getElem?_map, List.getElem?_eq_getElem hk]; rfl) (List.getElem?_eq_getElem hkv)
    rw [List.getElem?_eq_getElem hkv, q0v this, List.getElem?_map, List.getElem?_eq_getElem hk]
    rfl
  · rw [List.getElem?_eq_none (by rw [h5.1]; simpa using hk), List.getElem?_eq_none (by simpa using hk)]
 subst hvs
 have : (sB l).len = l.length := q2b l
 rw [this] at h4
 exact h4
theorem j1x {W : World} {ro : Nat → Prop} {φ : Nat → Value} {h : Nat → Option Blkd} {j : Nat} {l : List (List UInt8)} (ho : W.ownsRow 0 9 1 (φ j) l.length (l.map sV)) : BRep W ro φ h j (sB l) := by
 refine ⟨fun i e he => ?_, fun e he x hx => ?_, l.map sV, ?_, ?_⟩
 · obtain ⟨s, _, rfl⟩ := List.mem_map.1 (List.mem_of_getElem? he)
   rfl
 · obtain ⟨s, _, rfl⟩ := List.mem_map.1 he
   simp at hx
   subst hx
   rfl
 · show RepL W ro φ h (sA l).flatten _
   rw [sA_flat]
   refine ⟨by simp, fun k x v hx hv => ?_⟩
   rw [List.getElem?_map] at hx hv
   obtain ⟨s, h1, rfl⟩ := Option.map_eq_some_iff.1 hx
   rw [h1] at hv
   obtain rfl := Option.some.inj hv
   exact .c (.v rfl)
 · rw [if_pos (show (sB l).row = true from rfl)]
   have : (sB l).len = l.length := q2b l
   rw [this]
   exact ho
theorem hok_one {W : World} {ro : Nat → Prop} {φ : Nat → Value} {B : Blkd} (hB : BRep W ro φ (q0e [some B]) 1000000 B) (ho : ∀ b, q0f (φ 1000000) = some b → ¬ ro b) : HOk W ro φ (q0e [some B]) := by
 have key : ∀ j B1, q0e [some B] j = some B1 → j = 1000000 ∧ B1 = B := by
  intro j B1 hj
  obtain ⟨h1, h2⟩ := q3s hj
  have h3 := (List.getElem?_eq_some_iff.1 h2).1
  simp at h3
  obtain rfl : j = 1000000 := by omega
  simp at h2
  exact ⟨rfl, h2.symm⟩
 refine ⟨fun j B1 hj => ?_, fun j k B1 B2 b hj hk hne => ?_, fun j B1 b hj hb => ?_⟩
 · obtain ⟨rfl, rfl⟩ := key j B1 hj
   exact hB
 · exact absurd ((key j B1 hj).1.trans (key k B2 hk).1.symm) hne
 · obtain ⟨rfl, rfl⟩ := key j B1 hj
   exact ho b hb
theorem row_arg {W : World} {ro : Nat → Prop} {φ : Nat → Value} {B : Blkd} {vs : List Value} {n : Nat} (hn : B.len = n) (hl : RepL W ro φ (q0e ([B].map some)) [.row 1000000 n] vs) : vs = [φ 1000000] := by
 obtain ⟨h1, h2⟩ := hl
 match vs, h1, h2 with
 | [v], _, h2 =>
   have := h2 0 _ v rfl rfl
   cases this with
   | row _ hv => rw [hv B (by simp [q0e]) hn]
def srt (l : List (List UInt8)) : List (List UInt8) := l.mergeSort fun x y => decide (x ≤ y)
theorem q34 (l : List (List UInt8)) : (srt l).length = l.length := by simp [srt]
theorem j4x (l : List (List UInt8)) (hl : l.length ≤ 4294967296) :
  ToldM Tryz.prog 267 [.c (.v (.slice none 0 0)), .fn (.func 222) [] [.pp [.sl 1 (l.map sPV)]]] [] [some (sB l)] (.row 1000000 l.length) := by
 refine ⟨ent_267, trivial, ⟨?_, ?_⟩, fun W ro φ vs hro hgk hal hok => ?_⟩
 · exact .row ⟨by omega, by simp⟩ fun B hB => by simp [q0e] at hB; subst hB; exact Nat.le_of_eq (q2b l).symm
 · intro b hb B hB e he
   simp at hb
   subst hb
   obtain rfl := Option.some.inj hB
   exact fun x hx => (of_eq_true (sA_sc l)) e he x hx
 · obtain ⟨h1, h2⟩ := hal
   match vs, h1, h2 with
   | [v0, v1], _, h2 =>
     have e0 := q0v (h2 0 _ v0 rfl rfl)
     have e1 := h2 1 _ v1 rfl rfl
     subst e0
     cases e1 with
     | @fn _ _ _ us us' q1 q2 q3 q4 =>
       obtain rfl : us = [] := List.eq_nil_of_length_eq_zero q1
       match us', q3, q4 with
       | [p], _, q4 =>
         have e2 := q4 0 _ p rfl rfl
         cases e2 with
         | @pp _ b off vs hb hc hp =>
           match vs, hp with
           | [sv], hp =>
             have hsv := hp.2 0 _ sv rfl rfl
             have hcell : W.cell? ⟨b, off, none⟩ = some sv := by have := hc 0 (by simp); simpa using this
             have hS : Strs W.heap.size W sv l := by
              cases hsv with
              | @sl _ _ a c vss hn hcc hnil ha hll hz hz' hx =>
                refine ⟨a, c, by simp, fun hne => ?_⟩
                obtain ⟨b', off', rfl, hb', hcs⟩ := ha (by simpa using hne)
                refine ⟨b', off', rfl, hro b' hb', fun j hj => ?_⟩
                have hjv : j < vss.length := by rw [hll]; simpa using hj
                have hvj := List.getElem?_eq_getElem hjv
                have hlen := hz' j _ hvj
                have hx1 := hx j 0 (sPV l[j]) vss[j] (.v (.string (str l[j]))) (vss[j]'hjv)[0] (by rw [List.getElem?_map, List.getElem?_eq_getElem hj]; rfl) hvj rfl (List.getElem?_eq_getElem _)
                have hcc := hcs j _ hvj 0 (by omega)
                rw [List.getElem?_eq_getElem (by omega)] at hcc
                have hxe := q0v (h := h0) (φ := φ0) (.c hx1)
                rw [Nat.mul_one, Nat.add_zero] at hcc
                rw [hcc, hxe, List.getElem?_eq_getElem hj]
                rfl
             refine (j4w b off sv l (by unfold maxLen; omega) (by omega) W (hro b hb) hcell hS).mono ?_
             rintro e W' ⟨v, rfl, hown, hbel⟩
             have hlt := World.ownsRow.lt hown
             refine ⟨v, ro, fun _ => v, rfl, ⟨hbel.os, hbel.tape, hbel.output, hbel.size, fun k hk _ => hbel.block k hk⟩, fun b h => h, fun b h => ⟨.inl h, Nat.lt_of_lt_of_le (hro b h) hbel.size⟩, ?_, ?_, ?_, ?_⟩
             · exact .row (by rcases hown.2 with ⟨q, _⟩ | ⟨_, _, _, q, _⟩ <;> rw [q] <;> rfl) fun B hB hn => rfl
             · refine hok_one (j1x ?_) fun b hb' hrb => ?_
               · refine ⟨hown.1, ?_⟩
                 rcases hown.2 with h9 | ⟨g, cap, cur, h9, _, h10⟩
                 · exact .inl h9
                 · exact .inr ⟨g, cap, cur, h9, Nat.zero_le _, h10⟩
               · have := (hlt b (by rw [← q3v hown]; exact hb')).1
                 have := hro b hrb
                 omega
             · intro j B' hj; exact absurd hj.2 (by have := hj.1; simp; omega)
             · intro j B b hj hb'
               exact .inl (hlt b (by rw [← q3v hown]; exact hb')).1
theorem sort_told (l : List (List UInt8)) (hl : l.length ≤ 4294967296) : ToldM Tryz.prog 221 [.row 1000000 l.length] [sB l] [some (sB (srt l))] (.tup []) := by
 refine ⟨ent_221, ⟨rfl, trivial⟩, ⟨.tup (by simp), ?_⟩, fun W ro φ vs hro hgk hal hok => ?_⟩
 · intro b hb B hB e he
   simp at hb
   subst hb
   obtain rfl := Option.some.inj hB
   exact fun x hx => (of_eq_true (sA_sc (srt l))) e he x hx
 · obtain rfl := row_arg (B := sB l) (q2b l) hal
   have hlen : q0e ([sB l].map some) 1000000 = some (sB l) := by simp [q0e]
   have hown := j3o (hok.hp 1000000 _ hlen)
   have fin : ∀ W', W.grownBy W' (φ 1000000).ownBlock → W'.ownsRow 0 9 1 (φ 1000000) (srt l).length ((srt l).map sV) →
     ∃ v ro' φ', Ending.returned (.tuple #[]) = .returned v ∧ Keeps (fun b => ∃ j B, q0e ([sB l].map some) j = some B ∧ q0f (φ j) = some b) W W' ∧ (∀ b, ro b → ro' b) ∧
      (∀ b, ro' b → (ro b ∨ W.heap.size ≤ b ∨ ∃ j B, q0e ([sB l].map some) j = some B ∧ q0f (φ j) = some b) ∧ b < W'.heap.size) ∧ Rep W' ro' φ' (q0e [some (sB (srt l))]) (.tup []) v ∧ HOk W' ro' φ' (q0e [some (sB (srt l))]) ∧
      Goes (inL [sB l].length) φ φ' (q0e ([sB l].map some)) (q0e [some (sB (srt l))]) ∧ (∀ j B b, q0e [some (sB (srt l))] j = some B → q0f (φ' j) = some b → W.heap.size ≤ b ∨ ∃ j B, q0e ([sB l].map some) j = some B ∧ q0f (φ j) = some b) := by
    intro W' hg ho
    refine ⟨_, ro, φ, rfl, ⟨hg.os, hg.tape, hg.output, hg.size, fun k hk hm => hg.block k hk fun e => hm ⟨1000000, _, hlen, by rw [q3v hown, e]⟩⟩, fun b h => h, fun b h => ⟨.inl h, Nat.lt_of_lt_of_le (hro b h) hg.size⟩, .tup (vs := []) rfl (by simp), hok_one (j1x ho) fun b hb => hok.own 1000000 _ b hlen hb, ?_, ?_⟩
    · intro j B' hj hB'
      obtain rfl : j = 1000000 := by have := hj.1; have := hj.2; simp at this; omega
      simp [q0e] at hB'
      subst hB'
      exact ⟨_, hlen, .inr ⟨by show (sA l).length = (sA (srt l)).length; rw [q2b, q2b, q34], rfl, rfl⟩⟩
    · intro j B b hj hb
      obtain ⟨h1, h2⟩ := q3s hj
      have h3 := (List.getElem?_eq_some_iff.1 h2).1
      simp at h3
      obtain rfl : j = 1000000 := by omega
      exact .inr ⟨1000000, _, hlen, hb⟩
   rcases hown.2 with ⟨h1, h2⟩ | ⟨g, cap, cur, h1, _, h2, h3, h4, h5, h6⟩
   · obtain rfl : l = [] := List.eq_nil_of_length_eq_zero h2
     rw [h1]
     refine (Tryz.slices_Sort_string_none none 0 W).mono ?_
     rintro e W' ⟨rfl, rfl⟩
     exact fin W' ⟨rfl, rfl, rfl, Nat.le_refl _, fun _ _ _ => rfl⟩ (by rw [show srt [] = [] from by simp [srt]]; exact hown)
   · have hH : Holds encStr W g 0 l.toArray := holds_of_block h2 (by rw [← Nat.mul_one l.length]; exact h6)
     rw [h1]
     refine (Tryz.slices_Sort_string g 0 cap l W hH (Array.getElem?_eq_some_iff.1 h2).1 (by omega)).mono ?_
     rintro e W' ⟨rfl, n, os, rfl⟩
     refine fin _ ?_ ?_
     · rw [h1]; exact grownBy_sorted _
     · rw [h1]
       have := ownsRow_sorted (n := n) (os := os) (ts := srt l) (q34 l) (Nat.zero_le g) h2 h3 h4 h5
       rw [q34]
       exact this
theorem j2z (j : Nat) : q0e [none] j = none := by
 unfold q0e
 split
 · cases h : j - 1000000 with
   | zero => rfl
   | succ k => rfl
 · rfl
theorem j49 (l : List (List UInt8)) : (Lib.compact l).length ≤ l.length := by
 unfold Lib.compact Lib.compactUpTo
 rw [List.length_map]
 exact Nat.le_trans (List.length_filter_le _ _) (by simp)
theorem j5b (l : List (List UInt8)) (hl : l.length ≤ 4294967296) : ToldM Tryz.prog 161 [.row 1000000 l.length] [sB l] [none] (.c (.sl 1 ((Lib.compact l).map sPV))) := by
 refine ⟨ent_161, trivial, ⟨.c, fun b hb B hB => by simp at hb; subst hb; simp at hB⟩, fun W ro φ vs hro hgk hal hok => ?_⟩
 obtain rfl := row_arg (B := sB l) (q2b l) hal
 have hlen : q0e ([sB l].map some) 1000000 = some (sB l) := by simp [q0e]
 have hown := j3o (hok.hp 1000000 _ hlen)
 have hbl : ∀ b, q0f (φ 1000000) = some b → b < W.heap.size := fun b hb => (World.ownsRow.lt hown b (by rw [← q3v hown]; exact hb)).2
 have fin : ∀ (W' : World) (u : Value), W.grownBy W' (φ 1000000).ownBlock → PRep W' (fun b => ro b ∨ q0f (φ 1000000) = some b) (.sl 1 ((Lib.compact l).map sPV)) u →
   ∃ v ro' φ', Ending.returned u = .returned v ∧ Keeps (fun b => ∃ j B, q0e ([sB l].map some) j = some B ∧ q0f (φ j) = some b) W W' ∧ (∀ b, ro b → ro' b) ∧
    (∀ b, ro' b → (ro b ∨ W.heap.size ≤ b ∨ ∃ j B, q0e ([sB l].map some) j = some B ∧ q0f (φ j) = some b) ∧ b < W'.heap.size) ∧ Rep W' ro' φ' (q0e [none]) (.c (.sl 1 ((Lib.compact l).map sPV))) v ∧ HOk W' ro' φ' (q0e [none]) ∧
    Goes (inL [sB l].length) φ φ' (q0e ([sB l].map some)) (q0e [none]) ∧ (∀ j B b, q0e [none] j = some B → q0f (φ' j) = some b → W.heap.size ≤ b ∨ ∃ j B, q0e ([sB l].map some) j = some B ∧ q0f (φ j) = some b) := by
  intro W' u hg hu
  refine ⟨u, _, φ, rfl, ⟨hg.os, hg.tape, hg.output, hg.size, fun k hk hm => hg.block k hk fun e => hm ⟨1000000, _, hlen, by rw [q3v hown, e]⟩⟩, fun b h => .inl h, fun b h => ?_, .c hu, ⟨fun j B hj => ?_, fun j k B B' b hj => ?_, fun j B b hj => ?_⟩, fun j B hj hB => ?_, fun j B b hj => ?_⟩
  · rcases h with h | h
    · exact ⟨.inl h, Nat.lt_of_lt_of_le (hro b h) hg.size⟩
    · exact ⟨.inr (.inr ⟨1000000, _, hlen, h⟩), Nat.lt_of_lt_of_le (hbl b h) hg.size⟩
  all_goals first | (rw [j2z] at hj; simp at hj) | (rw [j2z] at hB; simp at hB)
 rcases hown.2 with ⟨h1, h2⟩ | ⟨g, cap, cur, h1, _, h2, h3, h4, h5, h6⟩
 · obtain rfl : l = [] := List.eq_nil_of_length_eq_zero h2
   rw [h1]
   refine (Tryz.slices_Compact_string_empty none 0 W).mono ?_
   rintro e W' ⟨rfl, rfl⟩
   exact fin W' _ ⟨rfl, rfl, rfl, Nat.le_refl _, fun _ _ _ => rfl⟩ (PRep.nil _ _ _)
 · have hH : Holds encStr W g 0 l.toArray := holds_of_block h2 (by rw [← Nat.mul_one l.length]; exact h6)
   rw [h1]
   refine (Tryz.slices_Compact_string g 0 cap l W hH (by omega) h3).mono ?_
   rintro e W' ⟨rfl, q, rfl⟩
   obtain ⟨ts, hts⟩ : ∃ ts, ts = Lib.compact l ++ List.replicate (l.length - (Lib.compact l).length) [] := ⟨_, rfl⟩
   have hcl := j49 l
   have htl : ts.length = l.length := by rw [hts]; simp; omega
   rw [← hts]
   have hg := grownBy_sorted (w := W) (g := g) (n := q) (os := #[]) ts.toArray
   have ho := ownsRow_sorted (n := q) (os := #[]) (ts := ts) htl (Nat.zero_le g) h2 h3 h4 h5
   rw [grow_empty] at hg ho
   refine fin _ _ (by rw [h1]; exact hg) ?_
   rcases ho.2 with ⟨h7, _⟩ | ⟨g', cap', cur', h7, _, h8, h9, h10, h11, h12⟩
   · simp at h7
   · obtain ⟨rfl, rfl⟩ : g = g' ∧ cap = cap' := by simpa using h7
     have hm : ((Lib.compact l).map sPV).length = (Lib.compact l).length := by simp
     rw [← hm]
     refine .sl (vss := (Lib.compact l).map fun s => [sV s]) (by rw [hm]; omega) (by unfold maxLen at h4; omega) (fun h => by simp at h) (fun hne => ⟨g, 0, rfl, .inr (by rw [h1]; rfl), fun i vs hi => ?_⟩) (by simp) (fun i e he => ?_) (fun i vs hi => ?_) (fun i j e vs p v he hvs hp hv => ?_)
     · rw [List.getElem?_map] at hi
       obtain ⟨s, h13, rfl⟩ := Option.map_eq_some_iff.1 hi
       intro j hj
       obtain rfl : j = 0 := by simpa using hj
       have h14 : (cur'.toList.take (l.length * 1))[i]? = some (sV s) := by
        rw [h12, List.getElem?_map, hts, List.getElem?_append_left (List.getElem?_eq_some_iff.1 h13).1, h13]; rfl
       have hi2 : i < l.length := by have := (List.getElem?_eq_some_iff.1 h13).1; omega
       rw [List.getElem?_take_of_lt (by omega)] at h14
       have := q5b h8 (l.length * 1) i (by rw [List.length_take]; simp; omega)
       rw [Nat.zero_add, List.getElem?_take_of_lt (by omega), h14] at this
       simpa using this
     · obtain ⟨s, _, rfl⟩ := List.mem_map.1 (List.mem_of_getElem? he); rfl
     · obtain ⟨s, _, rfl⟩ := List.mem_map.1 (List.mem_of_getElem? hi); rfl
     · rw [List.getElem?_map] at he hvs
       obtain ⟨s, h13, rfl⟩ := Option.map_eq_some_iff.1 he
       rw [h13] at hvs
       obtain rfl := Option.some.inj hvs
       match j, hp, hv with
       | 0, hp, hv =>
         obtain rfl := Option.some.inj hp
         obtain rfl := Option.some.inj hv
         exact .v rfl
end

def idxP {α : Type} (p : α → Bool) (l : List α) : Int := match l.findIdx? p with | some i => (i : Int) | none => -1
theorem q8p {α : Type} {p : α → Bool} {l : List α} {i : Nat} {x : α} (h : l[i]? = some x) (hx : p x = true) (h0 : ∀ j y, j < i → l[j]? = some y → p y = false) : idxP p l = (i : Int) := by
 unfold idxP
 obtain ⟨hlt, he⟩ := List.getElem?_eq_some_iff.1 h
 have : l.findIdx? p = some i := by
  rw [List.findIdx?_eq_some_iff_getElem]
  refine ⟨hlt, by rw [he]; exact hx, fun j hj => ?_⟩
  have := h0 j _ hj (List.getElem?_eq_getElem (by omega))
  simp [this]
 rw [this]
theorem q8q {α : Type} {p : α → Bool} {l : List α} (h0 : ∀ j y, j < l.length → l[j]? = some y → p y = false) : idxP p l = -1 := by
 unfold idxP
 have : l.findIdx? p = none := by
  rw [List.findIdx?_eq_none_iff]
  intro x hx
  obtain ⟨j, hj, he⟩ := List.getElem_of_mem hx
  exact h0 j x hj (by rw [List.getElem?_eq_getElem hj, he])
 rw [this]
theorem j2j {α : Type} (p : α → Bool) (l : List α) : decide (idxP p l ≥ 0) = l.any p := by
 unfold idxP
 cases h : l.findIdx? p with
 | some i =>
   have := (List.findIdx?_eq_some_iff_getElem.1 h)
   obtain ⟨h1, h2, _⟩ := this
   have h3 : l.any p = true := List.any_eq_true.2 ⟨l[i], List.getElem_mem _, h2⟩
   rw [h3]
   simp
 | none =>
   rw [List.findIdx?_eq_none_iff] at h
   have h3 : l.any p = false := List.any_eq_false.2 fun x hx => by simpa using h x hx
   rw [h3]
   rfl
theorem q2o {used : Nat → Prop} {h : Nat → Option Blkd} {l : List AV} (hp : AV.pureL l = true) : (∀ x ∈ l, Sc used h x) = True := eq_true fun x hx => (q28 l hp x hx).sc
theorem q7g (l m : List AV) : AV.pureL (l ++ m) = (AV.pureL l && AV.pureL m) := by
 induction l with
 | nil => simp [AV.pureL]
 | cons x l ih => simp [AV.pureL, ih, Bool.and_assoc]
section
attribute [local go_sem] opx opE ev okx q3y bnd okO AV.get AV.okb cAV q7x q86 q85 j08 q51 q8z q8y st q71 q4o q75 q76 q74 binV binI binS q3d q37 q3z q38 unV q4j q2z q2f q0j q1f Blkd.len setE grown q0r q3j q2g q1z pv q3n q2l q29 AV.cellish AV.pureL AV.pureB q8v q8f AV.ren AV.renL renL_c Blkd.ren rho wrM renN q1q rhoE q27 q3f tyA_2 tyA_3 tyA_4 tyA_5 tyA_6 tyA_7 tyA_8 tyA_9 tyA_10 tyA_11 tyA_12 tyA_13 tyA_14 tyA_15 tyA_16 tyA_17 tyA_18 tyA_19 tyA_21 tyA_22 tyA_23 tyA_24 tyA_25 tyA_28 tyA_29 tyA_30 tyA_31 tyA_37 tyA_38 tyA_39 tyA_40 tyA_47 tyA_50 tyA_58 tyA_59 tyA_60 tyA_64 tyA_65 tyA_66 tyA_71 tyA_72 tyA_88 tyA_89 tyA_90 tyA_91 tyA_99 q9k q9l q9m q9n q9o q9p q9q q9r q9s q9t q9u q9v q9w q9x q9y q9z q90 q91 q92 q93 q94 q95 q96 q97 q98 q99 j0a j0b j0c j0d j0e j0f j0g j0h j0i j0j j0k j0l j0m j0n j0o j0p j0q j0r j0s j0t j0u j0v j0w j0x j0y j0z j00 j01 Option.map_some Option.map_none Option.getD_some Option.getD_none Option.bind_some Option.bind_none List.getElem?_cons_zero List.getElem?_cons_succ List.getElem?_nil List.getElem?_toArray List.length_cons List.length_nil List.length_map List.forall_mem_map List.map_cons List.map_nil List.drop_zero List.drop_succ_cons List.drop_nil List.take_zero List.take_succ_cons List.take_nil List.mem_cons List.not_mem_nil or_false forall_eq_or_imp forall_eq List.set_cons_zero List.set_cons_succ List.cons_append List.nil_append List.append_nil List.foldl_cons List.foldl_nil List.replicate_succ List.replicate_zero List.all_cons List.all_nil if_true if_false Bool.false_eq_true ne_eq not_false_eq_true not_true_eq_false true_and and_true and_self true_implies imp_self implies_true forall_const beq_self_eq_true Bool.and_true Bool.true_and Bool.and_false Bool.false_and Bool.or_true Bool.true_or Bool.or_false Bool.false_or Bool.not_true Bool.not_false Bool.not_eq_eq_eq_not q4w Value.oneCell' Int.toNat_natCast beq_true beq_false Bool.not_eq_true false_implies false_or true_or or_true Nat.zero_add Nat.add_zero decide_true decide_false Int.cast_ofNat_Int Int.toNat_zero Int.toNat_one eq_self

theorem ixfS_told {g : FuncId} {fs cs : List AV} (hp : AV.pureL fs = true) (hp' : AV.pureL cs = true) (l : List (List UInt8)) (p : List UInt8 → Bool) (hk : ∀ x ∈ l, Told Tryz.prog g (fs ++ ([.c (.v (.string (str x)))] ++ cs)) (.c (.v (.bool (p x))))) :
  Told Tryz.prog 181 [.c (.sl 1 (l.map sPV)), .fn (.func g) fs cs] (.c (.v (.int .i64 (idxP p l)))) := by
 refine VC.told ent_181 Tryz.func181 rfl Tryz.ntmps181 (by simp) (by simp [AV.pureB, AV.pureL, hp, hp']) rfl fun hb => ?_
 simp only [List.mem_cons, List.not_mem_nil, or_false, forall_eq_or_imp, forall_eq, q3m, q3w, List.length_map] at hb
 have h1 := hb.1.1
 clear hb
 refine q0a ?_
 refine VC.loop (ι := {i : Nat // i ≤ l.length ∧ ∀ j x, j < i → l[j]? = some x → p x = false}) (fun i => [(0, .c (.sl 1 (l.map sPV))), (1, .fn (.func g) fs cs), (7, .c (.v (.int .i64 l.length))), (8, .c (.v (.int .i64 i.1)))]) (fun _ => []) 0 (fun i => l.length - i.1) ⟨0, Nat.zero_le _, by intro j x hj; omega⟩ ?_ ?_
 · simp only [q2o hp, q2o hp', Weak, eq_self, q07, q01, sc_c, q03, q04, q05, q00, q02, ScL, q06, List.forall_mem_map, go_sem, Int.reduceBEq, Int.reduceLE, Int.reduceLT, Int.reduceNeg, Nat.reduceAdd, Nat.reduceEqDiff, Nat.reduceLT, Nat.reduceLeDiff, Nat.reduceMul, Nat.reduceSub, reduceCtorEq, ↓reduceIte]
   all_goals rfl
 rintro ⟨i, hi, ht⟩
 refine q0a ?_
 refine VC.cond (by rfl) (by trivial) (fun hc => ?_) (fun hc => ?_)
 · simp only [decide_eq_true_eq] at hc
   obtain ⟨x, hx⟩ : ∃ x, l[i]? = some x := ⟨l[i]'(by omega), List.getElem?_eq_getElem _⟩
   have hw : IntKind.i64.wrap ((i : Int) + 1) = (i : Int) + 1 := q1i (by omega) (by omega)
   have hkx := hk x (List.mem_of_getElem? hx)
   (repeat (first | refine pass ?_ | refine VC.region (by rfl) (by rfl) ?_ | (refine AO.step fun K hK => ?_; simp only [List.getElem?_map, hx, sPV, go_sem, Int.reduceBEq, Int.reduceLE, Int.reduceLT, Int.reduceNeg, Nat.reduceAdd, Nat.reduceEqDiff, Nat.reduceLT, Nat.reduceLeDiff, Nat.reduceMul, Nat.reduceSub, reduceCtorEq, ↓reduceIte]; (first | refine q10 ?_ | refine q0q ?_ | skip); (first | refine hK _ _ _ ?_ | refine ⟨by first | omega | exact ⟨_, rfl, rfl⟩ | exact fun _ => ⟨_, rfl, rfl⟩ | (intro h; simp only [List.getElem?_map, hx, sPV, h, true_and]; omega) | (clear hK; intro h; simp_all <;> omega), hK _ _ _ ?_⟩); clear hK K) | refine VC.draw mixP (by rfl) (by rfl) ?_ | refine ⟨q13 (by kernel_rfl), ?_⟩ | refine BQ.other (by decide) ?_ | refine VC.seq ?_ | refine AO.nil ?_ | refine VC.block ?_))
   ((refine AO.step fun K hK => ?_; simp only [go_sem, Int.reduceBEq, Int.reduceLE, Int.reduceLT, Int.reduceNeg, Nat.reduceAdd, Nat.reduceEqDiff, Nat.reduceLT, Nat.reduceLeDiff, Nat.reduceMul, Nat.reduceSub, reduceCtorEq, ↓reduceIte, sPV, hp, hp', q7g, q2a, List.append_assoc]; (first | refine q0q ?_ | skip)); refine .inl ⟨_, hkx, hK _ _ _ ?_⟩; clear hK K)
   refine q0a ?_
   refine VC.cond (by rfl) (by trivial) (fun hpx => ?_) (fun hpx => ?_)
   · have hr := q8p hx hpx ht
     refine q0a ?_
     refine retX Tryz.results181 ?_
     rw [hr]
     exact .c _
   · refine q0b (hw) ?_
     refine .next ⟨i + 1, by omega, fun j y hj hy => ?_⟩ ?_ (by simp only []; omega)
     · rcases Nat.lt_or_ge j i with h | h
       · exact ht j y h hy
       · obtain rfl : j = i := by omega
         rw [hx] at hy
         obtain rfl := Option.some.inj hy
         exact hpx
     simp only [q2o hp, q2o hp', Weak, eq_self, q07, q01, sc_c, q03, q04, q05, q00, q02, ScL, q06, List.forall_mem_map, go_sem, Int.reduceBEq, Int.reduceLE, Int.reduceLT, Int.reduceNeg, Nat.reduceAdd, Nat.reduceEqDiff, Nat.reduceLT, Nat.reduceLeDiff, Nat.reduceMul, Nat.reduceSub, reduceCtorEq, ↓reduceIte]
     exact cI (by omega)
 · simp only [decide_eq_false_iff_not] at hc
   obtain rfl : i = l.length := by omega
   have hr := q8q ht
   refine q0a ?_
   refine retX Tryz.results181 ?_
   rw [hr]
   exact .c _
theorem cnfS_told {g : FuncId} {fs cs : List AV} (hp : AV.pureL fs = true) (hp' : AV.pureL cs = true) (l : List (List UInt8)) (p : List UInt8 → Bool) (hk : ∀ x ∈ l, Told Tryz.prog g (fs ++ ([.c (.v (.string (str x)))] ++ cs)) (.c (.v (.bool (p x))))) :
  Told Tryz.prog 141 [.c (.sl 1 (l.map sPV)), .fn (.func g) fs cs] (.c (.v (.bool (l.any p)))) := by
 have hi := ixfS_told hp hp' l p hk
 refine VC.told ent_141 Tryz.func141 rfl Tryz.ntmps141 (by simp) (by simp [AV.pureB, AV.pureL, hp, hp']) rfl fun hb => ?_
 clear hb
 refine q0a ?_
 refine q35 (And.intro hp hp') (hi) ?_
 refine q0a ?_
 refine retX Tryz.results141 ?_
 exact q18 (by rw [j2j])
section

def q1y (l : List UInt8) (i : Nat) : UInt8 := l[i]?.getD 0
def q1j (c : UInt8) : Nat := if c.toNat < 128 then 1 else if c.toNat < 194 then 0 else if c.toNat < 224 then 2 else if c.toNat < 240 then 3 else if c.toNat < 245 then 4 else 0
def ulo (a : UInt8) : Nat := if a.toNat = 224 then 160 else if a.toNat = 240 then 144 else 128
def uhi (a : UInt8) : Nat := if a.toNat = 237 then 159 else if a.toNat = 244 then 143 else 191
def usec (a b : UInt8) : Bool := decide (ulo a ≤ b.toNat ∧ b.toNat ≤ uhi a)
def ucont (b : UInt8) : Bool := decide (128 ≤ b.toNat ∧ b.toNat < 192)
def q24 (l : List UInt8) (p i : Nat) : Nat := if p + i < l.length then (if ucont (q1y l (p + i)) = true ∧ (i = 1 → usec (q1y l p) (q1y l (p + i)) = true) then 0 else 11) else 10
def q14 (l : List UInt8) (p : Nat) : Nat → Nat
 | 0 => 0
 | k + 1 => if q14 l p k = 0 then q24 l p (k + 1) else q14 l p k
def uerr (l : List UInt8) (p : Nat) : Nat := if p < l.length then (if q1j (q1y l p) = 0 then 11 else q14 l p (q1j (q1y l p) - 1)) else 10
def ulen (l : List UInt8) (p : Nat) : Nat := q1j (q1y l p)
theorem j6r {l : List UInt8} {p k : Nat} (h : q14 l p k ≠ 0) : ∀ j, q14 l p (k + j) = q14 l p k := by
 intro j
 induction j with
 | zero => rfl
 | succ j ih => rw [show k + (j + 1) = (k + j) + 1 from by omega]; simp only [q14]; rw [ih, if_neg h]
theorem j4k {l : List UInt8} {p i n : Nat} (hi : 1 ≤ i) (hin : i < n) (h0 : q14 l p (i - 1) = 0) (h : q24 l p i ≠ 0) : q14 l p (n - 1) = q24 l p i := by
 have h1 : q14 l p i = q24 l p i := by
  cases i with
  | zero => omega
  | succ i => simp only [q14]; rw [if_pos (by simpa using h0)]
 have := j6r (l := l) (p := p) (k := i) (by rw [h1]; exact h) (n - 1 - i)
 rw [h1] at this
 rwa [show i + (n - 1 - i) = n - 1 from by omega] at this
theorem j6s {l : List UInt8} {p k : Nat} (h0 : q14 l p k = 0) (h : q24 l p (k + 1) = 0) : q14 l p (k + 1) = 0 := by
 simp only [q14]; rw [if_pos h0, h]
variable {l : List UInt8} {p : Nat}
theorem j03 (h : uerr l p = 0) : 0 < ulen l p ∧ p + ulen l p ≤ l.length := by
 unfold uerr at h
 split at h
 · rename_i hp
   split at h
   · simp at h
   · rename_i hf
     refine ⟨by unfold ulen; omega, ?_⟩
     unfold ulen
     have key : ∀ k, q14 l p k = 0 → p + k < l.length := by
      intro k
      induction k with
      | zero => intro _; omega
      | succ k ih =>
        intro hk
        simp only [q14] at hk
        split at hk
        · unfold q24 at hk
          split at hk
          · omega
          · simp at hk
        · rename_i h1; exact absurd hk h1
     have := key _ h
     omega
 · simp at h
def uCnt (l : List UInt8) (p k : Nat) : Nat × Nat :=
 if h : p < l.length then (if h2 : uerr l p = 0 ∧ 0 < ulen l p then uCnt l (p + ulen l p) (k + 1) else (0, 11)) else (k, 0)
termination_by l.length - p
theorem j02 {l : List UInt8} {p k : Nat} (h : ¬ p < l.length) : uCnt l p k = (k, 0) := by rw [uCnt, dif_neg h]
theorem uCnt_bad {l : List UInt8} {p k : Nat} (h : p < l.length) (h2 : uerr l p ≠ 0) : uCnt l p k = (0, 11) := by rw [uCnt, dif_pos h, dif_neg (fun x => h2 x.1)]
theorem j4h {l : List UInt8} {p k : Nat} (h : p < l.length) (h2 : uerr l p = 0) : uCnt l p k = uCnt l (p + ulen l p) (k + 1) := by rw [uCnt, dif_pos h, dif_pos ⟨h2, (j03 h2).1⟩]
def q1m (l : List UInt8) : Bool := decide ((uCnt l 0 0).2 = 0)
end

theorem j6f {x : UInt8} (h0 : x.toNat < 128) : ∃ c : Int, Told Tryz.prog 290 [.c (.v (.int .u8 (x.toNat : Int)))] (.tup [.c (.v (.int .i64 (q1j x : Int))), .c (.v (.int .i32 c))]) := by
 have e0 : ((x.toNat : Int) < 128) = True := by simp; omega
 have hu : q1j x = 1 := by unfold q1j; repeat' split <;> try omega
 rw [hu]
 apply Exists.intro
 case h =>
 refine VC.told q5d Tryz.func290 rfl Tryz.ntmps290 (by simp) (by rfl) (by rfl) fun hb => ?_
 clear hb
 refine q0b (e0) ?_
 refine VC.condT (by rfl) (by trivial) ?_
 refine q0a ?_
 refine ⟨.inr rfl, ?_⟩
 rw [Tryz.results290]
 simp only [q0n, resV, go_sem, simprocAttr]
 exact ⟨.c _, .c _⟩
theorem j6g {x : UInt8} (h0 : ¬ x.toNat < 128) (h1 : x.toNat < 194) : ∃ c : Int, Told Tryz.prog 290 [.c (.v (.int .u8 (x.toNat : Int)))] (.tup [.c (.v (.int .i64 (q1j x : Int))), .c (.v (.int .i32 c))]) := by
 have e0 : ((x.toNat : Int) < 128) = False := by simp; omega
 have e1 : ((x.toNat : Int) < 194) = True := by simp; omega
 have hu : q1j x = 0 := by unfold q1j; repeat' split <;> try omega
 rw [hu]
 apply Exists.intro
 case h =>
 refine VC.told q5d Tryz.func290 rfl Tryz.ntmps290 (by simp) (by rfl) (by rfl) fun hb => ?_
 clear hb
 refine q0b (e0) ?_
 refine VC.condF (by rfl) (by trivial) ?_
 refine q0b (e1) ?_
 refine VC.condT (by rfl) (by trivial) ?_
 refine q0a ?_
 refine ⟨.inr rfl, ?_⟩
 rw [Tryz.results290]
 simp only [q0n, resV, go_sem, simprocAttr]
 exact ⟨.c _, .c _⟩
theorem j6h {x : UInt8} (h0 : ¬ x.toNat < 128) (h1 : ¬ x.toNat < 194) (h2 : x.toNat < 224) : ∃ c : Int, Told Tryz.prog 290 [.c (.v (.int .u8 (x.toNat : Int)))] (.tup [.c (.v (.int .i64 (q1j x : Int))), .c (.v (.int .i32 c))]) := by
 have e0 : ((x.toNat : Int) < 128) = False := by simp; omega
 have e1 : ((x.toNat : Int) < 194) = False := by simp; omega
 have e2 : ((x.toNat : Int) < 224) = True := by simp; omega
 have hu : q1j x = 2 := by unfold q1j; repeat' split <;> try omega
 rw [hu]
 apply Exists.intro
 case h =>
 refine VC.told q5d Tryz.func290 rfl Tryz.ntmps290 (by simp) (by rfl) (by rfl) fun hb => ?_
 clear hb
 refine q0b (e0) ?_
 refine VC.condF (by rfl) (by trivial) ?_
 refine q0b (e1) ?_
 refine VC.condF (by rfl) (by trivial) ?_
 refine q0b (e2) ?_
 refine VC.condT (by rfl) (by trivial) ?_
 refine q0a ?_
 refine ⟨.inr rfl, ?_⟩
 rw [Tryz.results290]
 simp only [q0n, resV, go_sem, simprocAttr]
 exact ⟨.c _, .c _⟩
theorem j6i {x : UInt8} (h0 : ¬ x.toNat < 128) (h1 : ¬ x.toNat < 194) (h2 : ¬ x.toNat < 224) (h3 : x.toNat < 240) : ∃ c : Int, Told Tryz.prog 290 [.c (.v (.int .u8 (x.toNat : Int)))] (.tup [.c (.v (.int .i64 (q1j x : Int))), .c (.v (.int .i32 c))]) := by
 have e0 : ((x.toNat : Int) < 128) = False := by simp; omega
 have e1 : ((x.toNat : Int) < 194) = False := by simp; omega
 have e2 : ((x.toNat : Int) < 224) = False := by simp; omega
 have e3 : ((x.toNat : Int) < 240) = True := by simp; omega
 have hu : q1j x = 3 := by unfold q1j; repeat' split <;> try omega
 rw [hu]
 apply Exists.intro
 case h =>
 refine VC.told q5d Tryz.func290 rfl Tryz.ntmps290 (by simp) (by rfl) (by rfl) fun hb => ?_
 clear hb
 refine q0b (e0) ?_
 refine VC.condF (by rfl) (by trivial) ?_
 refine q0b (e1) ?_
 refine VC.condF (by rfl) (by trivial) ?_
 refine q0b (e2) ?_
 refine VC.condF (by rfl) (by trivial) ?_
 refine q0b (e3) ?_
 refine VC.condT (by rfl) (by trivial) ?_
 refine q0a ?_
 refine ⟨.inr rfl, ?_⟩
 rw [Tryz.results290]
 simp only [q0n, resV, go_sem, simprocAttr]
 exact ⟨.c _, .c _⟩
theorem j6j {x : UInt8} (h0 : ¬ x.toNat < 128) (h1 : ¬ x.toNat < 194) (h2 : ¬ x.toNat < 224) (h3 : ¬ x.toNat < 240) (h4 : x.toNat < 245) : ∃ c : Int, Told Tryz.prog 290 [.c (.v (.int .u8 (x.toNat : Int)))] (.tup [.c (.v (.int .i64 (q1j x : Int))), .c (.v (.int .i32 c))]) := by
 have e0 : ((x.toNat : Int) < 128) = False := by simp; omega
 have e1 : ((x.toNat : Int) < 194) = False := by simp; omega
 have e2 : ((x.toNat : Int) < 224) = False := by simp; omega
 have e3 : ((x.toNat : Int) < 240) = False := by simp; omega
 have e4 : ((x.toNat : Int) < 245) = True := by simp; omega
 have hu : q1j x = 4 := by unfold q1j; repeat' split <;> try omega
 rw [hu]
 apply Exists.intro
 case h =>
 refine VC.told q5d Tryz.func290 rfl Tryz.ntmps290 (by simp) (by rfl) (by rfl) fun hb => ?_
 clear hb
 refine q0b (e0) ?_
 refine VC.condF (by rfl) (by trivial) ?_
 refine q0b (e1) ?_
 refine VC.condF (by rfl) (by trivial) ?_
 refine q0b (e2) ?_
 refine VC.condF (by rfl) (by trivial) ?_
 refine q0b (e3) ?_
 refine VC.condF (by rfl) (by trivial) ?_
 refine q0b (e4) ?_
 refine VC.condT (by rfl) (by trivial) ?_
 refine q0a ?_
 refine ⟨.inr rfl, ?_⟩
 rw [Tryz.results290]
 simp only [q0n, resV, go_sem, simprocAttr]
 exact ⟨.c _, .c _⟩
theorem j6k {x : UInt8} (h0 : ¬ x.toNat < 128) (h1 : ¬ x.toNat < 194) (h2 : ¬ x.toNat < 224) (h3 : ¬ x.toNat < 240) (h4 : ¬ x.toNat < 245) : ∃ c : Int, Told Tryz.prog 290 [.c (.v (.int .u8 (x.toNat : Int)))] (.tup [.c (.v (.int .i64 (q1j x : Int))), .c (.v (.int .i32 c))]) := by
 have e0 : ((x.toNat : Int) < 128) = False := by simp; omega
 have e1 : ((x.toNat : Int) < 194) = False := by simp; omega
 have e2 : ((x.toNat : Int) < 224) = False := by simp; omega
 have e3 : ((x.toNat : Int) < 240) = False := by simp; omega
 have e4 : ((x.toNat : Int) < 245) = False := by simp; omega
 have hu : q1j x = 0 := by unfold q1j; repeat' split <;> try omega
 rw [hu]
 apply Exists.intro
 case h =>
 refine VC.told q5d Tryz.func290 rfl Tryz.ntmps290 (by simp) (by rfl) (by rfl) fun hb => ?_
 clear hb
 refine q0b (e0) ?_
 refine VC.condF (by rfl) (by trivial) ?_
 refine q0b (e1) ?_
 refine VC.condF (by rfl) (by trivial) ?_
 refine q0b (e2) ?_
 refine VC.condF (by rfl) (by trivial) ?_
 refine q0b (e3) ?_
 refine VC.condF (by rfl) (by trivial) ?_
 refine q0b (e4) ?_
 refine VC.condF (by rfl) (by trivial) ?_
 refine q0a ?_
 refine ⟨.inr rfl, ?_⟩
 rw [Tryz.results290]
 simp only [q0n, resV, go_sem, simprocAttr]
 exact ⟨.c _, .c _⟩
theorem j6e (x : UInt8) : ∃ c : Int, Told Tryz.prog 290 [.c (.v (.int .u8 (x.toNat : Int)))] (.tup [.c (.v (.int .i64 (q1j x : Int))), .c (.v (.int .i32 c))]) := by
 by_cases h0 : x.toNat < 128
 · exact j6f h0
 by_cases h1 : x.toNat < 194
 · exact j6g h0 h1
 by_cases h2 : x.toNat < 224
 · exact j6h h0 h1 h2
 by_cases h3 : x.toNat < 240
 · exact j6i h0 h1 h2 h3
 by_cases h4 : x.toNat < 245
 · exact j6j h0 h1 h2 h3 h4
 · exact j6k h0 h1 h2 h3 h4

theorem j6m {x y : UInt8} (h0 : x.toNat = 224) : Told Tryz.prog 291 [.c (.v (.int .u8 (x.toNat : Int))), .c (.v (.int .u8 (y.toNat : Int)))] (.c (.v (.bool (usec x y)))) := by
 have e0 : ((x.toNat : Int) == 224) = true := by simp; omega
 have hu : usec x y = decide (160 ≤ y.toNat ∧ y.toNat ≤ 191) := by
  unfold usec ulo uhi
  congr 1
  repeat' split
  all_goals first | rfl | omega
 rw [hu]
 refine VC.told q57 Tryz.func291 rfl Tryz.ntmps291 (by simp) (by rfl) (by rfl) fun hb => ?_
 clear hb
 refine q0b (e0) ?_
 refine VC.condT (by rfl) (by trivial) ?_
 refine q0a ?_
 refine ⟨.inr rfl, ?_⟩
 rw [Tryz.results291]
 simp only [q0n, resV, go_sem, simprocAttr]
 refine q18 ?_
 congr 2
 rw [Bool.eq_iff_iff]
 simp
 omega
theorem j6n {x y : UInt8} (h0 : x.toNat ≠ 224) (h1 : x.toNat = 237) : Told Tryz.prog 291 [.c (.v (.int .u8 (x.toNat : Int))), .c (.v (.int .u8 (y.toNat : Int)))] (.c (.v (.bool (usec x y)))) := by
 have e0 : ((x.toNat : Int) == 224) = false := by simp; omega
 have e1 : ((x.toNat : Int) == 237) = true := by simp; omega
 have hu : usec x y = decide (128 ≤ y.toNat ∧ y.toNat ≤ 159) := by
  unfold usec ulo uhi
  congr 1
  repeat' split
  all_goals first | rfl | omega
 rw [hu]
 refine VC.told q57 Tryz.func291 rfl Tryz.ntmps291 (by simp) (by rfl) (by rfl) fun hb => ?_
 clear hb
 refine q0b (e0) ?_
 refine VC.condF (by rfl) (by trivial) ?_
 refine q0b (e1) ?_
 refine VC.condT (by rfl) (by trivial) ?_
 refine q0a ?_
 refine ⟨.inr rfl, ?_⟩
 rw [Tryz.results291]
 simp only [q0n, resV, go_sem, simprocAttr]
 refine q18 ?_
 congr 2
 rw [Bool.eq_iff_iff]
 simp
 omega
theorem j6o {x y : UInt8} (h0 : x.toNat ≠ 224) (h1 : x.toNat ≠ 237) (h2 : x.toNat = 240) : Told Tryz.prog 291 [.c (.v (.int .u8 (x.toNat : Int))), .c (.v (.int .u8 (y.toNat : Int)))] (.c (.v (.bool (usec x y)))) := by
 have e0 : ((x.toNat : Int) == 224) = false := by simp; omega
 have e1 : ((x.toNat : Int) == 237) = false := by simp; omega
 have e2 : ((x.toNat : Int) == 240) = true := by simp; omega
 have hu : usec x y = decide (144 ≤ y.toNat ∧ y.toNat ≤ 191) := by
  unfold usec ulo uhi
  congr 1
  repeat' split
  all_goals first | rfl | omega
 rw [hu]
 refine VC.told q57 Tryz.func291 rfl Tryz.ntmps291 (by simp) (by rfl) (by rfl) fun hb => ?_
 clear hb
 refine q0b (e0) ?_
 refine VC.condF (by rfl) (by trivial) ?_
 refine q0b (e1) ?_
 refine VC.condF (by rfl) (by trivial) ?_
 refine q0b (e2) ?_
 refine VC.condT (by rfl) (by trivial) ?_
 refine q0a ?_
 refine ⟨.inr rfl, ?_⟩
 rw [Tryz.results291]
 simp only [q0n, resV, go_sem, simprocAttr]
 refine q18 ?_
 congr 2
 rw [Bool.eq_iff_iff]
 simp
 omega
theorem j6p {x y : UInt8} (h0 : x.toNat ≠ 224) (h1 : x.toNat ≠ 237) (h2 : x.toNat ≠ 240) (h3 : x.toNat = 244) : Told Tryz.prog 291 [.c (.v (.int .u8 (x.toNat : Int))), .c (.v (.int .u8 (y.toNat : Int)))] (.c (.v (.bool (usec x y)))) := by
 have e0 : ((x.toNat : Int) == 224) = false := by simp; omega
 have e1 : ((x.toNat : Int) == 237) = false := by simp; omega
 have e2 : ((x.toNat : Int) == 240) = false := by simp; omega
 have e3 : ((x.toNat : Int) == 244) = true := by simp; omega
 have hu : usec x y = decide (128 ≤ y.toNat ∧ y.toNat ≤ 143) := by
  unfold usec ulo uhi
  congr 1
  repeat' split
  all_goals first | rfl | omega
 rw [hu]
 refine VC.told q57 Tryz.func291 rfl Tryz.ntmps291 (by simp) (by rfl) (by rfl) fun hb => ?_
 clear hb
 refine q0b (e0) ?_
 refine VC.condF (by rfl) (by trivial) ?_
 refine q0b (e1) ?_
 refine VC.condF (by rfl) (by trivial) ?_
 refine q0b (e2) ?_
 refine VC.condF (by rfl) (by trivial) ?_
 refine q0b (e3) ?_
 refine VC.condT (by rfl) (by trivial) ?_
 refine q0a ?_
 refine ⟨.inr rfl, ?_⟩
 rw [Tryz.results291]
 simp only [q0n, resV, go_sem, simprocAttr]
 refine q18 ?_
 congr 2
 rw [Bool.eq_iff_iff]
 simp
 omega
theorem j6q {x y : UInt8} (h0 : x.toNat ≠ 224) (h1 : x.toNat ≠ 237) (h2 : x.toNat ≠ 240) (h3 : x.toNat ≠ 244) : Told Tryz.prog 291 [.c (.v (.int .u8 (x.toNat : Int))), .c (.v (.int .u8 (y.toNat : Int)))] (.c (.v (.bool (usec x y)))) := by
 have e0 : ((x.toNat : Int) == 224) = false := by simp; omega
 have e1 : ((x.toNat : Int) == 237) = false := by simp; omega
 have e2 : ((x.toNat : Int) == 240) = false := by simp; omega
 have e3 : ((x.toNat : Int) == 244) = false := by simp; omega
 have hu : usec x y = decide (128 ≤ y.toNat ∧ y.toNat ≤ 191) := by
  unfold usec ulo uhi
  congr 1
  repeat' split
  all_goals first | rfl | omega
 rw [hu]
 refine VC.told q57 Tryz.func291 rfl Tryz.ntmps291 (by simp) (by rfl) (by rfl) fun hb => ?_
 clear hb
 refine q0b (e0) ?_
 refine VC.condF (by rfl) (by trivial) ?_
 refine q0b (e1) ?_
 refine VC.condF (by rfl) (by trivial) ?_
 refine q0b (e2) ?_
 refine VC.condF (by rfl) (by trivial) ?_
 refine q0b (e3) ?_
 refine VC.condF (by rfl) (by trivial) ?_
 refine q0a ?_
 refine ⟨.inr rfl, ?_⟩
 rw [Tryz.results291]
 simp only [q0n, resV, go_sem, simprocAttr]
 refine q18 ?_
 congr 2
 rw [Bool.eq_iff_iff]
 simp
 omega
theorem usec_told (x y : UInt8) : Told Tryz.prog 291 [.c (.v (.int .u8 (x.toNat : Int))), .c (.v (.int .u8 (y.toNat : Int)))] (.c (.v (.bool (usec x y)))) := by
 by_cases h0 : x.toNat = 224
 · exact j6m h0
 by_cases h1 : x.toNat = 237
 · exact j6n h0 h1
 by_cases h2 : x.toNat = 240
 · exact j6o h0 h1 h2
 by_cases h3 : x.toNat = 244
 · exact j6p h0 h1 h2 h3
 · exact j6q h0 h1 h2 h3

theorem cont_bits : ∀ x : Nat, x < 256 → ((IntKind.u8.wrap ((BitVec.ofInt IntKind.u8.bits ((x : Nat) : Int) &&& BitVec.ofInt IntKind.u8.bits 192).toNat : Int)) != 128) = !decide (128 ≤ x ∧ x < 192) := by decide +kernel
theorem cont_bit (x : UInt8) : ((IntKind.u8.wrap ((BitVec.ofInt IntKind.u8.bits (x.toNat : Int) &&& BitVec.ofInt IntKind.u8.bits 192).toNat : Int)) != 128) = !ucont x := cont_bits x.toNat x.toNat_lt
theorem pv_at {l : List UInt8} {i : Nat} (h : i < l.length) : (q1v l)[i]? = some [.v (.int .u8 ((q1y l i).toNat : Int))] := by
 unfold q1v q1y
 rw [List.getElem?_map, List.getElem?_eq_getElem h]
 rfl
def q23 (l : List UInt8) (p : Nat) : Nat := if uerr l p = 0 then p + ulen l p else p
theorem j6t (l : List UInt8) (p : Nat) (hp : p ≤ l.length) (hbig : l.length ≤ 9223372036854775000) : Told Tryz.prog 265 [.c (.sl 1 (q1v l)), .c (.v (.int .i64 (p : Int)))] (.tup [.any, .c (.v (.int .i64 (q23 l p : Int))), .c (.v (.int .i64 (uerr l p : Int)))]) := by
 have hlen : (q1v l).length = l.length := by simp [q1v]
 refine VC.told ent_265 Tryz.func265 rfl Tryz.ntmps265 (by simp) (by rfl) (by rfl) fun hb => ?_
 clear hb
 have e1 : ((p : Int) < 0) = False := eq_false (by omega)
 have e2 : ((p : Int) > (l.length : Int)) = False := eq_false (by omega)
 refine q0b (And.intro e1 (And.intro e2 hlen)) ?_
 refine VC.condF (by rfl) (by trivial) ?_
 refine q0b (hlen) ?_
 refine VC.cond (by rfl) (by trivial) (fun hc => ?_) (fun hc => ?_)
 · have he : p = l.length := by simp at hc; omega
   have hu : uerr l p = 10 := by unfold uerr; rw [if_neg (by omega)]
   have hn : q23 l p = p := by unfold q23; rw [if_neg (by omega)]
   rw [hu, hn]
   refine q0a ?_
   refine ⟨.inr rfl, ?_⟩
   rw [Tryz.results265]
   simp only [q0n, resV, go_sem, simprocAttr]
   exact ⟨.any _, .c _, .c _⟩
 have hlt : p < l.length := by simp at hc; omega
 clear hc
 obtain ⟨c0, hfirst⟩ := j6e (q1y l p)
 have hat := pv_at hlt
 refine q0b (And.intro hlen hat) ?_
 (refine AO.step fun K hK => ?_; simp only [go_sem, Int.reduceBEq, Int.reduceLE, Int.reduceLT, Int.reduceNeg, Nat.reduceAdd, Nat.reduceEqDiff, Nat.reduceLT, Nat.reduceLeDiff, Nat.reduceMul, Nat.reduceSub, reduceCtorEq, ↓reduceIte, hat]; (first | refine q0q ?_ | skip))
 refine .inl ⟨_, hfirst, hK _ _ _ ?_⟩
 clear hK K hfirst
 refine q0a ?_
 refine VC.cond (by rfl) (by trivial) (fun hc => ?_) (fun hc => ?_)
 · have hf : q1j (q1y l p) = 0 := by simp at hc; omega
   have hu : uerr l p = 11 := by unfold uerr; rw [if_pos hlt, if_pos hf]
   have hn : q23 l p = p := by unfold q23; rw [if_neg (by omega)]
   rw [hu, hn]
   refine q0a ?_
   refine ⟨.inr rfl, ?_⟩
   rw [Tryz.results265]
   simp only [q0n, resV, go_sem, simprocAttr]
   exact ⟨.any _, .c _, .c _⟩
 have hf : q1j (q1y l p) ≠ 0 := by simp at hc; omega
 clear hc
 have hue : uerr l p = q14 l p (q1j (q1y l p) - 1) := by unfold uerr; rw [if_pos hlt, if_neg hf]
 have hf4 : q1j (q1y l p) ≤ 4 := by unfold q1j; repeat' split <;> try omega
 obtain ⟨n, hn⟩ : ∃ n, n = q1j (q1y l p) := ⟨_, rfl⟩
 have hul : ulen l p = n := hn.symm
 rw [← hn] at hf hf4 hue
 refine q0b (hn.symm) ?_
 refine VC.loop (ι := {q : Nat × Int // 1 ≤ q.1 ∧ q.1 ≤ n ∧ q14 l p (q.1 - 1) = 0}) (fun q => [(0, .c (.sl 1 (q1v l))), (1, .c (.v (.int .i64 (p : Int)))), (4, .c (.v (.int .i32 q.1.2))), (7, .c (.v (.int .i64 (n : Int)))), (8, .c (.v (.int .i64 (q.1.1 : Int))))])
  (fun _ => []) 0 (fun q => n - q.1.1) ⟨(1, c0), Nat.le_refl _, by simp only []; omega, rfl⟩ ?_ ?_
 · simp only [← hn, Weak, eq_self, q07, q01, sc_c, q03, q04, q05, q00, q02, ScL, q06, List.forall_mem_map, go_sem, Int.reduceBEq, Int.reduceLE, Int.reduceLT, Int.reduceNeg, Nat.reduceAdd, Nat.reduceEqDiff, Nat.reduceLT, Nat.reduceLeDiff, Nat.reduceMul, Nat.reduceSub, reduceCtorEq, ↓reduceIte]
   all_goals first | rfl | exact cI (by omega)
 rintro ⟨⟨i, c⟩, hi1, hi2, hst⟩
 simp only [] at hi1 hi2 hst ⊢
 refine q0a ?_
 refine VC.cond (by rfl) (by trivial) (fun hc => ?_) (fun hc => ?_)
 · have hin : i < n := by simp at hc; omega
   clear hc
   have hw1 : IntKind.i64.wrap ((p : Int) + (i : Int)) = (p : Int) + (i : Int) := q1i (by omega) (by omega)
   have hw2 : IntKind.i64.wrap ((i : Int) + 1) = (i : Int) + 1 := q1i (by omega) (by omega)
   refine q0b (And.intro hlen hw1) ?_
   refine VC.cond (by rfl) (by trivial) (fun hc => ?_) (fun hc => ?_)
   · have hpi : p + i = l.length := by simp at hc; omega
     have hsp : q24 l p i = 10 := by unfold q24; rw [if_neg (by omega)]
     have hu : uerr l p = 10 := by rw [hue, j4k hi1 hin hst (by omega), hsp]
     have hnx : q23 l p = p := by unfold q23; rw [if_neg (by omega)]
     rw [hu, hnx]
     refine q0a ?_
     refine ⟨.inr rfl, ?_⟩
     rw [Tryz.results265]
     simp only [q0n, resV, go_sem, simprocAttr]
     exact ⟨.any _, .c _, .c _⟩
   have hpi : p + i < l.length := by
    have : p + i ≠ l.length := by simp at hc; omega
    have hall : p + i ≤ l.length := by
     have h0 := hst
     cases hi : i with
     | zero => omega
     | succ k =>
       rw [hi] at h0
       cases k with
       | zero => omega
       | succ k =>
         simp only [Nat.add_sub_cancel, q14] at h0
         split at h0
         · unfold q24 at h0
           split at h0
           · omega
           · simp at h0
         · rename_i h1; exact absurd h0 h1
    omega
   clear hc
   have hat2 := pv_at hpi
   have hti : ((p : Int) + (i : Int)).toNat = p + i := by omega
   have hsec := usec_told (q1y l p) (q1y l (p + i))
   have hcb := cont_bit (q1y l (p + i))
   (try simp only [go_sem, Int.reduceBEq, Int.reduceLE, Int.reduceLT, Int.reduceNeg, Nat.reduceAdd, Nat.reduceEqDiff, Nat.reduceLT, Nat.reduceLeDiff, Nat.reduceMul, Nat.reduceSub, reduceCtorEq, ↓reduceIte] at hcb)
   refine q0b (And.intro hlen (And.intro hw1 (And.intro hti (And.intro hat2 (And.intro hat hcb))))) ?_
   (refine AO.step fun K hK => ?_; simp only [go_sem, Int.reduceBEq, Int.reduceLE, Int.reduceLT, Int.reduceNeg, Nat.reduceAdd, Nat.reduceEqDiff, Nat.reduceLT, Nat.reduceLeDiff, Nat.reduceMul, Nat.reduceSub, reduceCtorEq, ↓reduceIte, hat, hcb]; (first | refine q0q ?_ | skip))
   refine .inl ⟨_, fun _ => hsec, hK _ _ _ ?_⟩
   clear hK K hsec
   refine q0a ?_
   refine VC.cond (by rfl) (by trivial) (fun hc => ?_) (fun hc => ?_)
   · have hsp : q24 l p i = 11 := by
      unfold q24
      rw [if_pos hpi, if_neg]
      simp at hc
      rintro ⟨g1, g2⟩
      rcases hc with hc | hc
      · simp [hc] at g1
      · have := g2 (by omega)
        simp_all
     have hu : uerr l p = 11 := by rw [hue, j4k hi1 hin hst (by omega), hsp]
     have hnx : q23 l p = p := by unfold q23; rw [if_neg (by omega)]
     rw [hu, hnx]
     refine q0a ?_
     refine ⟨.inr rfl, ?_⟩
     rw [Tryz.results265]
     simp only [q0n, resV, go_sem, simprocAttr]
     exact ⟨.any _, .c _, .c _⟩
   · have hsp : q24 l p i = 0 := by
      unfold q24
      rw [if_pos hpi, if_pos]
      simp at hc
      refine ⟨hc.1, fun h1 => ?_⟩
      exact hc.2 (by omega)
     have hst2 : q14 l p i = 0 := by
      cases hi : i with
      | zero => omega
      | succ k =>
        rw [hi] at hst hsp
        exact j6s (by simpa using hst) hsp
     clear hc
     refine q0b (hw2) ?_
     apply RQ.next ⟨(i + 1, _), by simp only []; omega, by simp only []; omega, by simpa using hst2⟩
     · refine q4k ?_
       exact ⟨rfl, cI (by omega)⟩
     · simp only []; omega
 · have hin : i = n := by simp at hc; omega
   subst hin
   have hu : uerr l p = 0 := by rw [hue, hst]
   have hnx : q23 l p = p + i := by unfold q23; rw [if_pos hu, hul]
   have hbd := j03 hu
   have hw1 : IntKind.i64.wrap ((p : Int) + (i : Int)) = ((p + i : Nat) : Int) := by rw [q1i (by omega) (by omega)]; omega
   rw [hu, hnx]
   refine q0b (hw1) ?_
   refine ⟨.inr rfl, ?_⟩
   rw [Tryz.results265]
   simp only [q0n, resV, go_sem, simprocAttr]
   exact ⟨.any _, .c _, .c _⟩

theorem j6d (l : List UInt8) (hbig : l.length ≤ 9223372036854775000) : Told Tryz.prog 219 [.c (.sl 1 (q1v l))] (.tup [.c (.v (.int .i64 ((uCnt l 0 0).1 : Int))), .c (.v (.int .i64 ((uCnt l 0 0).2 : Int)))]) := by
 have hlen : (q1v l).length = l.length := by simp [q1v]
 refine VC.toldP ent_219 Tryz.func219 rfl Tryz.ntmps219 fun hb => ?_
 clear hb
 obtain ⟨V, hV⟩ : ∃ V, V = uCnt l 0 0 := ⟨_, rfl⟩
 rw [← hV]
 refine q0a ?_
 refine VC.loop (ι := {q : Nat × Nat // q.1 ≤ l.length ∧ q.2 ≤ q.1 ∧ uCnt l q.1 q.2 = V}) (fun q => [(0, .c (.sl 1 (q1v l))), (4, .c (.v (.int .i64 (q.1.2 : Int)))), (5, .c (.v (.int .i64 (q.1.1 : Int))))]) (fun _ => []) 0 (fun q => l.length - q.1.1) ⟨(0, 0), Nat.zero_le _, Nat.le_refl _, hV.symm⟩ ?_ ?_
 · simp only [Weak, eq_self, q07, q01, sc_c, q03, q04, q05, q00, q02, ScL, q06, List.forall_mem_map, go_sem, Int.reduceBEq, Int.reduceLE, Int.reduceLT, Int.reduceNeg, Nat.reduceAdd, Nat.reduceEqDiff, Nat.reduceLT, Nat.reduceLeDiff, Nat.reduceMul, Nat.reduceSub, reduceCtorEq, ↓reduceIte]
   all_goals rfl
 rintro ⟨⟨p, k⟩, hp, hk, hu⟩
 simp only [] at hp hk hu ⊢
 refine q0b (hlen) ?_
 refine VC.cond (by rfl) (by trivial) (fun hc => ?_) (fun hc => ?_)
 · have hlt : p < l.length := by simp at hc; omega
   have ht := j6t l p hp hbig
   have hw : IntKind.i64.wrap ((k : Int) + 1) = (k : Int) + 1 := q1i (by omega) (by omega)
   refine q0b (hlen) ?_
   refine q0k (ht) ?_
   refine q0a ?_
   refine VC.cond (by rfl) (by trivial) (fun he => ?_) (fun he => ?_)
   · have h2 : uerr l p ≠ 0 := by simpa using he
     rw [uCnt_bad hlt h2] at hu
     subst hu
     refine q0a ?_
     refine retX Tryz.results219 ?_
     exact ⟨.c _, .c _⟩
   · have h2 : uerr l p = 0 := by simpa using he
     obtain ⟨h3, h4⟩ := j03 h2
     have hn : q23 l p = p + ulen l p := by unfold q23; rw [if_pos h2]
     rw [j4h hlt h2] at hu
     refine q0b (And.intro hw hn) ?_
     refine .next ⟨(p + ulen l p, k + 1), h4, by simp only []; omega, hu⟩ ?_ (by simp only []; omega)
     refine q4k ?_
     exact cI (by omega)
 · have hge : ¬ p < l.length := by simp at hc; omega
   rw [j02 hge] at hu
   subst hu
   refine q0a ?_
   refine retX Tryz.results219 ?_
   exact ⟨.c _, .c _⟩
theorem j4j (l : List UInt8) (hbig : l.length ≤ 9223372036854775000) : Told Tryz.prog 157 [.c (.sl 1 (q1v l))] (.c (.v (.bool (q1m l)))) := by
 have h := j6d l hbig
 refine VC.toldP ent_157 Tryz.func157 rfl Tryz.ntmps157 fun hb => ?_
 clear hb
 refine q0a ?_
 refine q0k (h) ?_
 refine q0a ?_
 refine retX Tryz.results157 ?_
 exact q18 (by unfold q1m; congr 2; rw [Bool.eq_iff_iff]; simp)

mutual
def JT.sm (N : Nat) : JT → Prop
 | .mk k n s ks xs => s.length ≤ N ∧ ks.length ≤ N ∧ (∀ y ∈ ks, y.length ≤ N) ∧ xs.length ≤ N ∧ JT.smL N xs
def JT.smL (N : Nat) : List JT → Prop
 | [] => True
 | x :: xs => x.sm N ∧ JT.smL N xs
end
theorem smL_mem {N : Nat} : ∀ {xs : List JT}, JT.smL N xs → ∀ x ∈ xs, x.sm N
 | x :: xs, h, y, hy => by
   rcases List.mem_cons.1 hy with rfl | hy
   · exact h.1
   · exact smL_mem h.2 y hy
def q2t : JT → Bool
 | .mk k n s ks xs =>
   if k = 1 then (n == 0) && s.isEmpty && xs.isEmpty else if k = 2 then (n == 0 || n == 1) && s.isEmpty && xs.isEmpty else if k = 3 then s.isEmpty && xs.isEmpty
   else if k = 4 then (n == 0) && xs.isEmpty && q1m s else if k = 5 ∨ k = 6 then (n == 0) && s.isEmpty else false
theorem q47 (s : List UInt8) : (!((str s).toList == (⟨#[]⟩ : ByteArray).toList)) = !s.isEmpty := by
 rw [q1u, show (⟨#[]⟩ : ByteArray) = str [] from rfl, q1u]
 cases s <;> rfl
theorem nn_eq (n m : Int) : (!(n != m)) = (n == m) := by cases h : n == m <;> simp_all [bne]
theorem j5l (t : JT) (ht : t.sm 140737488355328) : Told Tryz.prog 113 [t.av] (.c (.v (.bool (q2t t)))) := by
 cases t with
 | mk k n s ks xs =>
 have hs : s.length ≤ 140737488355328 := ht.1
 have hR := j4j s (by omega)
 refine VC.told ent_113 Tryz.func113 rfl Tryz.ntmps113 (by simp) rfl rfl fun hb => ?_
 clear hb
 have g1 : decide ((xs.length : Int) > 0) = !xs.isEmpty := by cases xs <;> simp <;> omega
 refine q0b (And.intro @JT.av_eq (And.intro @q1e (And.intro @q47 g1))) ?_
 refine VC.cond (by rfl) (by trivial) (fun h1 => ?_) (fun h1 => ?_)
 · refine q0a ?_
   refine retX Tryz.results113 ?_
   refine q18 ?_
   simp only [beq_iff_eq] at h1
   simp only [q2t, h1, if_true, nn_eq, q4o, Bool.not_not]
 refine q0b (And.intro @JT.av_eq @q1e) ?_
 refine VC.cond (by rfl) (by trivial) (fun h2 => ?_) (fun h2 => ?_)
 · refine q0b (And.intro @q1e (And.intro @q47 g1)) ?_
   refine retX Tryz.results113 ?_
   refine q18 ?_
   obtain rfl : k = 2 := by simpa using h2
   simp [q2t]
 refine q0b (And.intro @JT.av_eq @q1e) ?_
 refine VC.cond (by rfl) (by trivial) (fun h3 => ?_) (fun h3 => ?_)
 · refine q0b (And.intro @q1e (And.intro @q47 g1)) ?_
   refine retX Tryz.results113 ?_
   refine q18 ?_
   obtain rfl : k = 3 := by simpa using h3
   simp [q2t]
 refine q0b (And.intro @JT.av_eq @q1e) ?_
 refine VC.cond (by rfl) (by trivial) (fun h4 => ?_) (fun h4 => ?_)
 · obtain rfl : k = 4 := by simpa using h4
   refine q0b (And.intro @q1e (And.intro @q47 (And.intro g1 (And.intro @q1t hs)))) ?_
   refine q6m (@q5z) (hR) ?_
   refine q0a ?_
   refine retX Tryz.results113 ?_
   refine q18 ?_
   simp only [q2t, nn_eq, q4o, Bool.not_not]
   simp
 refine q0b (And.intro @JT.av_eq @q1e) ?_
 refine VC.cond (by rfl) (by trivial) (fun h5 => ?_) (fun h5 => ?_)
 · obtain rfl : k = 5 := by simpa using h5
   refine q0b (@q1e) ?_
   refine VC.condT (by rfl) (by trivial) ?_
   refine q0b (And.intro @q1e (And.intro @q47 g1)) ?_
   refine retX Tryz.results113 ?_
   refine q18 ?_
   simp only [q2t, nn_eq, q4o, Bool.not_not]
   simp
 refine q0b (And.intro @JT.av_eq @q1e) ?_
 refine VC.cond (by rfl) (by trivial) (fun h6 => ?_) (fun h6 => ?_)
 · obtain rfl : k = 6 := by simpa using h6
   refine q0b (And.intro @q1e (And.intro @q47 g1)) ?_
   refine retX Tryz.results113 ?_
   refine q18 ?_
   simp only [q2t, nn_eq, q4o, Bool.not_not]
   simp
 · refine q0b (And.intro @q1e (And.intro @q47 g1)) ?_
   refine retX Tryz.results113 ?_
   refine q18 ?_
   simp only [beq_eq_false_iff_ne] at h1 h2 h3 h4 h5 h6
   simp [q2t, h1, h2, h3, h4, h5, h6]
section
open Go.RowKit Go.Sort
theorem j6w (l : List (List UInt8)) : Told Tryz.prog 159 [.c (.sl 1 (l.map sPV))] (.fn (.func 222) [] [.pp [.sl 1 (l.map sPV)]]) := by
 refine VC.toldP ent_159 Tryz.func159 rfl Tryz.ntmps159 fun hb => ?_
 clear hb
 refine q0a ?_
 refine retX Tryz.results159 ?_
 exact .fnL .nil (.cons (.refP (es := [.sl 1 (l.map sPV)]) rfl rfl rfl rfl rfl) .nil)
theorem j48 (l : List (List UInt8)) (hl : l.length ≤ 4294967296) : ToldM Tryz.prog 220 [.fn (.func 222) [] [.pp [.sl 1 (l.map sPV)]]] [] [some (sB l)] (.row 1000000 l.length) := by
 have h := j4x l hl
 unfold sB at h ⊢
 refine VC.toldXF (And.intro @q2b @sA_sc) ent_220 [16] Tryz.func220 rfl Tryz.ntmps220 fun hb hbL => ?_
 clear hb hbL
 refine q0a ?_
 refine q0p (@q22) [] (h) ?_
 refine q0b (And.intro @q22 @q2b) ?_
 refine q1r (And.intro @q22 @q2b) Tryz.results220 ?_
 exact .keepW rfl
theorem j6a (l : List (List UInt8)) (hl : l.length ≤ 4294967296) : ToldM Tryz.prog 158 [.fn (.func 222) [] [.pp [.sl 1 (l.map sPV)]]] [] [some (sB (srt l))] (.row 1000000 l.length) := by
 have h := j48 l hl
 have h2 := sort_told l hl
 have hsl := q34 l
 unfold sB at h h2 ⊢
 refine VC.toldXF (And.intro @q2b (And.intro @sA_sc hsl)) ent_158 [16] Tryz.func158 rfl Tryz.ntmps158 fun hb hbL => ?_
 clear hb hbL
 refine q0a ?_
 refine q0p (@q22) [] (h) ?_
 refine q0b (And.intro @q22 @q2b) ?_
 refine q0p (@q22) [16] (h2) ?_
 refine q0b (And.intro @q22 @q2b) ?_
 refine q1r (And.intro @q22 @q2b) Tryz.results158 ?_
 exact .keepW rfl
theorem j5n (s : List UInt8) (hs : s.length ≤ 140737488355328) : Told Tryz.prog 160 [.c (.v (.string (str s)))] (.c (.v (.bool (!q1m s)))) := by
 have h := j4j s (by omega)
 refine VC.toldP ent_160 Tryz.func160 rfl Tryz.ntmps160 fun hb => ?_
 clear hb
 refine q0b (And.intro @q1t hs) ?_
 refine q35 (@q5z) (h) ?_
 refine q0a ?_
 refine retX Tryz.results160 ?_
 exact .c _
def q4c : JT → Bool
 | .mk k n s ks xs => if k ≠ 6 then ks.isEmpty else decide (ks.length = xs.length) && (decide ((Lib.compact (srt ks)).length = ks.length) && ks.all q1m)
theorem j5m (t : JT) (ht : t.sm 4294967296) : Told Tryz.prog 114 [t.av] (.c (.v (.bool (q4c t)))) := by
 cases t with
 | mk k n s ks xs =>
 obtain ⟨_, hk, hks, _, _⟩ := ht
 have hV := j6w ks
 have hS := j6a ks hk
 have hC := j5b (srt ks) (by rw [q34]; exact hk)
 have hF := cnfS_told (g := 160) (fs := []) (cs := []) rfl rfl ks (fun s => !q1m s) fun s hs => j5n s (by have := hks s hs; omega)
 unfold sB at hS hC
 rw [q34] at hC
 refine VC.told ent_114 Tryz.func114 rfl Tryz.ntmps114 (by simp) rfl rfl fun hb => ?_
 clear hb
 refine q0b (And.intro @JT.av_eq @q1e) ?_
 refine VC.cond (by rfl) (by trivial) (fun h6 => ?_) (fun h6 => ?_)
 · refine q0b (@q1e) ?_
   refine retX Tryz.results114 ?_
   refine q18 ?_
   simp only [bne_iff_ne] at h6
   simp only [q4c]
   rw [if_pos h6]
   cases ks <;> simp <;> omega
 · refine q0b (@q1e) ?_
   refine q0k (hV) ?_
   refine q0a ?_
   refine q0p (@q22) [] (hS) ?_
   simp only [bne_eq_false_iff_eq] at h6
   subst h6
   by_cases hkx : ks.length = xs.length
   · have hg : ((ks.length : Int) == (xs.length : Int)) = true := by simp [hkx]
     refine q0b (And.intro @q22 (And.intro @q2b (And.intro @q1e hg))) ?_
     refine q0p (And.intro @q22 (And.intro @q2b @q34)) [64] (hC) ?_
     refine q0b (And.intro @q22 (And.intro @q2b (And.intro @q1e hg))) ?_
     refine q6m (@q1e) (hF) ?_
     refine q0a ?_
     refine retX Tryz.results114 ?_
     refine q18 ?_
     have e1 : (!ks.any fun s => !q1m s) = ks.all q1m := by rw [List.not_any_eq_all_not]; simp
     have e2 : (((Lib.compact (srt ks)).length : Int) == (ks.length : Int)) = decide ((Lib.compact (srt ks)).length = ks.length) := by
      rw [Bool.eq_iff_iff]
      simp
      omega
     rw [e1, e2]
     simp [q4c, hkx]
   · have hg : ((ks.length : Int) == (xs.length : Int)) = false := by simp; omega
     refine q0b (And.intro @q22 (And.intro @q2b (And.intro @q1e hg))) ?_
     refine retX Tryz.results114 ?_
     refine q18 ?_
     simp [q4c, hkx]
end

theorem ixfJ_told {g : FuncId} {fs cs : List AV} (hp : AV.pureL fs = true) (hp' : AV.pureL cs = true) (l : List (JT)) (p : JT → Bool) (hk : ∀ x ∈ l, Told Tryz.prog g (fs ++ ([x.av] ++ cs)) (.c (.v (.bool (p x))))) :
  Told Tryz.prog 162 [.c (.sl 5 (l.map JT.cells)), .fn (.func g) fs cs] (.c (.v (.int .i64 (idxP p l)))) := by
 refine VC.told ent_162 Tryz.func162 rfl Tryz.ntmps162 (by simp) (by simp [AV.pureB, AV.pureL, hp, hp']) rfl fun hb => ?_
 simp only [List.mem_cons, List.not_mem_nil, or_false, forall_eq_or_imp, forall_eq, q3m, q3w, List.length_map] at hb
 have h1 := hb.1.1
 clear hb
 refine q0a ?_
 refine VC.loop (ι := {i : Nat // i ≤ l.length ∧ ∀ j x, j < i → l[j]? = some x → p x = false}) (fun i => [(0, .c (.sl 5 (l.map JT.cells))), (1, .fn (.func g) fs cs), (7, .c (.v (.int .i64 l.length))), (8, .c (.v (.int .i64 i.1)))]) (fun _ => []) 0 (fun i => l.length - i.1) ⟨0, Nat.zero_le _, by intro j x hj; omega⟩ ?_ ?_
 · simp only [q2o hp, q2o hp', Weak, eq_self, q07, q01, sc_c, q03, q04, q05, q00, q02, ScL, q06, List.forall_mem_map, go_sem, Int.reduceBEq, Int.reduceLE, Int.reduceLT, Int.reduceNeg, Nat.reduceAdd, Nat.reduceEqDiff, Nat.reduceLT, Nat.reduceLeDiff, Nat.reduceMul, Nat.reduceSub, reduceCtorEq, ↓reduceIte]
   all_goals rfl
 rintro ⟨i, hi, ht⟩
 refine q0a ?_
 refine VC.cond (by rfl) (by trivial) (fun hc => ?_) (fun hc => ?_)
 · simp only [decide_eq_true_eq] at hc
   obtain ⟨x, hx⟩ : ∃ x, l[i]? = some x := ⟨l[i]'(by omega), List.getElem?_eq_getElem _⟩
   have hw : IntKind.i64.wrap ((i : Int) + 1) = (i : Int) + 1 := q1i (by omega) (by omega)
   have hkx := hk x (List.mem_of_getElem? hx)
   (repeat (first | refine pass ?_ | refine VC.region (by rfl) (by rfl) ?_ | (refine AO.step fun K hK => ?_; simp only [List.getElem?_map, hx, JT.av, q12, q2r, q2h, go_sem, Int.reduceBEq, Int.reduceLE, Int.reduceLT, Int.reduceNeg, Nat.reduceAdd, Nat.reduceEqDiff, Nat.reduceLT, Nat.reduceLeDiff, Nat.reduceMul, Nat.reduceSub, reduceCtorEq, ↓reduceIte]; (first | refine q10 ?_ | refine q0q ?_ | skip); (first | refine hK _ _ _ ?_ | refine ⟨by first | omega | exact ⟨_, rfl, rfl⟩ | exact fun _ => ⟨_, rfl, rfl⟩ | (intro h; simp only [List.getElem?_map, hx, JT.av, q12, q2r, q2h, h, true_and]; omega) | (clear hK; intro h; simp_all <;> omega), hK _ _ _ ?_⟩); clear hK K) | refine VC.draw mixP (by rfl) (by rfl) ?_ | refine ⟨q13 (by kernel_rfl), ?_⟩ | refine BQ.other (by decide) ?_ | refine VC.seq ?_ | refine AO.nil ?_ | refine VC.block ?_))
   ((refine AO.step fun K hK => ?_; simp only [go_sem, Int.reduceBEq, Int.reduceLE, Int.reduceLT, Int.reduceNeg, Nat.reduceAdd, Nat.reduceEqDiff, Nat.reduceLT, Nat.reduceLeDiff, Nat.reduceMul, Nat.reduceSub, reduceCtorEq, ↓reduceIte, JT.av, q12, q2r, q2h, hp, hp', q7g, q2a, List.append_assoc]; (first | refine q0q ?_ | skip)); refine .inl ⟨_, hkx, hK _ _ _ ?_⟩; clear hK K)
   refine q0a ?_
   refine VC.cond (by rfl) (by trivial) (fun hpx => ?_) (fun hpx => ?_)
   · have hr := q8p hx hpx ht
     refine q0a ?_
     refine retX Tryz.results162 ?_
     rw [hr]
     exact .c _
   · refine q0b (hw) ?_
     refine .next ⟨i + 1, by omega, fun j y hj hy => ?_⟩ ?_ (by simp only []; omega)
     · rcases Nat.lt_or_ge j i with h | h
       · exact ht j y h hy
       · obtain rfl : j = i := by omega
         rw [hx] at hy
         obtain rfl := Option.some.inj hy
         exact hpx
     simp only [q2o hp, q2o hp', Weak, eq_self, q07, q01, sc_c, q03, q04, q05, q00, q02, ScL, q06, List.forall_mem_map, go_sem, Int.reduceBEq, Int.reduceLE, Int.reduceLT, Int.reduceNeg, Nat.reduceAdd, Nat.reduceEqDiff, Nat.reduceLT, Nat.reduceLeDiff, Nat.reduceMul, Nat.reduceSub, reduceCtorEq, ↓reduceIte]
     exact cI (by omega)
 · simp only [decide_eq_false_iff_not] at hc
   obtain rfl : i = l.length := by omega
   have hr := q8q ht
   refine q0a ?_
   refine retX Tryz.results162 ?_
   rw [hr]
   exact .c _
theorem cnfJ_told {g : FuncId} {fs cs : List AV} (hp : AV.pureL fs = true) (hp' : AV.pureL cs = true) (l : List (JT)) (p : JT → Bool) (hk : ∀ x ∈ l, Told Tryz.prog g (fs ++ ([x.av] ++ cs)) (.c (.v (.bool (p x))))) :
  Told Tryz.prog 115 [.c (.sl 5 (l.map JT.cells)), .fn (.func g) fs cs] (.c (.v (.bool (l.any p)))) := by
 have hi := ixfJ_told hp hp' l p hk
 refine VC.told ent_115 Tryz.func115 rfl Tryz.ntmps115 (by simp) (by simp [AV.pureB, AV.pureL, hp, hp']) rfl fun hb => ?_
 clear hb
 refine q0a ?_
 refine q35 (And.intro hp hp') (hi) ?_
 refine q0a ?_
 refine retX Tryz.results115 ?_
 exact q18 (by rw [j2j])

def JT.kids : JT → List JT
 | .mk _ _ _ _ xs => xs
mutual
theorem sm_le {N M : Nat} (h : N ≤ M) : ∀ t : JT, t.sm N → t.sm M
 | .mk k n s ks xs => fun ⟨h1, h2, h3, h4, h5⟩ => ⟨Nat.le_trans h1 h, Nat.le_trans h2 h, fun y hy => Nat.le_trans (h3 y hy) h, Nat.le_trans h4 h, smL_le h xs h5⟩
theorem smL_le {N M : Nat} (h : N ≤ M) : ∀ xs : List JT, JT.smL N xs → JT.smL M xs
 | [] => fun _ => trivial
 | x :: xs => fun hx => ⟨sm_le h x hx.1, smL_le h xs hx.2⟩
end
mutual
def q3h (d : Nat) : JT → Bool
 | .mk k n s ks xs => q2t (.mk k n s ks xs) && q4c (.mk k n s ks xs) && !(decide (32 ≤ d) && (decide (k = 5) || decide (k = 6))) && q4d (d + 1) xs
def q4d (d : Nat) : List JT → Bool
 | [] => true
 | x :: xs => q3h d x && q4d d xs
end
theorem j2s (d : Nat) : ∀ xs : List JT, (!xs.any fun x => !q3h d x) = q4d d xs
 | [] => rfl
 | x :: xs => by rw [q4d, ← j2s d xs]; simp
theorem j50 {x : JT} {z : Int} {b : Bool} (h0 : 0 ≤ z) (h1 : z ≤ 32) (h : Told Tryz.prog 69 [x.av, .c (.v (.int .i64 (z + 1)))] (.c (.v (.bool b)))) : Told Tryz.prog 116 [x.av, .pp [.v (.int .i64 z)]] (.c (.v (.bool (!b)))) := by
 have hw : IntKind.i64.wrap (z + 1) = z + 1 := q1i (by omega) (by omega)
 refine VC.told ent_116 Tryz.func116 rfl Tryz.ntmps116 (by simp) (by simp [AV.pureB, AV.pureL, JT.av, q2a]) rfl fun hb => ?_
 clear hb
 refine q0b (And.intro @JT.av_eq (And.intro @q12 (And.intro @q2r (And.intro @q2h hw)))) ?_
 refine q35 (And.intro @JT.av_eq (And.intro @q12 (And.intro @q2r (And.intro @q2h (And.intro hw @q2a))))) (h) ?_
 refine q0a ?_
 refine retX Tryz.results116 ?_
 exact .c _
theorem j1s {k n : Int} {s : List UInt8} {ks : List (List UInt8)} {xs : List JT} (h : q2t (.mk k n s ks xs) = true) (h5 : k ≠ 5) (h6 : k ≠ 6) : xs = [] := by
 rw [q2t] at h
 split at h
 · simp at h; exact h.2
 · split at h
   · simp at h; exact h.2
   · split at h
     · simp at h; exact h.2
     · split at h
       · simp at h; exact h.1.2
       · rw [if_neg (by simp [h5, h6])] at h
         exact absurd h (by simp)
theorem j51 : ∀ (m : Nat) (t : JT), SizeOf.sizeOf t ≤ m → t.sm 4294967296 → ∀ (d : Nat) (z : Int), d ≤ 32 → z = (d : Int) → Told Tryz.prog 69 [t.av, .c (.v (.int .i64 z))] (.c (.v (.bool (q3h d t)))) := by
 intro m
 induction m with
 | zero => intro t ht; cases t; simp at ht
 | succ m ih =>
 intro t ht hsm d z hd hz
 have hB := j5l t (sm_le (by omega) t hsm)
 have hKy := j5m t hsm
 have hx : ∀ x ∈ t.kids, Told Tryz.prog 69 [x.av, .c (.v (.int .i64 (z + 1)))] (.c (.v (.bool (q3h (d + 1) x)))) ∨ 32 ≤ d := by
  intro x hx
  by_cases h32 : 32 ≤ d
  · exact .inr h32
  · cases t with
    | mk k n s ks xs => exact .inl (ih x (by have := List.sizeOf_lt_of_mem (show x ∈ xs from hx); simp at ht; omega) (smL_mem hsm.2.2.2.2 x hx) (d + 1) (z + 1) (by omega) (by omega))
 clear ih ht hsm
 obtain ⟨V, hV⟩ : ∃ V, V = q3h d t := ⟨_, rfl⟩
 rw [← hV]
 cases t with
 | mk k n s ks xs =>
 rw [q3h] at hV
 replace hx : ∀ x ∈ xs, _ := hx
 obtain ⟨b1, hb1⟩ : ∃ b1, b1 = q2t (.mk k n s ks xs) := ⟨_, rfl⟩
 obtain ⟨b2, hb2⟩ : ∃ b2, b2 = q4c (.mk k n s ks xs) := ⟨_, rfl⟩
 rw [← hb1] at hB hV
 rw [← hb2] at hKy hV
 simp only [JT.av, q1e, List.map_cons, List.map_nil] at hB hKy
 refine VC.told ent_69 Tryz.func69 rfl Tryz.ntmps69 (by simp) rfl rfl fun hb => ?_
 clear hb
 refine q0b (And.intro @JT.av_eq @q1e) ?_
 refine q35 (And.intro @JT.av_eq @q1e) (hB) ?_
 refine q0b (And.intro @JT.av_eq @q1e) ?_
 refine q6m (And.intro @JT.av_eq @q1e) (hKy) ?_
 refine q0b (And.intro @JT.av_eq @q1e) ?_
 refine VC.cond (by rfl) (by trivial) (fun hc => ?_) (fun hc => ?_)
 · have hVf : V = false := by
    rw [hV]
    cases b1 <;> cases b2 <;> simp_all
    omega
   rw [hVf]
   refine q0a ?_
   refine retX Tryz.results69 ?_
   exact .c _
 · have hb12 : b1 = true ∧ b2 = true ∧ (32 ≤ d → k ≠ 5 ∧ k ≠ 6) := by
    cases b1 <;> cases b2 <;> simp_all
    intro h32
    exact hc (by omega)
   obtain ⟨rfl, rfl, hk56⟩ := hb12
   have hx2 : ∀ x ∈ xs, Told Tryz.prog 69 [x.av, .c (.v (.int .i64 (z + 1)))] (.c (.v (.bool (q3h (d + 1) x)))) := by
    intro x hxm
    rcases hx x hxm with h | h
    · exact h
    · obtain ⟨h5, h6⟩ := hk56 h
      rw [j1s hb1.symm h5 h6] at hxm
      simp at hxm
   have hVt : V = q4d (d + 1) xs := by
    rw [hV]
    by_cases h32 : 32 ≤ d
    · obtain ⟨h5, h6⟩ := hk56 h32
      simp [h5, h6]
    · simp [h32]
   have hF := cnfJ_told (g := 116) (fs := []) (cs := [.pp [.v (.int .i64 z)]]) rfl rfl xs (fun x => !q3h (d + 1) x) fun x hxm => j50 (by omega) (by omega) (hx2 x hxm)
   refine VC.skip ?_; refine SQ.normal ?_
   refine VC.frz [8] [(2, .ref 0 1 0 0), (3, .pp [.v (.int .i64 z)])] [(0, ⟨false, 25, 5, [(JT.mk k n s ks xs).cells.map .c]⟩)] 400 ?_ ?_
   · simp only [q1e, WeakF, q07, q01, sc_c, q03, q04, q05, q00, q02, ScL, q06, List.forall_mem_map, go_sem, Int.reduceBEq, Int.reduceLE, Int.reduceLT, Int.reduceNeg, Nat.reduceAdd, Nat.reduceEqDiff, Nat.reduceLT, Nat.reduceLeDiff, Nat.reduceMul, Nat.reduceSub, reduceCtorEq, ↓reduceIte]
     exact ⟨⟨.same _, .ref (es := [.v (.int .i64 z)]) (by simp) rfl rfl rfl rfl⟩, .same _⟩
   refine q0b (@q1e) ?_
   refine q35 (@q1e) (hF) ?_
   refine q0a ?_
   refine retX Tryz.results69 ?_
   rw [hVt, ← j2s]
   exact .c _
def jR (t : JT) : Bool := q3h 0 t
theorem j2n (t : JT) (ht : t.sm 4294967296) : Told Tryz.prog 34 [t.av] (.c (.v (.bool (jR t)))) := by
 have h := j51 _ t (Nat.le_refl _) ht 0 0 (by omega) rfl
 refine VC.told ent_34 Tryz.func34 rfl Tryz.ntmps34 (by simp) (by simp [AV.pureB, AV.pureL, JT.av, q2a]) rfl fun hb => ?_
 clear hb
 refine q0b (And.intro @JT.av_eq (And.intro @q12 (And.intro @q2r @q2h))) ?_
 refine q35 (And.intro @JT.av_eq (And.intro @q12 (And.intro @q2r (And.intro @q2h @q2a)))) (h) ?_
 refine q0a ?_
 refine retX Tryz.results34 ?_
 exact .c _

theorem nodup_of {ks : List (List UInt8)} (h : (Lib.compact (srt ks)).length = ks.length) : ks.Nodup := by
 have hperm : (srt ks).Perm ks := List.mergeSort_perm ks _
 have hlen := q34 ks
 have hsort : (srt ks).Pairwise fun a b => a ≤ b := by
  have := List.pairwise_mergeSort (le := fun x y : List UInt8 => decide (x ≤ y)) (fun a b c h1 h2 => by simp only [decide_eq_true_eq] at h1 h2 ⊢; exact List.le_trans h1 h2) (fun a b => by simp only [Bool.or_eq_true, decide_eq_true_eq]; exact List.le_total a b) ks
  exact this.imp fun h => by simpa using h
 generalize srt ks = L at h hperm hlen hsort
 refine hperm.nodup_iff.1 ?_
 have hk : ∀ j, j < L.length → Lib.keeps L.toArray j = true := by
  rw [← hlen] at h
  unfold Lib.compact Lib.compactUpTo at h
  rw [List.length_map] at h
  have h2 : ((List.range L.length).filter (Lib.keeps L.toArray)).length = (List.range L.length).length := by rw [h, List.length_range]
  intro j hj
  exact List.length_filter_eq_length_iff.1 h2 j (List.mem_range.2 hj)
 rw [List.nodup_iff_pairwise_ne, List.pairwise_iff_getElem]
 intro i j hi hj hij heq
 have h1 := List.pairwise_iff_getElem.1 hsort
 have hk1 := hk (i + 1) (by omega)
 have hle1 := h1 i (i + 1) hi (by omega) (by omega)
 have hle2 : L[i + 1]'(by omega) ≤ L[j] := by
  rcases Nat.lt_or_ge (i + 1) j with h2 | h2
  · exact h1 (i + 1) j (by omega) hj h2
  · have : i + 1 = j := by omega
    subst this
    exact List.le_refl _
 rw [← heq] at hle2
 have he := List.le_antisymm hle1 hle2
 unfold Lib.keeps at hk1
 have g1 : L.toArray[i + 1]! = L[i + 1]'(by omega) := by simp [show i + 1 < L.length by omega]
 have g2 : L.toArray[i + 1 - 1]! = L[i] := by simp [hi]
 rw [g1, g2, he] at hk1
 simp at hk1
theorem j5a {ks : List (List UInt8)} (h : ks.Nodup) : (Lib.compact (srt ks)).length = ks.length := by
 have hperm : (srt ks).Perm ks := List.mergeSort_perm ks _
 have hlen := q34 ks
 have hnd := hperm.nodup_iff.2 h
 generalize srt ks = L at hperm hlen hnd ⊢
 have hk : ∀ j, j < L.length → Lib.keeps L.toArray j = true := by
  intro j hj
  unfold Lib.keeps
  by_cases h0 : j = 0
  · simp [h0]
  · have g1 : L.toArray[j]! = L[j] := by simp [hj]
    have g2 : L.toArray[j - 1]! = L[j - 1]'(by omega) := by simp [show j - 1 < L.length by omega]
    rw [g1, g2]
    have := List.pairwise_iff_getElem.1 (List.nodup_iff_pairwise_ne.1 hnd) (j - 1) j (by omega) hj (by omega)
    exact decide_eq_true (.inr fun e => this e.symm)
 unfold Lib.compact Lib.compactUpTo
 rw [List.length_map, List.length_filter_eq_length_iff.2 fun j hj => hk j (List.mem_range.1 hj), List.length_range, hlen]

def q43 : JT → Bool
 | .mk k n s ks xs => decide (k < 1) || decide (k > 6) || (decide (k ≠ 2) && decide (k ≠ 3) && decide (n ≠ 0)) || (decide (k = 2) && decide (n ≠ 0) && decide (n ≠ 1)) || (decide (k ≠ 4) && !s.isEmpty) || !q1m s
   || (decide (k < 5) && !xs.isEmpty) || (decide (k ≠ 6) && !ks.isEmpty) || (decide (k = 6) && decide (ks.length ≠ xs.length))
mutual
def q3a : JT → Bool
 | .mk k n s ks xs => !q43 (.mk k n s ks xs) && (ks.all q1m && decide ks.Nodup) && q3b xs
def q3b : List JT → Bool
 | [] => true
 | x :: xs => q3a x && q3b xs
end
theorem q9a : q1m [] = true := by decide +kernel
theorem q6y (m : Nat) : ∀ (xs : List JT) (n : Nat), q2s n xs ≤ m ↔ n ≤ m ∧ ∀ x ∈ xs, 1 + q1n x ≤ m
 | [], n => by simp [q2s]
 | x :: xs, n => by
   rw [q2s, q6y m xs]
   simp only [List.mem_cons, forall_eq_or_imp]
   constructor
   · rintro ⟨h1, h2⟩; exact ⟨by omega, by omega, h2⟩
   · rintro ⟨h1, h2, h3⟩; exact ⟨by omega, h3⟩
theorem keyed_iff {k n : Int} {s : List UInt8} {ks : List (List UInt8)} {xs : List JT} : q4c (.mk k n s ks xs) = ((if k ≠ 6 then ks.isEmpty else decide (ks.length = xs.length)) && (ks.all q1m && decide ks.Nodup)) := by
 rw [q4c]
 by_cases h6 : k = 6
 · rw [if_neg (by simp [h6]), if_neg (by simp [h6])]
   have : decide ((Lib.compact (srt ks)).length = ks.length) = decide ks.Nodup := by
    rw [Bool.eq_iff_iff]
    simp only [decide_eq_true_eq]
    exact ⟨nodup_of, j5a⟩
   rw [this, Bool.and_comm (ks.all q1m)]
 · rw [if_pos h6, if_pos h6]
   cases ks with
   | nil => simp
   | cons y ks => simp
theorem bare_iff (k n : Int) (s : List UInt8) (ks : List (List UInt8)) (xs : List JT) : (q2t (.mk k n s ks xs) && (if k ≠ 6 then ks.isEmpty else decide (ks.length = xs.length))) = !q43 (.mk k n s ks xs) := by
 rw [Bool.eq_iff_iff]
 unfold q43
 rw [q2t]
 have hr := q9a
 by_cases h1 : k = 1
 · subst h1; cases s <;> cases xs <;> cases ks <;> simp [hr]
 by_cases h2 : k = 2
 · subst h2; cases s <;> cases xs <;> cases ks <;> simp [hr]
   all_goals omega
 by_cases h3 : k = 3
 · subst h3; cases s <;> cases xs <;> cases ks <;> simp [hr]
 by_cases h4 : k = 4
 · subst h4; cases s <;> cases xs <;> cases ks <;> simp [hr]
 by_cases h5 : k = 5
 · subst h5; cases s <;> cases xs <;> cases ks <;> simp [hr]
 by_cases h6 : k = 6
 · subst h6; cases s <;> cases xs <;> cases ks <;> simp [hr]
 · have : k < 1 ∨ k > 6 := by omega
   simp [h1, h2, h3, h4, h5, h6, this]
   omega
mutual
theorem j3w (d : Nat) (hd : d ≤ 32) : ∀ t : JT, q3h d t = (decide (d + q1n t ≤ 32) && q3a t)
 | .mk k n s ks xs => by
   rw [q3h, q3a, keyed_iff, ← bare_iff, q1n]
   by_cases hb : q2t (.mk k n s ks xs) = true
   · by_cases h56 : k = 5 ∨ k = 6
     · rw [if_pos h56]
       by_cases h32 : d = 32
       · subst h32
         have := (q6y 0 xs 1)
         have h1 : ¬ 32 + q2s 1 xs ≤ 32 := by
          intro h
          have := (q6y 0 xs 1).1 (by omega)
          omega
         rw [Bool.eq_iff_iff]
         simp [h1]
         omega
       · rw [j3x (d + 1) (by omega) xs]
         have h2 : decide (d + q2s 1 xs ≤ 32) = (xs.all fun x => decide (d + 1 + q1n x ≤ 32)) := by
          rw [Bool.eq_iff_iff]
          simp only [decide_eq_true_eq, List.all_eq_true]
          have := q6y (32 - d) xs 1
          constructor
          · intro h x hx
            have := (this.1 (by omega)).2 x hx
            omega
          · intro h
            have := this.2 ⟨by omega, fun x hx => by have := h x hx; omega⟩
            omega
         have h3 : decide (32 ≤ d) = false := by simp; omega
         rw [h2, hb, h3]
         simp only [Bool.false_and, Bool.not_false, Bool.and_true, Bool.true_and]
         generalize (xs.all fun x => decide (d + 1 + q1n x ≤ 32)) = A
         generalize ((if k ≠ 6 then ks.isEmpty else decide (ks.length = xs.length)) && (ks.all q1m && decide ks.Nodup)) = Z
         cases A <;> cases Z <;> simp
     · rw [if_neg h56, j1s hb (fun h => h56 (.inl h)) (fun h => h56 (.inr h))]
       have h5 : decide (k = 5) = false := by simp; exact fun h => h56 (.inl h)
       have h6 : decide (k = 6) = false := by simp; exact fun h => h56 (.inr h)
       rw [h5, h6]
       simp [q4d, q3b, hd, Bool.and_assoc]
   · simp [hb]
theorem j3x (d : Nat) (hd : d ≤ 32) : ∀ xs : List JT, q4d d xs = ((xs.all fun x => decide (d + q1n x ≤ 32)) && q3b xs)
 | [] => rfl
 | x :: xs => by
   rw [q4d, q3b, j3w d hd x, j3x d hd xs, List.all_cons]
   cases decide (d + q1n x ≤ 32) <;> cases q3a x <;> simp
end
theorem q5p (t : JT) : jR t = (decide (q1n t ≤ 32) && q3a t) := by
 unfold jR
 rw [j3w 0 (by omega) t, Nat.zero_add]

theorem j4d {α : Type} [DecidableEq α] {ks ls : List α} {i : Nat} {x y : α} (hx : ks[i]? = some x) (hy : ls[i]? = some y) (ht : ks.take i = ls.take i) : ks.take (i + 1) = ls.take (i + 1) ↔ x = y := by
 rw [List.take_add_one, List.take_add_one, hx, hy, ht]
 simp
theorem q7s (ks ls : List (List UInt8)) : Told Tryz.prog 43 [.c (.sl 1 (ks.map sPV)), .c (.sl 1 (ls.map sPV))] (.c (.v (.bool (ks == ls)))) := by
 refine VC.told ent_43 Tryz.func43 rfl Tryz.ntmps43 (by simp) rfl rfl fun hb => ?_
 simp only [q3m, q3w, List.mem_cons, List.not_mem_nil, or_false, forall_eq_or_imp, forall_eq, List.length_map] at hb
 have h1 := hb.1.1
 have h2 := hb.2.1
 clear hb
 refine q0a ?_
 refine VC.cond (by rfl) (by trivial) (fun hc => ?_) (fun hc => ?_)
 · have hne : (ks == ls) = false := by
    rw [beq_eq_false_iff_ne]
    intro e
    subst e
    simp at hc
   refine q0a ?_
   refine ⟨.inr rfl, ?_⟩
   rw [Tryz.results43, hne]
   simp only [q0n, resV, go_sem, simprocAttr]
   exact .c _
 · have hlen : ks.length = ls.length := by
    simp at hc
    omega
   refine q0a ?_
   refine VC.loop (ι := {i : Nat // i ≤ ks.length ∧ ks.take i = ls.take i}) (fun i => [(0, .c (.sl 1 (ks.map sPV))), (1, .c (.sl 1 (ls.map sPV))), (12, .c (.v (.int .i64 ks.length))), (13, .c (.v (.int .i64 i.1)))]) (fun _ => []) 0 (fun i => ks.length - i.1) ⟨0, Nat.zero_le _, rfl⟩ ?_ ?_
   · simp only [Weak, eq_self, q07, q01, sc_c, q03, q04, q05, q00, q02, ScL, q06, List.forall_mem_map, go_sem, Int.reduceBEq, Int.reduceLE, Int.reduceLT, Int.reduceNeg, Nat.reduceAdd, Nat.reduceEqDiff, Nat.reduceLT, Nat.reduceLeDiff, Nat.reduceMul, Nat.reduceSub, reduceCtorEq, ↓reduceIte]
     all_goals rfl
   rintro ⟨i, hi, ht⟩
   refine q0a ?_
   refine VC.cond (by rfl) (by trivial) (fun hc => ?_) (fun hc => ?_)
   · simp only [decide_eq_true_eq] at hc
     obtain ⟨x, hx⟩ : ∃ x, ks[i]? = some x := ⟨ks[i], List.getElem?_eq_getElem (by omega)⟩
     obtain ⟨y, hy⟩ : ∃ y, ls[i]? = some y := ⟨ls[i], List.getElem?_eq_getElem (by omega)⟩
     have hw : IntKind.i64.wrap ((i : Int) + 1) = (i : Int) + 1 := q1i (by omega) (by omega)
     have htn := j4d hx hy ht
     (repeat (first | refine pass ?_ | refine VC.region (by rfl) (by rfl) ?_ | (refine AO.step fun K hK => ?_; simp only [List.getElem?_map, hx, hy, sPV, q1u, go_sem, Int.reduceBEq, Int.reduceLE, Int.reduceLT, Int.reduceNeg, Nat.reduceAdd, Nat.reduceEqDiff, Nat.reduceLT, Nat.reduceLeDiff, Nat.reduceMul, Nat.reduceSub, reduceCtorEq, ↓reduceIte]; (first | refine q10 ?_ | refine q0q ?_ | skip); (first | refine hK _ _ _ ?_ | refine ⟨by first | omega | exact ⟨_, rfl, rfl⟩ | exact fun _ => ⟨_, rfl, rfl⟩ | (intro h; simp only [List.getElem?_map, hx, hy, sPV, q1u, h, true_and]; omega) | (clear hK; intro h; simp_all <;> omega), hK _ _ _ ?_⟩); clear hK K) | refine VC.draw mixP (by rfl) (by rfl) ?_ | refine ⟨q13 (by kernel_rfl), ?_⟩ | refine BQ.other (by decide) ?_ | refine VC.seq ?_ | refine AO.nil ?_ | refine VC.block ?_))
     refine VC.cond (by rfl) (by trivial) (fun hc2 => ?_) (fun hc2 => ?_)
     · have hne : (ks == ls) = false := by
        rw [beq_eq_false_iff_ne]
        intro e
        subst e
        rw [hx] at hy
        obtain rfl := Option.some.inj hy
        simp at hc2
       refine q0a ?_
       refine ⟨.inr rfl, ?_⟩
       rw [Tryz.results43, hne]
       simp only [q0n, resV, go_sem, simprocAttr]
       exact .c _
     · have hxy : x = y := by simpa using hc2
       refine q0b (hw) ?_
       refine .next ⟨i + 1, by omega, htn.2 hxy⟩ ?_ (by simp only []; omega)
       refine q4k ?_
       exact cI (by omega)
   · simp only [decide_eq_false_iff_not] at hc
     obtain rfl : i = ks.length := by omega
     have heq : (ks == ls) = true := by
      rw [List.take_length, hlen, List.take_length] at ht
      simp [ht]
     refine q0a ?_
     refine ⟨.inr rfl, ?_⟩
     rw [Tryz.results43, heq]
     simp only [q0n, resV, go_sem, simprocAttr]
     exact .c _
noncomputable def jeq (a b : JT) : Bool := @decide (a = b) (Classical.propDecidable _)
theorem q66 (a b : JT) : jeq a b = true ↔ a = b := by simp [jeq]
theorem jeq_self (a : JT) : jeq a a = true := (q66 a a).2 rfl
noncomputable def jeqL (a b : List JT) : Bool := @decide (a = b) (Classical.propDecidable _)
theorem j2p (a b : List JT) : jeqL a b = true ↔ a = b := by simp [jeqL]
theorem j2o (a b : List JT) : jeqL a b = false ↔ a ≠ b := by simp [jeqL]
theorem jeq_mk (k n k' n' : Int) (s s' : List UInt8) (ks ks' : List (List UInt8)) (xs xs' : List JT) : jeq (.mk k n s ks xs) (.mk k' n' s' ks' xs') = ((((k == k' && n == n') && s == s') && ks == ks') && jeqL xs xs') := by
 rw [Bool.eq_iff_iff]
 simp only [q66, Bool.and_eq_true, beq_iff_eq, j2p, JT.mk.injEq]
 constructor
 · rintro ⟨rfl, rfl, rfl, rfl, rfl⟩; simp
 · rintro ⟨⟨⟨⟨rfl, rfl⟩, rfl⟩, rfl⟩, rfl⟩; simp
theorem j5f (xs ys : List JT) (hcall : ∀ x ∈ xs, ∀ y, Told Tryz.prog 44 [x.av, y.av] (.c (.v (.bool (jeq x y))))) :
  Told Tryz.prog 87 [.c (.sl 5 (xs.map JT.cells)), .c (.sl 5 (ys.map JT.cells)), .fn (.func 44) [] []] (.c (.v (.bool (jeqL xs ys)))) := by
 refine VC.told ent_87 Tryz.func87 rfl Tryz.ntmps87 (by simp) rfl rfl fun hb => ?_
 simp only [q3m, q3w, List.mem_cons, List.not_mem_nil, or_false, forall_eq_or_imp, forall_eq, List.length_map] at hb
 have h1 := hb.1.1
 have h2 := hb.2.1.1
 clear hb
 refine q0a ?_
 refine VC.cond (by rfl) (by trivial) (fun hc => ?_) (fun hc => ?_)
 · have hne : jeqL xs ys = false := by
    rw [j2o]
    intro e
    subst e
    simp at hc
   refine q0a ?_
   refine ⟨.inr rfl, ?_⟩
   rw [Tryz.results87, hne]
   simp only [q0n, resV, go_sem, simprocAttr]
   exact .c _
 · have hlen : xs.length = ys.length := by
    simp at hc
    omega
   refine q0a ?_
   refine VC.loop (ι := {i : Nat // i ≤ xs.length ∧ xs.take i = ys.take i}) (fun i => [(1, .c (.sl 5 (ys.map JT.cells))), (2, .fn (.func 44) [] []), (15, .c (.sl 5 (xs.map JT.cells))), (16, .c (.v (.int .i64 xs.length))), (17, .c (.v (.int .i64 i.1)))]) (fun _ => []) 0 (fun i => xs.length - i.1) ⟨0, Nat.zero_le _, rfl⟩ ?_ ?_
   · simp only [Weak, eq_self, q07, q01, sc_c, q03, q04, q05, q00, q02, ScL, q06, List.forall_mem_map, go_sem, Int.reduceBEq, Int.reduceLE, Int.reduceLT, Int.reduceNeg, Nat.reduceAdd, Nat.reduceEqDiff, Nat.reduceLT, Nat.reduceLeDiff, Nat.reduceMul, Nat.reduceSub, reduceCtorEq, ↓reduceIte]
     all_goals rfl
   rintro ⟨i, hi, ht⟩
   refine q0a ?_
   refine VC.cond (by rfl) (by trivial) (fun hc => ?_) (fun hc => ?_)
   · simp only [decide_eq_true_eq] at hc
     obtain ⟨x, hx⟩ : ∃ x, xs[i]? = some x := ⟨xs[i], List.getElem?_eq_getElem (by omega)⟩
     obtain ⟨y, hy⟩ : ∃ y, ys[i]? = some y := ⟨ys[i], List.getElem?_eq_getElem (by omega)⟩
     have hw : IntKind.i64.wrap ((i : Int) + 1) = (i : Int) + 1 := q1i (by omega) (by omega)
     have hcl := hcall x (List.mem_of_getElem? hx) y
     (repeat (first | refine pass ?_ | refine VC.region (by rfl) (by rfl) ?_ | (refine AO.step fun K hK => ?_; simp only [List.getElem?_map, hx, hy, q12, q2r, q2h, go_sem, Int.reduceBEq, Int.reduceLE, Int.reduceLT, Int.reduceNeg, Nat.reduceAdd, Nat.reduceEqDiff, Nat.reduceLT, Nat.reduceLeDiff, Nat.reduceMul, Nat.reduceSub, reduceCtorEq, ↓reduceIte]; (first | refine q10 ?_ | refine q0q ?_ | skip); (first | refine hK _ _ _ ?_ | refine ⟨by first | omega | exact ⟨_, rfl, rfl⟩ | exact fun _ => ⟨_, rfl, rfl⟩ | (intro h; simp only [List.getElem?_map, hx, hy, q12, q2r, q2h, h, true_and]; omega) | (clear hK; intro h; simp_all <;> omega), hK _ _ _ ?_⟩); clear hK K) | refine VC.draw mixP (by rfl) (by rfl) ?_ | refine ⟨q13 (by kernel_rfl), ?_⟩ | refine BQ.other (by decide) ?_ | refine VC.seq ?_ | refine AO.nil ?_ | refine VC.block ?_))
     (refine AO.step fun K hK => ?_; simp only [go_sem, Int.reduceBEq, Int.reduceLE, Int.reduceLT, Int.reduceNeg, Nat.reduceAdd, Nat.reduceEqDiff, Nat.reduceLT, Nat.reduceLeDiff, Nat.reduceMul, Nat.reduceSub, reduceCtorEq, ↓reduceIte, q2a]; (first | refine q0q ?_ | skip))
     refine .inl ⟨_, hcl, hK _ _ _ ?_⟩
     clear hK K
     refine q0a ?_
     refine VC.cond (by rfl) (by trivial) (fun hc2 => ?_) (fun hc2 => ?_)
     · have hne : jeqL xs ys = false := by
        rw [j2o]
        intro e
        subst e
        rw [hx] at hy
        obtain rfl := Option.some.inj hy
        rw [jeq_self] at hc2
        simp at hc2
       refine q0a ?_
       refine ⟨.inr rfl, ?_⟩
       rw [Tryz.results87, hne]
       simp only [q0n, resV, go_sem, simprocAttr]
       exact .c _
     · have hxy : x = y := by
        rw [← q66]
        simpa using hc2
       refine q0b (hw) ?_
       refine .next ⟨i + 1, by omega, ?_⟩ ?_ (by simp only []; omega)
       · rw [List.take_add_one, List.take_add_one, hx, hy, ht, hxy]
       refine q4k ?_
       exact cI (by omega)
   · simp only [decide_eq_false_iff_not] at hc
     obtain rfl : i = xs.length := by omega
     have heq : jeqL xs ys = true := by
      rw [List.take_length, hlen, List.take_length] at ht
      rw [j2p, ht]
     refine q0a ?_
     refine ⟨.inr rfl, ?_⟩
     rw [Tryz.results87, heq]
     simp only [q0n, resV, go_sem, simprocAttr]
     exact .c _
theorem same_told : ∀ (m : Nat) (a b : JT), SizeOf.sizeOf a ≤ m → Told Tryz.prog 44 [a.av, b.av] (.c (.v (.bool (jeq a b)))) := by
 intro m
 induction m with
 | zero => intro a b ha; cases a; simp at ha
 | succ m ih =>
 intro a b ha
 cases a with
 | mk k n s ks xs =>
 cases b with
 | mk k' n' s' ks' xs' =>
 refine VC.told ent_44 Tryz.func44 rfl Tryz.ntmps44 (by simp) rfl rfl fun hb => ?_
 clear hb
 simp only [JT.av, q1e, List.map_cons, List.map_nil]
 have hE := j5f xs xs' fun x hx y => ih x y (by
  have h1 := List.sizeOf_lt_of_mem hx
  simp at ha
  omega)
 refine q0b (@q1u) ?_
 (refine AO.step fun K hK => ?_; simp only [go_sem, Int.reduceBEq, Int.reduceLE, Int.reduceLT, Int.reduceNeg, Nat.reduceAdd, Nat.reduceEqDiff, Nat.reduceLT, Nat.reduceLeDiff, Nat.reduceMul, Nat.reduceSub, reduceCtorEq, ↓reduceIte]; (first | refine q0q ?_ | skip))
 refine .inl ⟨_, fun _ => q7s ks ks', hK _ _ _ ?_⟩
 clear hK K
 refine q0a ?_
 (refine AO.step fun K hK => ?_; simp only [go_sem, Int.reduceBEq, Int.reduceLE, Int.reduceLT, Int.reduceNeg, Nat.reduceAdd, Nat.reduceEqDiff, Nat.reduceLT, Nat.reduceLeDiff, Nat.reduceMul, Nat.reduceSub, reduceCtorEq, ↓reduceIte]; (first | refine q0q ?_ | skip))
 refine .inl ⟨_, fun _ => hE, hK _ _ _ ?_⟩
 clear hK K
 refine q0a ?_
 refine ⟨.inr rfl, ?_⟩
 rw [Tryz.results44]
 simp only [q0n, resV, go_sem, simprocAttr]
 rw [jeq_mk]
 exact .c _

/-! Names. -/
def q3q (c : UInt8) : Bool := (decide (97 ≤ c.toNat) && decide (c.toNat ≤ 122)) || ((decide (65 ≤ c.toNat) && decide (c.toNat ≤ 90)) || decide (c.toNat = 95))
def q5o (c : UInt8) : Bool := decide (48 ≤ c.toNat) && decide (c.toNat ≤ 57)
def q2p : List UInt8 → Bool
 | [] => false
 | c :: cs => q3q c && cs.all fun c => q3q c || q5o c
def q45 (s : List UInt8) : Bool := decide (s.length ≤ 100) && q2p s
def q3g : Nat → List UInt8 → Bool
 | 0, _ => false
 | n + 1, s => q2p (s.takeWhile (· != 46)) && (match s.dropWhile (· != 46) with | [] => true | _ :: r => q3g n r)
def q2c (s : List UInt8) : Bool := decide (s.length ≤ 100) && q3g (s.length + 1) s
theorem j2g : ∀ (n m : Nat) (s : List UInt8), s.length < n → s.length < m → q3g n s = q3g m s
 | 0, _, _, h, _ => by omega
 | _, 0, _, _, h => by omega
 | n + 1, m + 1, s, h1, h2 => by
   rw [q3g, q3g]
   congr 1
   have hd : (s.dropWhile (· != 46)).length ≤ s.length := (List.dropWhile_sublist _).length_le
   split
   · rfl
   · rename_i x r hr
     rw [hr] at hd
     simp at hd
     exact j2g n m r (by omega) (by omega)
def q2v : List (List UInt8) := [[], [110, 117, 108, 108], [98, 111, 111, 108, 101, 97, 110], [105, 110, 116], [108, 111, 110, 103], [102, 108, 111, 97, 116], [100, 111, 117, 98, 108, 101], [98, 121, 116, 101, 115], [115, 116, 114, 105, 110, 103], [114, 101, 99, 111, 114, 100], [101, 110, 117, 109], [97, 114, 114, 97, 121], [109, 97, 112], [], [102, 105, 120, 101, 100]]
def q0x (s : List UInt8) : Nat := if s = [] then 0 else match q2v.findIdx? (· == s) with | some i => i | none => 0
/-! Schemas that may be. -/
def q2j (f : Nat → List Int → Int × List Int) : List FT → Int → List Int → Int × List Int
 | [], n, kn => (n, kn)
 | x :: xs, n, kn => q2j f xs (min (n + (f x.type.toNat kn).1) 1001) (f x.type.toNat kn).2
def knAt (kn : List Int) (k : Nat) : Int := match kn[k]? with | some n => n | none => 0
def q2x (ns : List NT) (k : Nat) : List FT := match ns[k]? with | some n => (if n.kind = 9 then n.fields else []) | none => []
def q1s (ns : List NT) : Nat → Nat → List Int → Int × List Int
 | 0, _, kn => (1001, kn)
 | d + 1, p, kn => if knAt kn p < 0 then (1001, kn) else if 0 < knAt kn p then (knAt kn p, kn) else
   ((q2j (q1s ns d) (q2x ns p) 1 (kn.set p (-1))).1, (q2j (q1s ns d) (q2x ns p) 1 (kn.set p (-1))).2.set p (q2j (q1s ns d) (q2x ns p) 1 (kn.set p (-1))).1)
def isN (name : List UInt8) (n : NT) : Bool := q20 n.kind && n.name == name

theorem j4g {P : Program} {f : FuncId} {xs : List Value} {r : Value} (hE : q0g P f) (hr : r.oneCell' = true) (h : ∀ W : World, Calls P f xs.toArray W fun e w' => e = .returned r ∧ w' = W) : Told P f (xs.map fun x => .c (.v x)) (.c (.v r)) := by
 refine ⟨hE, fun W ro vs hro hgk hl => ?_⟩
 have hvs : vs = xs := by
  apply List.ext_getElem?
  intro k
  by_cases hk : k < xs.length
  · have hkv : k < vs.length := by rw [hl.1]; simpa using hk
    have := hl.2 k _ _ (by rw [List.getElem?_map, List.getElem?_eq_getElem hk]; rfl) (List.getElem?_eq_getElem hkv)
    rw [List.getElem?_eq_getElem hkv, q0v this, List.getElem?_eq_getElem hk]
  · rw [List.getElem?_eq_none (by rw [hl.1]; simpa using hk), List.getElem?_eq_none (by omega)]
 subst hvs
 refine (h W).mono ?_
 rintro e W' ⟨rfl, rfl⟩
 exact ⟨r, ro, rfl, Below.refl _ _, fun b h => h, fun b h => ⟨.inl h, hro b h⟩, .c (.v hr), .c _⟩

theorem j5q (c : UInt8) : Told Tryz.prog 89 [.c (.v (.int .u8 (c.toNat : Int)))] (.c (.v (.bool (q3q c)))) := by
 obtain ⟨V, hV⟩ : ∃ V, V = q3q c := ⟨_, rfl⟩
 rw [← hV]
 obtain ⟨y, hy⟩ : ∃ y : Int, y = (c.toNat : Int) := ⟨_, rfl⟩
 rw [← hy]
 have hv : V = ((decide (y ≥ 97) && decide (y ≤ 122)) || ((decide (y ≥ 65) && decide (y ≤ 90)) || (y == 95))) := by
  have e : (y == 95) = decide (c.toNat = 95) := by
   rw [hy]
   by_cases h : c.toNat = 95
   · simp [h]
   · have : ¬ ((c.toNat : Int) = 95) := by omega
     simp [h, this]
  rw [hV, q3q, e, hy]
  congr 1
  · congr 1 <;> simp <;> omega
  · congr 1
    congr 1 <;> simp <;> omega
 clear hV hy
 replace hv := Lib.hid hv
 refine VC.toldP ent_89 Tryz.func89 rfl Tryz.ntmps89 fun hb => ?_
 clear hb
 (repeat (first | refine pass ?_ | refine VC.region (by rfl) (by rfl) ?_ | (refine AO.step fun K hK => ?_; simp only [List.append_assoc, go_sem, Int.reduceBEq, Int.reduceLE, Int.reduceLT, Int.reduceNeg, Nat.reduceAdd, Nat.reduceEqDiff, Nat.reduceLT, Nat.reduceLeDiff, Nat.reduceMul, Nat.reduceSub, reduceCtorEq, ↓reduceIte]; (first | refine q10 ?_ | refine q0q ?_ | skip); (first | refine hK _ _ _ ?_ | refine ⟨by first | omega | exact ⟨_, rfl, rfl⟩ | exact fun _ => ⟨_, rfl, rfl⟩ | (intro h; simp only [List.append_assoc, h, true_and]; omega) | (clear hK; intro h; simp_all <;> omega), hK _ _ _ ?_⟩); clear hK K) | refine VC.draw mixP (by rfl) (by rfl) ?_ | refine ⟨q13 (by kernel_rfl), ?_⟩ | refine BQ.other (by decide) ?_ | refine VC.seq ?_ | refine AO.nil ?_ | refine VC.block ?_))
 refine retX Tryz.results89 ?_
 have hv2 : V = ((decide (y ≥ 97) && decide (y ≤ 122)) || (decide (y ≥ 65) && decide (y ≤ 90)) || (y == 95)) := by rw [hv.out, Bool.or_assoc]
 rw [hv2]
 exact .c _
def okAt (i : Nat) (c : UInt8) : Bool := q3q c || (decide (0 < i) && q5o c)
theorem j37 {s : List UInt8} : q2p s = true ↔ s ≠ [] ∧ ∀ (i : Nat) (c : UInt8), s[i]? = some c → okAt i c = true := by
 cases s with
 | nil => simp [q2p]
 | cons x xs =>
   simp only [q2p, Bool.and_eq_true, List.all_eq_true, ne_eq, reduceCtorEq, not_false_eq_true, true_and]
   constructor
   · rintro ⟨h1, h2⟩ i c hc
     match i with
     | 0 =>
       simp at hc
       subst hc
       simp [okAt, h1]
     | i + 1 =>
       rw [List.getElem?_cons_succ] at hc
       have := h2 c (List.mem_of_getElem? hc)
       simpa [okAt] using this
   · intro h
     refine ⟨by simpa [okAt] using h 0 x rfl, fun c hc => ?_⟩
     obtain ⟨i, hi⟩ := List.getElem?_of_mem hc
     simpa [okAt] using h (i + 1) c (by rw [List.getElem?_cons_succ]; exact hi)
theorem j38 (s : List UInt8) (hs : s.length ≤ 1000000000) : Told Tryz.prog 50 [.c (.v (.string (str s)))] (.c (.v (.bool (q2p s)))) := by
 obtain ⟨V, hV⟩ : ∃ V, V = q2p s := ⟨_, rfl⟩
 rw [← hV]
 refine VC.toldP ent_50 Tryz.func50 rfl Tryz.ntmps50 fun hb => ?_
 clear hb
 refine q0b (@q1t) ?_
 refine VC.loop (ι := {i : Nat // i ≤ s.length ∧ ∀ (j : Nat) (c : UInt8), j < i → s[j]? = some c → okAt j c = true})
  (fun q => [(0, .c (.v (.string (str s)))), (5, .c (.v (.int .i64 (s.length : Int)))), (6, .c (.v (.int .i64 (q.1 : Int))))]) (fun _ => []) 800 (fun q => s.length - q.1) ⟨0, Nat.zero_le _, fun j c h => by omega⟩ ?_ ?_
 · simp only [Weak, eq_self, q07, q01, sc_c, q03, q04, q05, q00, q02, ScL, q06, List.forall_mem_map, go_sem, Int.reduceBEq, Int.reduceLE, Int.reduceLT, Int.reduceNeg, Nat.reduceAdd, Nat.reduceEqDiff, Nat.reduceLT, Nat.reduceLeDiff, Nat.reduceMul, Nat.reduceSub, reduceCtorEq, ↓reduceIte]
   try trivial
 rintro ⟨i, hi, ht⟩
 simp only []
 refine q0a ?_
 refine VC.cond (by rfl) (by trivial) (fun hc => ?_) (fun hc => ?_)
 · have hlt : i < s.length := by simp at hc; omega
   obtain ⟨c, hx⟩ : ∃ c, s[i]? = some c := ⟨s[i], List.getElem?_eq_getElem hlt⟩
   have hw : IntKind.i64.wrap ((i : Int) + 1) = (i : Int) + 1 := q1i (by omega) (by omega)
   have hL := j5q c
   refine q0b (And.intro @q1t (And.intro @q5z hx)) ?_
   refine q0k (hL) ?_
   refine q0b (And.intro @q1t (And.intro @q5z hx)) ?_
   refine VC.cond (by rfl) (by trivial) (fun hc2 => ?_) (fun hc2 => ?_)
   · have hf : V = false := by
      cases h : V with
      | false => rfl
      | true =>
        rw [hV, j37] at h
        have := h.2 i c hx
        cases hl : q3q c with
        | true => simp [hl] at hc2
        | false =>
          simp [okAt, q5o, hl] at this hc2
          omega
     subst hf
     refine q0a ?_
     refine retX Tryz.results50 ?_
     exact .c _
   · refine q0b (hw) ?_
     refine .next ⟨i + 1, by omega, ?_⟩ ?_ (by simp only []; omega)
     · intro j d hj hd
       by_cases hji : j < i
       · exact ht j d hji hd
       · obtain rfl : j = i := by omega
         rw [hx] at hd
         obtain rfl := Option.some.inj hd
         cases hl : q3q c with
         | true => simp [okAt, hl]
         | false =>
           simp [okAt, q5o, hl] at hc2 ⊢
           omega
     simp only [Weak, eq_self, q07, q01, sc_c, q03, q04, q05, q00, q02, ScL, q06, List.forall_mem_map, go_sem, Int.reduceBEq, Int.reduceLE, Int.reduceLT, Int.reduceNeg, Nat.reduceAdd, Nat.reduceEqDiff, Nat.reduceLT, Nat.reduceLeDiff, Nat.reduceMul, Nat.reduceSub, reduceCtorEq, ↓reduceIte]
     try exact cI (by omega)
 · have hE : (⟨#[]⟩ : ByteArray).toList = [] := q1u []
   have hie : i = s.length := by simp at hc; omega
   have hf : V = !(s == []) := by
    rw [hV, Bool.eq_iff_iff, j37]
    constructor
    · rintro ⟨h1, _⟩
      simpa using h1
    · intro h1
      refine ⟨by simpa using h1, fun j c hj => ht j c ?_ hj⟩
      have := (List.getElem?_eq_some_iff.1 hj).1
      omega
   refine q0b (And.intro @q1u hE) ?_
   refine retX Tryz.results50 ?_
   rw [hf]
   exact .c _
theorem j58 (s : List UInt8) (hs : s.length ≤ 1000000000) : Told Tryz.prog 97 [.c (.v (.string (str s)))] (.c (.v (.bool (q45 s)))) := by
 obtain ⟨V, hV⟩ : ∃ V, V = q45 s := ⟨_, rfl⟩
 rw [← hV]
 have hv : V = (decide ((s.length : Int) ≤ 100) && q2p s) := by
  rw [hV, q45]
  congr 1
  simp
  omega
 have hT := j38 s hs
 clear hV
 refine VC.toldP ent_97 Tryz.func97 rfl Tryz.ntmps97 fun hb => ?_
 clear hb
 refine q0b (@q1t) ?_
 refine q48 (hT) ?_
 refine q0a ?_
 refine retX Tryz.results97 ?_
 rw [hv]
 exact .c _

theorem q8r (c : UInt8) : ∀ s : List UInt8, (Lib.indexByte s c = -1 ∧ s.takeWhile (· != c) = s ∧ s.dropWhile (· != c) = []) ∨ (∃ i : Nat, i < s.length ∧ Lib.indexByte s c = (i : Int) ∧ s.takeWhile (· != c) = s.take i ∧ s.dropWhile (· != c) = c :: s.drop (i + 1))
 | [] => .inl ⟨rfl, rfl, rfl⟩
 | x :: xs => by
   by_cases h : x = c
   · subst h
     exact .inr ⟨0, by simp, by simp [Lib.indexByte], by simp, by simp⟩
   · have hb : (x == c) = false := by simp [h]
     have hb' : (x != c) = true := by simp [h]
     rcases q8r c xs with ⟨h1, h2, h3⟩ | ⟨i, h0, h1, h2, h3⟩
     · exact .inl ⟨by simp [Lib.indexByte, hb, h1], by rw [List.takeWhile_cons, if_pos hb', h2], by rw [List.dropWhile_cons, if_pos hb', h3]⟩
     · refine .inr ⟨i + 1, by simp; omega, ?_, by rw [List.takeWhile_cons, if_pos hb', h2]; rfl, by rw [List.dropWhile_cons, if_pos hb', h3]; rfl⟩
       rw [Lib.indexByte, hb, h1]
       have : ((i : Int) == -1) = false := by simp
       simp [this]
theorem q50 (l : List UInt8) (a b : Nat) : (str l).extract a b = str ((l.take b).drop a) := by
 apply ByteArray.ext
 simp [str, ByteArray.data_extract, List.drop_take]
theorem j2l (s : List UInt8) : Told Tryz.prog 139 [.c (.v (.string (str s))), .c (.v (.string ⟨#[46]⟩))] (.c (.v (.int .i64 (Lib.indexByte s 46)))) :=
 j4g (xs := [.string (str s), .string ⟨#[46]⟩]) ent_139 rfl fun W => Tryz.stringslite_Index_one (str s) 46 W
theorem cut0_told (s : List UInt8) (hs : s.length ≤ 1000000000) : Told Tryz.prog 88 [.c (.v (.string (str s))), .c (.v (.string ⟨#[46]⟩))] (.tup [.c (.v (.string (str (s.takeWhile (· != 46))))), .c (.v (.string (str (s.dropWhile (· != 46)).tail))), .c (.v (.bool (!(s.dropWhile (· != 46)).isEmpty)))]) := by
 have hI := j2l s
 rcases q8r 46 s with ⟨h1, h2, h3⟩ | ⟨i, h0, h1, h2, h3⟩
 · rw [h2, h3]
   rw [h1] at hI
   refine VC.toldP ent_88 Tryz.func88 rfl Tryz.ntmps88 fun hb => ?_
   clear hb
   refine q0a ?_
   refine q0k (hI) ?_
   refine q2i ?_
   refine retX Tryz.results88 ?_
   exact ⟨.c _, .c _, .c _⟩
 · rw [h2, h3]
   rw [h1] at hI
   have hd : decide ((i : Int) ≥ 0) = true := by simp
   have hz : (⟨#[46]⟩ : ByteArray).size = 1 := rfl
   have hw : IntKind.i64.wrap ((i : Int) + 1) = (i : Int) + 1 := q1i (by omega) (by omega)
   have hx1 : (str s).extract 0 i = str (s.take i) := by
    rw [q50, List.drop_zero]
   have hx2 : (str s).extract (i + 1) s.length = str (s.drop (i + 1)) := by
    rw [q50, List.take_length]
   have ht : ((i : Int) + 1).toNat = i + 1 := by omega
   refine VC.toldP ent_88 Tryz.func88 rfl Tryz.ntmps88 fun hb => ?_
   clear hb
   refine q0a ?_
   refine q0k (hI) ?_
   refine q0w (And.intro hd (And.intro hz (And.intro hw @q1t))) ?_
   refine retX Tryz.results88 ?_
   rw [ht, hx1, hx2]
   exact ⟨.c _, .c _, .c _⟩
theorem cut_told (s : List UInt8) (hs : s.length ≤ 1000000000) : Told Tryz.prog 49 [.c (.v (.string (str s))), .c (.v (.string ⟨#[46]⟩))] (.tup [.c (.v (.string (str (s.takeWhile (· != 46))))), .c (.v (.string (str (s.dropWhile (· != 46)).tail))), .c (.v (.bool (!(s.dropWhile (· != 46)).isEmpty)))]) := by
 have hI := cut0_told s hs
 refine VC.toldP ent_49 Tryz.func49 rfl Tryz.ntmps49 fun hb => ?_
 clear hb
 refine q0a ?_
 refine q0k (hI) ?_
 refine q0a ?_
 refine retX Tryz.results49 ?_
 exact ⟨.c _, .c _, .c _⟩
theorem q8o (s : List UInt8) (hs : s.length ≤ 1000000000) : Told Tryz.prog 17 [.c (.v (.string (str s)))] (.c (.v (.bool (q2c s)))) := by
 obtain ⟨V, hV⟩ : ∃ V, V = q2c s := ⟨_, rfl⟩
 rw [← hV]
 unfold q2c at hV
 refine VC.toldP ent_17 Tryz.func17 rfl Tryz.ntmps17 fun hb => ?_
 clear hb
 refine q0b (@q1t) ?_
 refine VC.cond (by rfl) (by trivial) (fun hc => ?_) (fun hc => ?_)
 · have hf : V = false := by
    have : ¬ (s.length ≤ 100) := by simp at hc; omega
    rw [hV]
    simp [this]
   subst hf
   refine q0a ?_
   refine retX Tryz.results17 ?_
   exact .c _
 have hl : s.length ≤ 100 := by simp at hc; omega
 have hv : q3g (s.length + 1) s = V := by rw [hV]; simp [hl]
 clear hV hc
 refine q0a ?_
 refine VC.loop (ι := {l : List UInt8 // l.length ≤ 100 ∧ q3g (l.length + 1) l = V}) (fun q => [(0, .c (.v (.string (str q.1))))]) (fun _ => []) 800 (fun q => q.1.length) ⟨s, hl, hv⟩ ?_ ?_
 · exact weakZ
 rintro ⟨l, hl, hv⟩
 simp only []
 rw [q3g] at hv
 have hC := cut_told l (by omega)
 obtain ⟨p, hp⟩ : ∃ p, p = l.takeWhile (· != 46) := ⟨_, rfl⟩
 obtain ⟨D, hD⟩ : ∃ D, D = l.dropWhile (· != 46) := ⟨_, rfl⟩
 have hpl : p.length ≤ l.length := by rw [hp]; exact (List.takeWhile_sublist _).length_le
 have hDl : D.length ≤ l.length := by rw [hD]; exact (List.dropWhile_sublist _).length_le
 rw [← hp, ← hD] at hC hv
 clear hp hD
 have hS := j38 p (by omega)
 refine q0a ?_
 refine q0k (hC) ?_
 refine q0a ?_
 refine q0k (hS) ?_
 refine q0a ?_
 refine VC.cond (by rfl) (by trivial) (fun hc => ?_) (fun hc => ?_)
 · have hf : V = false := by
    rw [← hv]
    have : q2p p = false := by simpa using hc
    simp [this]
   subst hf
   refine q0a ?_
   refine retX Tryz.results17 ?_
   exact .c _
 have hp1 : q2p p = true := by simpa using hc
 rw [hp1, Bool.true_and] at hv
 refine q0a ?_
 refine VC.cond (by rfl) (by trivial) (fun hc2 => ?_) (fun hc2 => ?_)
 · cases D with
   | cons x r => simp at hc2
   | nil =>
     have hf : V = true := hv.symm
     subst hf
     refine q0a ?_
     refine retX Tryz.results17 ?_
     exact .c _
 · cases D with
   | nil => simp at hc2
   | cons x r =>
     simp only [] at hv
     simp only [List.length_cons] at hDl
     (repeat (first | refine pass ?_ | refine VC.region (by rfl) (by rfl) ?_ | (refine AO.step fun K hK => ?_; simp only [List.tail_cons, go_sem, Int.reduceBEq, Int.reduceLE, Int.reduceLT, Int.reduceNeg, Nat.reduceAdd, Nat.reduceEqDiff, Nat.reduceLT, Nat.reduceLeDiff, Nat.reduceMul, Nat.reduceSub, reduceCtorEq, ↓reduceIte]; (first | refine q10 ?_ | refine q0q ?_ | skip); (first | refine hK _ _ _ ?_ | refine ⟨by first | omega | exact ⟨_, rfl, rfl⟩ | exact fun _ => ⟨_, rfl, rfl⟩ | (intro h; simp only [List.tail_cons, h, true_and]; omega) | (clear hK; intro h; simp_all <;> omega), hK _ _ _ ?_⟩); clear hK K) | refine VC.draw mixP (by rfl) (by rfl) ?_ | refine ⟨q13 (by kernel_rfl), ?_⟩ | refine BQ.other (by decide) ?_ | refine VC.seq ?_ | refine AO.nil ?_ | refine VC.block ?_))
     refine .next ⟨r, by omega, by rw [← hv]; exact j2g _ _ _ (by omega) (by omega)⟩ ?_ (by simp only []; omega)
     exact weakZ
theorem j2v (s : List UInt8) : Told Tryz.prog 93 [.c (.v (.string (str s)))] (.c (.v (.int .i64 (q0x s : Int)))) := by
 obtain ⟨V, hV⟩ : ∃ V, V = q0x s := ⟨_, rfl⟩
 rw [← hV]
 obtain ⟨L, hL⟩ : ∃ L, L = q2v.map fun l => PV.v (.string (str l)) := ⟨_, rfl⟩
 have hg : glob Tryz.prog 1 = some L := by rw [hL]; kernel_rfl
 have hLl : L.length = 15 := by rw [hL]; rfl
 have hLt : L.take 15 = L := by rw [← hLl, List.take_length]
 refine VC.toldP ent_93 Tryz.func93 rfl Tryz.ntmps93 fun hb => ?_
 clear hb
 refine q0b (And.intro hg (And.intro hLl hLt)) ?_
 have hE : (⟨#[]⟩ : ByteArray).toList = [] := q1u []
 have hkl : q2v.length = 15 := rfl
 refine VC.loop (ι := {i : Nat // i ≤ 15 ∧ ∀ (j : Nat) (w : List UInt8), j < i → q2v[j]? = some w → s ≠ [] → w ≠ s}) (fun q => [(0, .c (.v (.string (str s)))), (5, .agg (L.map .c)), (6, .c (.v (.int .i64 (q.1 : Int))))]) (fun _ => []) 800 (fun q => 15 - q.1) ⟨0, by omega, fun j w h => by omega⟩ ?_ ?_
 · exact weakZ
 rintro ⟨i, hi, ht⟩
 simp only []
 refine q0a ?_
 refine VC.cond (by rfl) (by trivial) (fun hc => ?_) (fun hc => ?_)
 · have hlt : i < 15 := by simp at hc; omega
   obtain ⟨w, hx⟩ : ∃ w, q2v[i]? = some w := ⟨q2v[i]'(by omega), List.getElem?_eq_getElem (by omega)⟩
   have hLx : (L.map AV.c)[i]? = some (.c (.v (.string (str w)))) := by rw [hL, List.getElem?_map, List.getElem?_map, hx]; rfl
   have hw : IntKind.i64.wrap ((i : Int) + 1) = (i : Int) + 1 := q1i (by omega) (by omega)
   refine q0b (And.intro hLx (And.intro @q1u hE)) ?_
   refine VC.cond (by rfl) (by trivial) (fun hc2 => ?_) (fun hc2 => ?_)
   · have hh : w = s ∧ s ≠ [] := by simpa using hc2
     have hf : V = i := by
      rw [hV, q0x, if_neg hh.2]
      have : q2v.findIdx? (· == s) = some i := by
       rw [List.findIdx?_eq_some_iff_getElem]
       refine ⟨by omega, ?_, fun j hj => ?_⟩
       · have := (List.getElem?_eq_some_iff.1 hx).2
         simp [this, hh.1]
       · have := ht j _ hj (List.getElem?_eq_getElem (by omega)) hh.2
         simpa using this
      rw [this]
     subst hf
     refine q0a ?_
     refine retX Tryz.results93 ?_
     exact .c _
   · have hh : ¬ (w = s ∧ s ≠ []) := by simpa using hc2
     refine q0b (hw) ?_
     refine .next ⟨i + 1, by omega, ?_⟩ ?_ (by simp only []; omega)
     · intro j u hj hu hs
       by_cases hji : j < i
       · exact ht j u hji hu hs
       · obtain rfl : j = i := by omega
         rw [hx] at hu
         obtain rfl := Option.some.inj hu
         exact fun e => hh ⟨e, hs⟩
     refine q4k ?_
     exact cI (by omega)
 · have hie : i = 15 := by simp at hc; omega
   have hf : V = 0 := by
    rw [hV, q0x]
    split
    · rfl
    · rename_i hs
      have : q2v.findIdx? (· == s) = none := by
       rw [List.findIdx?_eq_none_iff]
       intro w hw
       obtain ⟨j, hj⟩ := List.getElem?_of_mem hw
       have := ht j w (by have := (List.getElem?_eq_some_iff.1 hj).1; omega) hj hs
       simpa using this
      rw [this]
   subst hf
   refine q0a ?_
   refine retX Tryz.results93 ?_
   exact .c _

theorem j59 (ks : List (List UInt8)) (key : List UInt8) : Told Tryz.prog 59 [.c (.sl 1 (ks.map sPV)), .c (.v (.string (str key)))] (.c (.v (.int .i64 (idxS key ks)))) := by
 refine VC.told ent_59 Tryz.func59 rfl Tryz.ntmps59 (by simp) rfl rfl fun hb => ?_
 simp only [q3m, q3w, pbd_v, List.mem_cons, List.not_mem_nil, or_false, forall_eq_or_imp, forall_eq, List.length_map, and_true] at hb
 have h1 := hb.1
 clear hb
 refine q0a ?_
 refine VC.loop (ι := {i : Nat // i ≤ ks.length ∧ ∀ j, j < i → ks[j]? ≠ some key}) (fun i => [(0, .c (.sl 1 (ks.map sPV))), (1, .c (.v (.string (str key)))), (7, .c (.v (.int .i64 ks.length))), (8, .c (.v (.int .i64 i.1)))]) (fun _ => []) 0 (fun i => ks.length - i.1) ⟨0, Nat.zero_le _, by intro j hj; omega⟩ ?_ ?_
 · simp only [Weak, eq_self, q07, q01, sc_c, q03, q04, q05, q00, q02, ScL, q06, List.forall_mem_map, go_sem, Int.reduceBEq, Int.reduceLE, Int.reduceLT, Int.reduceNeg, Nat.reduceAdd, Nat.reduceEqDiff, Nat.reduceLT, Nat.reduceLeDiff, Nat.reduceMul, Nat.reduceSub, reduceCtorEq, ↓reduceIte]
   all_goals rfl
 rintro ⟨i, hi, ht⟩
 refine q0a ?_
 refine VC.cond (by rfl) (by trivial) (fun hc => ?_) (fun hc => ?_)
 · simp only [decide_eq_true_eq] at hc
   obtain ⟨x, hx⟩ : ∃ x, ks[i]? = some x := ⟨ks[i], List.getElem?_eq_getElem (by omega)⟩
   have hw : IntKind.i64.wrap ((i : Int) + 1) = (i : Int) + 1 := q1i (by omega) (by omega)
   (repeat (first | refine pass ?_ | refine VC.region (by rfl) (by rfl) ?_ | (refine AO.step fun K hK => ?_; simp only [List.getElem?_map, hx, sPV, q1u, go_sem, Int.reduceBEq, Int.reduceLE, Int.reduceLT, Int.reduceNeg, Nat.reduceAdd, Nat.reduceEqDiff, Nat.reduceLT, Nat.reduceLeDiff, Nat.reduceMul, Nat.reduceSub, reduceCtorEq, ↓reduceIte]; (first | refine q10 ?_ | refine q0q ?_ | skip); (first | refine hK _ _ _ ?_ | refine ⟨by first | omega | exact ⟨_, rfl, rfl⟩ | exact fun _ => ⟨_, rfl, rfl⟩ | (intro h; simp only [List.getElem?_map, hx, sPV, q1u, h, true_and]; omega) | (clear hK; intro h; simp_all <;> omega), hK _ _ _ ?_⟩); clear hK K) | refine VC.draw mixP (by rfl) (by rfl) ?_ | refine ⟨q13 (by kernel_rfl), ?_⟩ | refine BQ.other (by decide) ?_ | refine VC.seq ?_ | refine AO.nil ?_ | refine VC.block ?_))
   refine VC.cond (by rfl) (by trivial) (fun hc2 => ?_) (fun hc2 => ?_)
   · have hxy : key = x := by simpa using hc2
     subst hxy
     have hr := idxS_at hx ht
     refine q0a ?_
     refine ⟨.inr rfl, ?_⟩
     rw [Tryz.results59, hr]
     simp only [q0n, resV, go_sem, simprocAttr]
     exact .c _
   · have hxy : key ≠ x := by simpa using hc2
     refine q0b (hw) ?_
     refine .next ⟨i + 1, by omega, fun j hj => ?_⟩ ?_ (by simp only []; omega)
     · rcases Nat.lt_or_ge j i with h | h
       · exact ht j h
       · obtain rfl : j = i := by omega
         rw [hx]
         intro e
         exact hxy (Option.some.inj e).symm
     refine q4k ?_
     exact cI (by omega)
 · simp only [decide_eq_false_iff_not] at hc
   obtain rfl : i = ks.length := by omega
   have hr := idxS_none ht
   refine q0a ?_
   refine ⟨.inr rfl, ?_⟩
   rw [Tryz.results59, hr]
   simp only [q0n, resV, go_sem, simprocAttr]
   exact .c _

theorem j28 (k : Int) : Told Tryz.prog 55 [.c (.v (.int .i64 k))] (.c (.v (.bool (q20 k)))) := by
 obtain ⟨V, hV⟩ : ∃ V, V = q20 k := ⟨_, rfl⟩
 rw [← hV]
 unfold q20 at hV
 replace hV := Lib.hid hV
 refine VC.toldP ent_55 Tryz.func55 rfl Tryz.ntmps55 fun hb => ?_
 clear hb
 refine q0a ?_
 refine retX Tryz.results55 ?_
 rw [hV.out]
 exact .c _
def fnP (g : FuncId) : PV := .v (.func (.func g) ⟨[]⟩ ⟨[]⟩)

def rA {α : Type} (f : α → List PV) (l : List α) : List (List AV) := l.map fun x => (f x).map .c
theorem q0c {α : Type} (f : α → List PV) (l : List α) : (rA f l).length = l.length := by simp [rA]
theorem q7j {α : Type} (f : α → List PV) : rA f [] = [] := rfl
theorem rA_at {α : Type} {f : α → List PV} {l : List α} {i : Nat} {x : α} (h : l[i]? = some x) : (rA f l)[i]? = some ((f x).map .c) := by simp [rA, h]
theorem rA_set {α : Type} {f : α → List PV} (l : List α) (i : Nat) (x : α) : (rA f l).set i ((f x).map .c) = rA f (l.set i x) := by simp [rA, List.map_set]
theorem rA_one {α : Type} (f : α → List PV) (l : List α) (x : α) : rA f l ++ [(f x).map .c] = rA f (l ++ [x]) := by simp [rA]
theorem q5v {α : Type} (f : α → List PV) (l : List α) : rA f l = (l.map f).map fun e => e.map AV.c := by simp [rA]
theorem renL_pv (ρ : Nat → Nat) : ∀ l : List PV, AV.renL ρ (l.map .c) = l.map .c
 | [] => rfl
 | x :: l => by rw [List.map_cons, AV.renL, renL_pv ρ l]; rfl
theorem q0d {α : Type} (ρ : Nat → Nat) (f : α → List PV) (l : List α) : (rA f l).map (AV.renL ρ) = rA f l := by
 unfold rA
 rw [List.map_map]
 apply List.map_congr_left
 intro x _
 exact renL_pv ρ _
theorem q08 {α : Type} {used : Nat → Prop} {h : Nat → Option Blkd} (f : α → List PV) (l : List α) : (∀ e ∈ rA f l, ∀ x ∈ e, Sc used h x) = True := eq_true fun e he x hx => by
 obtain ⟨b, _, rfl⟩ := List.mem_map.1 he
 obtain ⟨p, _, rfl⟩ := List.mem_map.1 hx
 exact .c
theorem q4t {α : Type} {K : Nat → Bool} {h : Nat → Option Blkd} {j n : Nat} {T : TypeId} {z : Nat} {f : α → List PV} {l : List α} (hB : h j = some ⟨true, T, z, rA f l⟩) (hn : l.length = n) (hk : K j = false) (hz : ∀ x ∈ l, (f x).length = z) :
  Frz K h (.row j n) (.c (.sl z (l.map f))) := by
 refine Frz.row (B := ⟨true, T, z, rA f l⟩) hB rfl ?_ hk ?_ ?_ ?_
 · show (rA f l).length = n
   rw [q0c, hn]
 · simp [q0c]
 · intro i e e' h1 h2
   rw [q5v, List.getElem?_map, h2] at h1
   obtain rfl := Option.some.inj h1
   simp
 · intro i k e e' x p h1 h2 h3 h4
   rw [q5v, List.getElem?_map, h2] at h1
   obtain rfl := Option.some.inj h1
   rw [List.getElem?_map, h4] at h3
   obtain rfl := Option.some.inj h3
   exact .c p

def q39 : Nat → List (List UInt8) → Option Nat
 | n, [] => some n
 | n, y :: ys => if n ≤ 2500 then (if 2500 < y.length then none else q39 (n + 1 + y.length) ys) else some n
mutual
def q3k (d : Nat) : JT → Nat
 | .mk k n s ks xs => if 60 < d ∨ 2500 < s.length ∨ 2500 < ks.length ∨ 2500 < xs.length then 2501 else match q39 (1 + s.length) ks with | none => 2501 | some n => q25 d n xs
def q25 (d : Nat) : Nat → List JT → Nat
 | n, [] => n
 | n, x :: xs => if n ≤ 2500 then q25 d (n + q3k (d + 1) x) xs else n
end
theorem j1v : ∀ (ys : List (List UInt8)) (n m : Nat), n ≤ 5001 → q39 n ys = some m → m ≤ 5001
 | [], n, m, h, e => by simp [q39] at e; omega
 | y :: ys, n, m, h, e => by
   rw [q39] at e
   split at e
   · split at e
     · simp at e
     · exact j1v ys _ m (by omega) e
   · simp at e; omega
mutual
theorem tbulk5_le (d : Nat) : ∀ (t : JT), q3k d t ≤ 5001 + 2501 * (61 - d)
 | .mk k n s ks xs => by
   rw [q3k]
   split
   · omega
   · rename_i h
     split
     · omega
     · rename_i m hm
       exact q73 d xs m (by have := j1v ks _ _ (by omega) hm; omega)
theorem q73 (d : Nat) : ∀ (xs : List JT) (n : Nat), n ≤ 5001 + 2501 * (61 - d) → q25 d n xs ≤ 5001 + 2501 * (61 - d)
 | [], n, h => by rw [q25]; exact h
 | x :: xs, n, h => by
   rw [q25]
   split
   · have := tbulk5_le (d + 1) x
     by_cases hd : 60 < d
     · have h2 : q3k (d + 1) x = 2501 := by
        cases x
        rw [q3k, if_pos (by omega)]
       exact q73 d xs _ (by omega)
     · exact q73 d xs _ (by omega)
   · exact h
end
theorem q6u (d : Nat) : ∀ (xs : List JT) (n : Nat), n ≤ q25 d n xs
 | [], n => by rw [q25]; exact Nat.le_refl _
 | x :: xs, n => by
   rw [q25]
   split
   · exact Nat.le_trans (Nat.le_add_right _ _) (q6u d xs _)
   · exact Nat.le_refl _
mutual
theorem j6c (d : Nat) : ∀ (t : JT), q3k d t ≤ 2500 → q1n t + d ≤ 61
 | .mk k n s ks xs => fun h => by
   rw [q3k] at h
   split at h
   · omega
   · rename_i hd
     split at h
     · omega
     · rw [q1n]
       split
       · exact j1t d xs _ 1 (by omega) h
       · omega
theorem j1t (d : Nat) : ∀ (xs : List JT) (n m : Nat), m + d ≤ 61 → q25 d n xs ≤ 2500 → q2s m xs + d ≤ 61
 | [], n, m, hm, h => by rw [q2s]; exact hm
 | x :: xs, n, m, hm, h => by
   rw [q25] at h
   split at h
   · have h1 := q6u d xs (n + q3k (d + 1) x)
     have h2 := j6c (d + 1) x (by omega)
     rw [q2s]
     exact j1t d xs _ _ (by omega) h
   · omega
end
/-! A tree that is not great is small. -/
theorem j1w : ∀ (ys : List (List UInt8)) (n m : Nat), q39 n ys = some m → m ≤ 2500 → n + ys.length ≤ m ∧ ∀ y ∈ ys, y.length ≤ 2500
 | [], n, m, h, hm => by rw [q39] at h; obtain rfl := Option.some.inj h; exact ⟨by simp, by simp⟩
 | y :: ys, n, m, h, hm => by
   rw [q39] at h
   split at h
   · split at h
     · simp at h
     · obtain ⟨h1, h2⟩ := j1w ys _ m h hm
       refine ⟨by simp; omega, fun z hz => ?_⟩
       rcases List.mem_cons.1 hz with rfl | hz
       · omega
       · exact h2 z hz
   · obtain rfl := Option.some.inj h
     omega
mutual
theorem bulk_sm5 (d : Nat) : ∀ t : JT, q3k d t ≤ 2500 → t.sm 2500
 | .mk k n s ks xs => fun h => by
   rw [q3k] at h
   split at h
   · omega
   · rename_i h1
     split at h
     · omega
     · rename_i m hm
       have h2 := q6u d xs m
       obtain ⟨_, h3⟩ := j1w ks _ m hm (by omega)
       exact ⟨by omega, by omega, h3, by omega, j1u d m xs h⟩
theorem j1u (d n : Nat) : ∀ xs : List JT, q25 d n xs ≤ 2500 → JT.smL 2500 xs
 | [] => fun _ => trivial
 | x :: xs => fun h => by
   rw [q25] at h
   split at h
   · have := q6u d xs (n + q3k (d + 1) x)
     exact ⟨bulk_sm5 (d + 1) x (by omega), j1u d _ xs h⟩
   · omega
end

def FT.sm (N : Nat) (f : FT) : Prop := f.name.length ≤ N ∧ f.aliases.length ≤ N ∧ (∀ y ∈ f.aliases, y.length ≤ N) ∧ f.dflt.sm N
def NT.sm (N : Nat) (n : NT) : Prop := n.name.length ≤ N ∧ n.dflt.length ≤ N ∧ (n.aliases.length ≤ N ∧ ∀ y ∈ n.aliases, y.length ≤ N) ∧ (n.symbols.length ≤ N ∧ ∀ y ∈ n.symbols, y.length ≤ N) ∧ n.branches.length ≤ N ∧ (n.fields.length ≤ N ∧ ∀ f ∈ n.fields, f.sm N)
def ST.sm (N : Nat) (s : ST) : Prop := s.nodes.length ≤ N ∧ ∀ n ∈ s.nodes, n.sm N

theorem kids_told (n : NT) (hn : n.sm 1000000) : Told Tryz.prog 140 [n.av] (.c (.sl 1 ((q2u n).map iPV))) := by
 obtain ⟨L, hL⟩ : ∃ L, L = q2u n := ⟨_, rfl⟩
 rw [← hL]
 unfold q2u at hL
 have hfl := hn.2.2.2.2.2.1
 have hbl := hn.2.2.2.2.1
 rw [NT.av_eq, q41]
 refine VC.toldP ent_140 Tryz.func140 rfl Tryz.ntmps140 fun hb => ?_
 clear hb
 by_cases h9 : n.kind = 9
 · rw [if_pos h9] at hL
   subst hL
   rw [h9]
   refine q2i ?_
   refine VC.nil 3 3 1 (by rfl) (by trivial) (by rfl) ?_
   refine VC.loop (ι := {i : Nat // i ≤ n.fields.length}) (fun q => [(3, .row 88 q.1), (11, .c (.sl 9 (n.fields.map FT.cells))), (12, .c (.v (.int .i64 (n.fields.length : Int)))), (13, .c (.v (.int .i64 (q.1 : Int))))])
    (fun q => [(88, ⟨true, 3, 1, rA iPV ((n.fields.map (·.type)).take q.1)⟩)]) 800 (fun q => n.fields.length - q.1) ⟨0, Nat.zero_le _⟩ ?_ ?_
   · simp only [q0c, q08, q7j, Weak, eq_self, q07, q01, sc_c, q03, q04, q05, q00, q02, ScL, q06, List.forall_mem_map, go_sem, Int.reduceBEq, Int.reduceLE, Int.reduceLT, Int.reduceNeg, Nat.reduceAdd, Nat.reduceEqDiff, Nat.reduceLT, Nat.reduceLeDiff, Nat.reduceMul, Nat.reduceSub, reduceCtorEq, ↓reduceIte]
     try simp
   rintro ⟨i, hi⟩
   simp only []
   refine q0a ?_
   refine VC.cond (by rfl) (by trivial) (fun hc => ?_) (fun hc => ?_)
   · have hlt : i < n.fields.length := by simp at hc; omega
     obtain ⟨f, hx⟩ : ∃ f, n.fields[i]? = some f := ⟨n.fields[i], List.getElem?_eq_getElem hlt⟩
     have hw : IntKind.i64.wrap ((i : Int) + 1) = (i : Int) + 1 := q1i (by omega) (by omega)
     have hxp : (n.fields.map FT.cells)[i]? = some f.cells := by rw [List.getElem?_map, hx]; rfl
     have hl : (rA iPV ((n.fields.map (·.type)).take i)).length = i := by rw [q0c]; simp; omega
     have hr : rA iPV ((n.fields.map (·.type)).take i) ++ [[.c (.v (.int .i64 f.type))]] = rA iPV ((n.fields.map (·.type)).take (i + 1)) := by
      rw [List.take_add_one, List.getElem?_map, hx]
      exact rA_one iPV _ f.type
     have hl2 : (rA iPV ((n.fields.map (·.type)).take (i + 1))).length = i + 1 := by rw [q0c]; simp; omega
     refine q0b (And.intro hxp (And.intro @q58 (And.intro @q12 (And.intro @q2r (And.intro @q2h (And.intro hl (And.intro hr hw))))))) ?_
     refine .next ⟨i + 1, by omega⟩ ?_ (by simp only []; omega)
     refine q4l (And.intro hl2 @q08) ?_
     exact ⟨cI (by omega), Nat.le_refl _⟩
   · have hie : i = n.fields.length := by simp at hc; omega
     have htk : (n.fields.map (·.type)).take i = n.fields.map (·.type) := List.take_of_length_le (by simp; omega)
     rw [htk]
     refine q0b (hie) ?_
     refine retX Tryz.results140 ?_
     apply q4t (f := iPV) (l := n.fields.map (·.type)) (T := 3)
     · rfl
     · simp [hie]
     · rfl
     · simp [iPV]
 by_cases h11 : n.kind = 11
 · rw [if_neg h9, if_pos (.inl h11)] at hL
   subst hL
   rw [h11]
   refine q2i ?_
   refine retX Tryz.results140 ?_
   exact q4t (f := iPV) (l := [n.items]) rfl rfl rfl (by simp [iPV])
 by_cases h12 : n.kind = 12
 · rw [if_neg h9, if_pos (.inr h12)] at hL
   subst hL
   rw [h12]
   refine q2i ?_
   refine retX Tryz.results140 ?_
   exact q4t (f := iPV) (l := [n.items]) rfl rfl rfl (by simp [iPV])
 by_cases h13 : n.kind = 13
 · rw [if_neg h9, if_neg (by simp [h11, h12]), if_pos h13] at hL
   subst hL
   rw [h13]
   refine q2i ?_
   refine retX Tryz.results140 ?_
   refine q4t (f := iPV) (l := n.branches) (T := 3) ?_ ?_ rfl (by simp [iPV])
   · simp [q7x, q5v]
   · simp
 · rw [if_neg h9, if_neg (by simp [h11, h12]), if_neg h13] at hL
   subst hL
   have e9 : (n.kind == 9) = false := by simpa using h9
   have e11 : (n.kind == 11) = false := by simpa using h11
   have e12 : (n.kind == 12) = false := by simpa using h12
   have e13 : (n.kind == 13) = false := by simpa using h13
   refine q0w (And.intro e9 (And.intro e11 (And.intro e12 e13))) ?_
   refine retX Tryz.results140 ?_
   exact .nil _

def KnOk (kn : List Int) : Prop := ∀ x ∈ kn, -1 ≤ x ∧ x ≤ 1001
theorem KnOk.set {kn : List Int} (h : KnOk kn) (p : Nat) {v : Int} (hv : -1 ≤ v ∧ v ≤ 1001) : KnOk (kn.set p v) := fun x hx => by
 rcases List.mem_or_eq_of_mem_set hx with h1 | rfl
 · exact h x h1
 · exact hv
theorem j11 {kn : List Int} (p : Nat) {v : Int} (hv : v ≠ 0) : (kn.set p v).count 0 ≤ kn.count 0 := by
 by_cases hp : p < kn.length
 · rw [List.count_set hp]
   have : (v == 0) = false := by simpa using hv
   simp [this]
 · rw [List.set_eq_of_length_le (by omega)]
   exact Nat.le_refl _
theorem j5c {kn : List Int} {p : Nat} {v : Int} (hp : kn[p]? = some 0) (hv : v ≠ 0) : (kn.set p v).count 0 < kn.count 0 := by
 obtain ⟨hlt, h0⟩ := List.getElem?_eq_some_iff.1 hp
 rw [List.count_set hlt]
 have : (v == 0) = false := by simpa using hv
 have hpos : 0 < kn.count 0 := List.count_pos_iff.2 (h0 ▸ List.getElem_mem hlt)
 simp [this, h0]
 omega
theorem j4n (f : Nat → List Int → Int × List Int) (N : Nat) (hf : ∀ q kn, kn.length = N → KnOk kn → (f q kn).2.length = N ∧ KnOk (f q kn).2 ∧ (f q kn).2.count 0 ≤ kn.count 0 ∧ 1 ≤ (f q kn).1 ∧ (f q kn).1 ≤ 1001) :
  ∀ (xs : List FT) (n : Int) (kn : List Int), kn.length = N → KnOk kn → 1 ≤ n → n ≤ 1001 → (q2j f xs n kn).2.length = N ∧ KnOk (q2j f xs n kn).2 ∧ (q2j f xs n kn).2.count 0 ≤ kn.count 0 ∧ 1 ≤ (q2j f xs n kn).1 ∧ (q2j f xs n kn).1 ≤ 1001
 | [], n, kn, h1, h2, h3, h4 => ⟨h1, h2, Nat.le_refl _, h3, h4⟩
 | x :: xs, n, kn, h1, h2, h3, h4 => by
   rw [q2j]
   obtain ⟨a1, a2, a3, a4, a5⟩ := hf x.type.toNat kn h1 h2
   obtain ⟨b1, b2, b3, b4, b5⟩ := j4n f N hf xs (min (n + (f x.type.toNat kn).1) 1001) (f x.type.toNat kn).2 a1 a2 (by omega) (by omega)
   exact ⟨b1, b2, by omega, b4, b5⟩
theorem knAt_of {kn : List Int} {p : Nat} {v : Int} (h : kn[p]? = some v) : knAt kn p = v := by rw [knAt, h]
theorem j07 (ns : List NT) : ∀ (d q : Nat) (kn : List Int), kn.length = ns.length → KnOk kn → (q1s ns d q kn).2.length = ns.length ∧ KnOk (q1s ns d q kn).2 ∧ (q1s ns d q kn).2.count 0 ≤ kn.count 0 ∧ 1 ≤ (q1s ns d q kn).1 ∧ (q1s ns d q kn).1 ≤ 1001
 | 0, q, kn, h1, h2 => ⟨h1, h2, Nat.le_refl _, (by decide : (1 : Int) ≤ 1001), (by decide : (1001 : Int) ≤ 1001)⟩
 | d + 1, q, kn, h1, h2 => by
   rw [q1s]
   split
   · exact ⟨h1, h2, Nat.le_refl _, (by decide : (1 : Int) ≤ 1001), (by decide : (1001 : Int) ≤ 1001)⟩
   · split
     · rename_i h3 h4
       refine ⟨h1, h2, Nat.le_refl _, by omega, ?_⟩
       unfold knAt
       split
       · rename_i v hv
         exact (h2 v (List.mem_of_getElem? hv)).2
       · exact (by decide : (0 : Int) ≤ 1001)
     · obtain ⟨b1, b2, b3, b4, b5⟩ := j4n (q1s ns d) ns.length (j07 ns d) (q2x ns q) 1 (kn.set q (-1)) (by rw [List.length_set]; exact h1) (h2.set q (by decide)) (by decide) (by decide)
       have c1 := j11 (kn := kn) q (v := -1) (by decide)
       have c2 := j11 (kn := (q2j (q1s ns d) (q2x ns q) 1 (kn.set q (-1))).2) q (v := (q2j (q1s ns d) (q2x ns q) 1 (kn.set q (-1))).1) (by omega)
       exact ⟨by rw [List.length_set]; exact b1, b2.set q (by omega), by simp only []; omega, b4, b5⟩
theorem j6y (s : ST) (hl : s.nodes.length ≤ 1000000) (hs : ∀ n ∈ s.nodes, n.sm 1000000) (hr : ∀ n ∈ s.nodes, n.kind = 9 → ∀ f ∈ n.fields, 0 ≤ f.type ∧ f.type < (s.nodes.length : Int)) : ∀ (d p : Nat) (kn : List Int), p < s.nodes.length → kn.length = s.nodes.length → KnOk kn → kn.count 0 < d →
  ToldM Tryz.prog 54 [s.av, .c (.v (.int .i64 (p : Int))), .row 1000000 s.nodes.length] [⟨true, 3, 1, rA iPV kn⟩] [some ⟨true, 3, 1, rA iPV (q1s s.nodes d p kn).2⟩] (.c (.v (.int .i64 (q1s s.nodes d p kn).1))) := by
 intro d
 induction d with
 | zero => intro p kn _ _ _ h; omega
 | succ d ih =>
 intro p kn hp hk hko hc
 obtain ⟨R, hR⟩ : ∃ R, R = q1s s.nodes (d + 1) p kn := ⟨_, rfl⟩
 rw [← hR]
 rw [q1s] at hR
 obtain ⟨v, hv⟩ : ∃ v, kn[p]? = some v := ⟨kn[p]'(by omega), List.getElem?_eq_getElem (by omega)⟩
 rw [knAt_of hv] at hR
 have hvp : (rA iPV kn)[p]? = some [.c (.v (.int .i64 v))] := rA_at hv
 have hkl : (rA iPV kn).length = s.nodes.length := by rw [q0c, hk]
 obtain ⟨N, hN⟩ : ∃ N, N = s.nodes.length := ⟨_, rfl⟩
 rw [ST.av_eq, q44]
 by_cases hv0 : v < 0
 · rw [if_pos hv0] at hR
   subst hR
   have e0 : decide (v < 0) = true := by simpa using hv0
   refine VC.toldXF (And.intro @q0c (And.intro @q08 hk)) ent_54 [] Tryz.func54 rfl Tryz.ntmps54 fun hb hbL => ?_
   clear hb hbL
   refine q0w (And.intro hvp (And.intro hkl e0)) ?_
   refine q1r (@q0d) Tryz.results54 ?_
   exact .c _
 have e0 : decide (v < 0) = false := by simpa using hv0
 rw [if_neg hv0] at hR
 by_cases hv1 : 0 < v
 · rw [if_pos hv1] at hR
   subst hR
   have e1 : decide (v > 0) = true := by simpa using hv1
   refine VC.toldXF (And.intro @q0c (And.intro @q08 hk)) ent_54 [] Tryz.func54 rfl Tryz.ntmps54 fun hb hbL => ?_
   clear hb hbL
   refine q0w (And.intro hvp (And.intro hkl (And.intro e0 e1))) ?_
   refine q1r (@q0d) Tryz.results54 ?_
   exact .c _
 have e1 : decide (v > 0) = false := by simpa using hv1
 rw [if_neg hv1] at hR
 obtain rfl : v = 0 := by omega
 obtain ⟨n, hn⟩ : ∃ n, s.nodes[p]? = some n := ⟨s.nodes[p], List.getElem?_eq_getElem hp⟩
 have hnp : (s.nodes.map NT.cells)[p]? = some n.cells := by rw [List.getElem?_map, hn]; rfl
 have hns := hs n (List.mem_of_getElem? hn)
 have hfl := hns.2.2.2.2.2.1
 have hset : (rA iPV kn).set p [.c (.v (.int .i64 (-1)))] = rA iPV (kn.set p (-1)) := rA_set kn p (-1)
 have hfa : q2x s.nodes p = if n.kind = 9 then n.fields else [] := by rw [q2x, hn]
 obtain ⟨K0, hK0⟩ : ∃ K, K = q2j (q1s s.nodes d) (q2x s.nodes p) 1 (kn.set p (-1)) := ⟨_, rfl⟩
 rw [← hK0] at hR
 subst hR
 have hct := j5c (v := -1) hv (by decide)
 refine VC.toldXF (And.intro @q0c (And.intro @q08 hk)) ent_54 [] Tryz.func54 rfl Tryz.ntmps54 fun hb hbL => ?_
 clear hb hbL
 refine q0w (And.intro hvp (And.intro hkl (And.intro e0 (And.intro e1 (And.intro hset (And.intro hnp @q41)))))) ?_
 refine VC.loop (ι := {x : Nat × (Int × List Int) // x.1 ≤ n.fields.length ∧ x.2.2.length = s.nodes.length ∧ KnOk x.2.2 ∧ x.2.2.count 0 < kn.count 0 ∧ 1 ≤ x.2.1 ∧ x.2.1 ≤ 1001 ∧ (if n.kind = 9 then q2j (q1s s.nodes d) (n.fields.drop x.1) x.2.1 x.2.2 else (x.2.1, x.2.2)) = K0})
  (fun q => [(1, .c (.v (.int .i64 (p : Int)))), (2, .row 1000000 s.nodes.length), (3, .ref 0 1 0 0), (7, .c (.v (.int .i64 q.1.2.1))), (34, .c (.sl 9 (n.fields.map FT.cells))), (35, .c (.v (.int .i64 (n.fields.length : Int)))), (36, .c (.v (.int .i64 (q.1.1 : Int))))])
  (fun q => [(0, ⟨false, 30, 2, [[.c (.sl 10 (s.nodes.map NT.cells)), .c (.v (.int .i64 s.root))]]⟩), (1000000, ⟨true, 3, 1, rA iPV q.1.2.2⟩)]) 800 (fun q => n.fields.length - q.1.1)
  ⟨(0, (1, kn.set p (-1))), Nat.zero_le _, by simp only []; rw [List.length_set]; exact hk, hko.set p (by decide), hct, by simp only []; omega, by simp only []; omega, by
    rw [hK0, hfa]
    split
    · rw [List.drop_zero]
    · rfl⟩ ?_ ?_
 · simp only [q0c, q08, hk, List.length_set, Weak, eq_self, q07, q01, sc_c, q03, q04, q05, q00, q02, ScL, q06, List.forall_mem_map, go_sem, Int.reduceBEq, Int.reduceLE, Int.reduceLT, Int.reduceNeg, Nat.reduceAdd, Nat.reduceEqDiff, Nat.reduceLT, Nat.reduceLeDiff, Nat.reduceMul, Nat.reduceSub, reduceCtorEq, ↓reduceIte]
   try simp
 clear hK0 hct hv hvp hset
 rintro ⟨⟨i, m, kn'⟩, hi, hk', hko', hc', hm1, hm2, hK⟩
 simp only [] at hi hk' hko' hc' hm1 hm2 hK ⊢
 have hkl' : (rA iPV kn').length = s.nodes.length := by rw [q0c, hk']
 refine q0a ?_
 refine VC.cond (by rfl) (by trivial) (fun hc2 => ?_) (fun hc2 => ?_)
 · have hil : i < n.fields.length := by simp at hc2; omega
   obtain ⟨f, hx⟩ : ∃ f, n.fields[i]? = some f := ⟨n.fields[i], List.getElem?_eq_getElem hil⟩
   have hxp : (n.fields.map FT.cells)[i]? = some f.cells := by rw [List.getElem?_map, hx]; rfl
   have hw : IntKind.i64.wrap ((i : Int) + 1) = (i : Int) + 1 := q1i (by omega) (by omega)
   by_cases h9 : n.kind = 9
   · have e9 : (n.kind == 9) = true := by simpa using h9
     obtain ⟨h0, h1⟩ := hr n (List.mem_of_getElem? hn) h9 f (List.mem_of_getElem? hx)
     obtain ⟨q, hq⟩ : ∃ q : Nat, f.type = (q : Int) := ⟨f.type.toNat, by omega⟩
     have hI := ih q kn' (by omega) hk' hko' (by omega)
     obtain ⟨w1, w2, w3, w4, w5⟩ := j07 s.nodes d q kn' hk' hko'
     rw [if_pos h9, (List.drop_eq_getElem_cons hil).trans (by rw [(List.getElem?_eq_some_iff.1 hx).2]), q2j, hq, Int.toNat_natCast] at hK
     obtain ⟨M, hM⟩ : ∃ M, M = q1s s.nodes d q kn' := ⟨_, rfl⟩
     rw [← hM] at hI hK w1 w2 w3 w4 w5
     clear ih hM
     have hww : IntKind.i64.wrap (m + M.1) = m + M.1 := q1i (by omega) (by omega)
     have hkl2 : (rA iPV M.2).length = s.nodes.length := by rw [q0c, w1]
     simp only [ST.av_eq, q44, List.map_cons, List.map_nil] at hI
     refine q0w (And.intro hxp (And.intro @q58 (And.intro @q12 (And.intro @q2r (And.intro @q2h (And.intro hnp (And.intro @q41 (And.intro e9 (And.intro hkl' hq))))))))) ?_
     refine q0p (And.intro hkl' (And.intro hq @q0d)) [1000000] (hI) ?_
     refine q0b (And.intro hww (And.intro hw hkl2)) ?_
     refine .next ⟨(i + 1, (min (m + M.1) 1001, M.2)), by simp only []; omega, w1, w2, by simp only []; omega, by simp only []; omega, by simp only []; omega, by simp only []; rw [if_pos h9]; exact hK⟩ ?_ (by simp only []; omega)
     refine q4l (And.intro @q0c (And.intro @q08 (And.intro @q0d w1))) ?_
     exact ⟨cI (by omega), Nat.le_refl _⟩
   · have e9 : (n.kind == 9) = false := by simpa using h9
     rw [if_neg h9] at hK
     refine q0w (And.intro hxp (And.intro @q58 (And.intro @q12 (And.intro @q2r (And.intro @q2h (And.intro hnp (And.intro @q41 (And.intro e9 hw)))))))) ?_
     refine .next ⟨(i + 1, (m, kn')), by simp only []; omega, hk', hko', hc', hm1, hm2, by simp only []; rw [if_neg h9]; exact hK⟩ ?_ (by simp only []; omega)
     refine q4l (And.intro @q0c (And.intro @q08 hk')) ?_
     exact ⟨cI (by omega), Nat.le_refl _⟩
 · have hie : i = n.fields.length := by simp at hc2; omega
   have hf : K0 = (m, kn') := by
    rw [← hK]
    split
    · rw [hie, List.drop_length, q2j]
    · rfl
   subst hf
   have hset : (rA iPV kn').set p [.c (.v (.int .i64 m))] = rA iPV (kn'.set p m) := rA_set kn' p m
   obtain ⟨u, hu⟩ : ∃ u, kn'[p]? = some u := ⟨kn'[p]'(by omega), List.getElem?_eq_getElem (by omega)⟩
   have hup : (rA iPV kn')[p]? = some [.c (.v (.int .i64 u))] := rA_at hu
   refine q0b (And.intro hkl' (And.intro hup hset)) ?_
   refine q1r (@q0d) Tryz.results54 ?_
   exact .c _

def foldW (g : Nat → Int) : List FT → Int → Int
 | [], n => n
 | x :: xs, n => foldW g xs (min (n + g x.type.toNat) 1001)
structure IsG (ns : List NT) (G : Nat → Int) : Prop where
 range : ∀ p, 1 ≤ G p ∧ G p ≤ 1001
 fix : ∀ p, p < ns.length → G p = foldW G (q2x ns p) 1
 top : ∀ S : Nat → Prop, (∀ q, S q → ∃ x ∈ q2x ns q, S x.type.toNat) → ∀ q, S q → G q = 1001
def Edge (ns : List NT) (p q : Nat) : Prop := ∃ x ∈ q2x ns p, x.type.toNat = q
inductive Way (ns : List NT) : Nat → Nat → Prop
 | one {p q : Nat} (h : Edge ns p q) : Way ns p q
 | step {p q r : Nat} (h : Edge ns p q) (w : Way ns q r) : Way ns p r
theorem Way.tail {ns : List NT} {p q r : Nat} (w : Way ns p q) (h : Edge ns q r) : Way ns p r := by
 induction w with
 | one h1 => exact .step h1 (.one h)
 | step h1 _ ih => exact .step h1 (ih h)
structure Memo (ns : List NT) (G : Nat → Int) (kn : List Int) (p : Nat) : Prop where
 len : kn.length = ns.length
 ok : KnOk kn
 pos : ∀ (j : Nat) (v : Int), kn[j]? = some v → 0 < v → v = G j
 neg : ∀ (j : Nat) (v : Int), kn[j]? = some v → v < 0 → Way ns j p
structure Kept (ns : List NT) (G : Nat → Int) (kn kn' : List Int) : Prop where
 len : kn'.length = ns.length
 ok : KnOk kn'
 pos : ∀ (j : Nat) (v : Int), kn'[j]? = some v → 0 < v → v = G j
 neg : ∀ (j : Nat) (v : Int), kn'[j]? = some v → v < 0 → ∃ u, kn[j]? = some u ∧ u < 0
 cnt : kn'.count 0 ≤ kn.count 0
def wOf (ns : List NT) (p : Nat) : Int := (q1s ns (ns.length + 1) p (List.replicate ns.length 0)).1

/-! Names by their last dot. -/
def sp1 : List UInt8 → List UInt8 × List (List UInt8)
 | [] => ([], [])
 | c :: cs => if c = 46 then ([], (sp1 cs).1 :: (sp1 cs).2) else (c :: (sp1 cs).1, (sp1 cs).2)
def okF (s : List UInt8) : Bool := q2p (sp1 s).1 && (sp1 s).2.all q2p
theorem q9e : ∀ t : List UInt8, 46 ∉ t → sp1 t = (t, [])
 | [], _ => rfl
 | c :: cs, h => by
   have hc : c ≠ 46 := fun e => h (e ▸ List.mem_cons_self)
   rw [sp1, if_neg hc, q9e cs fun hm => h (List.mem_cons_of_mem _ hm)]
theorem sp1_dot {t : List UInt8} (ht : 46 ∉ t) : ∀ s : List UInt8, sp1 (s ++ 46 :: t) = ((sp1 s).1, (sp1 s).2 ++ [t])
 | [] => by
   have e : sp1 (46 :: t) = ([], (sp1 t).1 :: (sp1 t).2) := by rw [sp1.eq_2, if_pos rfl]
   rw [List.nil_append, e, q9e t ht]
   rfl
 | c :: cs => by
   rw [List.cons_append, sp1, sp1, sp1_dot ht cs]
   split
   · rfl
   · rfl
theorem okF_none {t : List UInt8} (h : 46 ∉ t) : okF t = q2p t := by
 rw [okF, q9e t h]
 simp
theorem okF_dot {t : List UInt8} (ht : 46 ∉ t) (s : List UInt8) : okF (s ++ 46 :: t) = (okF s && q2p t) := by
 rw [okF, sp1_dot ht, okF]
 simp [List.all_append, Bool.and_assoc]
theorem j39 : ∀ s : List UInt8, (sp1 s).1 = s.takeWhile (· != 46) ∧ (sp1 s).2 = match s.dropWhile (· != 46) with | [] => [] | _ :: r => (sp1 r).1 :: (sp1 r).2
 | [] => ⟨rfl, rfl⟩
 | c :: cs => by
   obtain ⟨h1, h2⟩ := j39 cs
   by_cases h : c = 46
   · subst h
     exact ⟨by simp [sp1], by simp [sp1]⟩
   · have hb : (c != 46) = true := by simp [h]
     rw [sp1, if_neg h, List.takeWhile_cons, List.dropWhile_cons, if_pos hb, if_pos hb]
     exact ⟨by rw [h1], h2⟩
theorem j2h : ∀ (n : Nat) (s : List UInt8), s.length < n → q3g n s = okF s
 | 0, _, h => by omega
 | n + 1, s, h => by
   obtain ⟨h1, h2⟩ := j39 s
   rw [q3g, okF, h1, h2]
   congr 1
   have hd : (s.dropWhile (· != 46)).length ≤ s.length := (List.dropWhile_sublist _).length_le
   cases hr : s.dropWhile (· != 46) with
   | nil => rfl
   | cons x r =>
     rw [hr] at hd
     simp at hd
     simp only []
     rw [j2h n r (by omega), List.all_cons]
     rfl
theorem q8n (s : List UInt8) : q2c s = (decide (s.length ≤ 100) && okF s) := by rw [q2c, j2h _ s (by omega)]
def dotA : Nat → Int → List UInt8 → Int
 | _, a, [] => a
 | i, a, c :: cs => dotA (i + 1) (if c = 46 then (i : Int) else a) cs
def dotI (s : List UInt8) : Int := dotA 0 (-1) s
theorem j12 : ∀ (l : List UInt8) (i : Nat) (a : Int), (46 ∉ l ∧ dotA i a l = a) ∨ ∃ j : Nat, j < l.length ∧ l[j]? = some 46 ∧ 46 ∉ l.drop (j + 1) ∧ dotA i a l = ((i + j : Nat) : Int)
 | [], i, a => .inl ⟨by simp, rfl⟩
 | c :: cs, i, a => by
   rw [dotA]
   rcases j12 cs (i + 1) (if c = 46 then (i : Int) else a) with ⟨h1, h2⟩ | ⟨j, h0, h1, h2, h3⟩
   · by_cases hc : c = 46
     · rw [if_pos hc] at h2 ⊢
       exact .inr ⟨0, by simp, by simp [hc], by simpa using h1, by rw [h2]; simp⟩
     · rw [if_neg hc] at h2 ⊢
       refine .inl ⟨?_, h2⟩
       intro hm
       rcases List.mem_cons.1 hm with e | hm
       · exact hc e.symm
       · exact h1 hm
   · exact .inr ⟨j + 1, by simp; omega, by simpa using h1, by simpa using h2, by rw [h3]; congr 1; omega⟩
theorem q4p (l : List UInt8) : (46 ∉ l ∧ dotI l = -1) ∨ ∃ j : Nat, j < l.length ∧ dotI l = (j : Int) ∧ l = l.take j ++ 46 :: l.drop (j + 1) ∧ 46 ∉ l.drop (j + 1) := by
 rcases j12 l 0 (-1) with h | ⟨j, h0, h1, h2, h3⟩
 · exact .inl h
 · refine .inr ⟨j, h0, by rw [dotI, h3]; simp, ?_, h2⟩
   obtain ⟨hlt, he⟩ := List.getElem?_eq_some_iff.1 h1
   conv => lhs; rw [← List.take_append_drop j l, List.drop_eq_getElem_cons hlt, he]
/-! Nodes that are met. -/
/-! Weights by rounds. -/
end
end Go.Proofs.YthkofkaocipomaaGreatDoor
