/- Texts that lead to the law DecodeOne, joined. -/
import Derived.Test.YtepneflbhpidbaaGreatDoorProg
import Derived.WalkKit
import Derived.WalkSpells
import Derived.WalkLawsBesides
import Derived.Handy
import Derived.Lib.Hide
import Derived.Laws.BytesArg
import Derived.Lib.SlBytesConst
import Derived.Test.YtepneflbhpidbaaGreatDoorPkDecodeOneXTy
import Derived.Test.YtepneflbhpidbaaGreatDoorPkDecodeOneXAbB
import Derived.Test.YtepneflbhpidbaaGreatDoorPkDecodeOneXAc
import Derived.Laws.CopyOwn
namespace Go.Proofs.YtepneflbhpidbaaGreatDoor
set_option maxRecDepth 100000
set_option maxHeartbeats 6400000
open Go.RowKit
set_option linter.unusedVariables false
set_option linter.unusedSimpArgs false

def q7p (w : World) (a : Option Addr) (b off : Nat) (l : List UInt8) : Prop :=
 (l ≠ [] → a = some ⟨b, off, none⟩) ∧ ∀ j, j < l.length → w.cell? ⟨b, off + j, none⟩ = some (.int .u8 ((l[j]?.getD 0).toNat : Int))
def str (l : List UInt8) : ByteArray := ⟨l.toArray⟩
theorem q17 (l : List UInt8) : (str l).toList = l := by rw [ByteArray.toList_eq]; rfl
theorem q2a (l : List UInt8) : (str l).size = l.length := by simp [str, ByteArray.size]
theorem str_of (s : ByteArray) : str s.data.toList = s := by cases s; rfl
theorem q7p.keep {w w' : World} {a : Option Addr} {b off : Nat} {l : List UInt8} (h : q7p w a b off l) {B : Nat} (hb : Below B w w') (hlt : l ≠ [] → b < B) : q7p w' a b off l := by
 refine ⟨h.1, fun j hj => ?_⟩
 rw [← h.2 j hj]
 exact hb.cell (p := ⟨b, off + j, none⟩) (hlt (by intro e; subst e; simp at hj))
theorem q7p.lt {w : World} {a : Option Addr} {b off : Nat} {l : List UInt8} (h : q7p w a b off l) (hne : l ≠ []) : b < w.heap.size := by
 have := h.2 0 (List.length_pos_iff.2 hne)
 rcases Nat.lt_or_ge b w.heap.size with h | h
 · exact h
 · simp [World.cell?, Array.getElem?_eq_none h] at this
theorem q7p.below {w w' : World} {a : Option Addr} {b off : Nat} {l : List UInt8} (h : q7p w a b off l) (hb : Below w.heap.size w w') : q7p w' a b off l :=
 h.keep hb fun hne => h.lt hne

inductive JT where
 | mk (k : Int) (n : Int) (s : List UInt8) (ks : List (List UInt8)) (xs : List JT)
def idxS (key : List UInt8) (ks : List (List UInt8)) : Int := match ks.findIdx? (fun k => decide (key = k)) with | some i => (i : Int) | none => -1
theorem idxS_at {key : List UInt8} {ks : List (List UInt8)} {i : Nat} (h : ks[i]? = some key) (h0 : ∀ j, j < i → ks[j]? ≠ some key) : idxS key ks = (i : Int) := by
 unfold idxS
 have hi := (List.getElem?_eq_some_iff.1 h)
 have : ks.findIdx? (fun k => decide (key = k)) = some i := by
  rw [List.findIdx?_eq_some_iff_getElem]
  refine ⟨hi.1, by simp [hi.2], fun j hj => ?_⟩
  simp
  intro e
  exact h0 j hj (by rw [List.getElem?_eq_getElem (by have := hi.1; omega), e])
 rw [this]
theorem idxS_none {key : List UInt8} {ks : List (List UInt8)} (h0 : ∀ j, j < ks.length → ks[j]? ≠ some key) : idxS key ks = -1 := by
 unfold idxS
 have : ks.findIdx? (fun k => decide (key = k)) = none := by
  rw [List.findIdx?_eq_none_iff]
  intro x hx
  simp
  intro e
  obtain ⟨j, hj, hx⟩ := List.getElem_of_mem hx
  exact h0 j hj (by rw [List.getElem?_eq_getElem hj, hx, e])
 rw [this]

mutual
def JT.inr : JT → Prop
 | .mk k n s ks xs => (-9223372036854775808 ≤ n ∧ n ≤ 9223372036854775807) ∧ JT.inrL xs
def JT.inrL : List JT → Prop
 | [] => True
 | x :: xs => x.inr ∧ JT.inrL xs
end
theorem inrL_of : ∀ {xs : List JT}, (∀ x ∈ xs, x.inr) → JT.inrL xs
 | [], _ => trivial
 | x :: xs, h => ⟨h x (by simp), inrL_of fun y hy => h y (by simp [hy])⟩

def sPV (s : List UInt8) : List PV := [.v (.string (str s))]
theorem q4c (s : List UInt8) : sPV s = [.v (.string (str s))] := rfl
theorem q6s (l : List UInt8) : (str l).data.toList = l := by simp [str]
mutual
def JT.cells : JT → List PV
 | .mk k n s ks xs => [.v (.int .i64 k), .v (.int .i64 n), .v (.string (str s)), .sl 5 (JT.cellsL xs), .sl 1 (ks.map sPV)]
def JT.cellsL : List JT → List (List PV)
 | [] => []
 | x :: xs => x.cells :: JT.cellsL xs
end
theorem j8h : ∀ (xs : List JT), JT.cellsL xs = xs.map JT.cells
 | [] => by simp [JT.cellsL]
 | x :: xs => by simp [JT.cellsL, j8h xs]
def JT.av (t : JT) : AV := .agg (t.cells.map .c)
theorem JT.av_eq (t : JT) : t.av = .agg (t.cells.map .c) := rfl
mutual
def q2b : JT → Nat
 | .mk k n s ks xs => if k = 5 ∨ k = 6 then q3i 1 xs else 0
def q3i : Nat → List JT → Nat
 | n, [] => n
 | n, x :: xs => q3i (max n (1 + q2b x)) xs
end
theorem q0n (k n : Int) (s : List UInt8) (ks : List (List UInt8)) (xs : List JT) : (JT.mk k n s ks xs).cells = [.v (.int .i64 k), .v (.int .i64 n), .v (.string (str s)), .sl 5 (xs.map JT.cells), .sl 1 (ks.map sPV)] := by simp [JT.cells, j8h]
theorem q1z (t : JT) : t.cells.length = 5 := by cases t; simp [JT.cells]
theorem q18 (t : JT) : t.cells.take 5 = t.cells := List.take_of_length_le (by rw [q1z]; exact Nat.le_refl _)
theorem q19 (t : JT) : (t.cells.map AV.c).take 5 = t.cells.map .c := List.take_of_length_le (by rw [List.length_map, q1z]; exact Nat.le_refl _)
theorem z04 : ∀ (xs : List JT) (x : JT) (n : Nat), q3i n (xs ++ [x]) = max (q3i n xs) (1 + q2b x)
 | [], x, n => by simp [q3i]
 | y :: xs, x, n => by simp only [List.cons_append, q3i]; exact z04 xs x _
theorem z03 : ∀ (xs : List JT) (n : Nat), n ≤ q3i n xs ∧ ∀ x ∈ xs, q2b x + 1 ≤ q3i n xs
 | [], n => ⟨Nat.le_refl _, by simp⟩
 | y :: xs, n => by
   obtain ⟨h1, h2⟩ := z03 xs (max n (1 + q2b y))
   simp only [q3i]
   refine ⟨by omega, fun x hx => ?_⟩
   rcases List.mem_cons.1 hx with rfl | hx
   · omega
   · exact h2 x hx

def iPV (n : Int) : List PV := [.v (.int .i64 n)]
structure FT where
 name : List UInt8
 aliases : List (List UInt8)
 type : Int
 has : Bool
 dflt : JT
def FT.cells (f : FT) : List PV := .v (.string (str f.name)) :: .sl 1 (f.aliases.map sPV) :: .v (.int .i64 f.type) :: .v (.bool f.has) :: f.dflt.cells
structure NT where
 kind : Int
 name : List UInt8
 aliases : List (List UInt8)
 fields : List FT
 symbols : List (List UInt8)
 has : Bool
 dflt : List UInt8
 size : Int
 items : Int
 branches : List Int
def NT.cells (n : NT) : List PV := [.v (.int .i64 n.kind), .v (.string (str n.name)), .sl 1 (n.aliases.map sPV), .sl 9 (n.fields.map FT.cells), .sl 1 (n.symbols.map sPV), .v (.bool n.has), .v (.string (str n.dflt)), .v (.int .i64 n.size), .v (.int .i64 n.items), .sl 1 (n.branches.map iPV)]
structure ST where
 nodes : List NT
 root : Int
def ST.cells (s : ST) : List PV := [.sl 10 (s.nodes.map NT.cells), .v (.int .i64 s.root)]
def FT.av (f : FT) : AV := .agg (f.cells.map .c)
def NT.av (n : NT) : AV := .agg (n.cells.map .c)
def ST.av (s : ST) : AV := .agg (s.cells.map .c)
theorem FT.av_eq (f : FT) : f.av = .agg (f.cells.map .c) := rfl
theorem NT.av_eq (n : NT) : n.av = .agg (n.cells.map .c) := rfl
theorem ST.av_eq (s : ST) : s.av = .agg (s.cells.map .c) := rfl
theorem q3b (n : Int) : iPV n = [.v (.int .i64 n)] := rfl
theorem q0d (n : NT) : n.cells = [.v (.int .i64 n.kind), .v (.string (str n.name)), .sl 1 (n.aliases.map sPV), .sl 9 (n.fields.map FT.cells), .sl 1 (n.symbols.map sPV), .v (.bool n.has), .v (.string (str n.dflt)), .v (.int .i64 n.size), .v (.int .i64 n.items), .sl 1 (n.branches.map iPV)] := rfl
theorem q0i (s : ST) : s.cells = [.sl 10 (s.nodes.map NT.cells), .v (.int .i64 s.root)] := rfl
theorem q3h (f : FT) : f.cells = .v (.string (str f.name)) :: .sl 1 (f.aliases.map sPV) :: .v (.int .i64 f.type) :: .v (.bool f.has) :: f.dflt.cells := rfl
theorem j3x (f : FT) : f.cells.length = 9 := by simp [FT.cells, q1z]
theorem q1m (n : NT) : n.cells.length = 10 := rfl
theorem q23 (s : ST) : s.cells.length = 2 := rfl
theorem z0y (f : FT) : f.cells.take 9 = f.cells := List.take_of_length_le (by rw [j3x]; exact Nat.le_refl _)
theorem z0z (f : FT) : (f.cells.map AV.c).take 9 = f.cells.map .c := List.take_of_length_le (by rw [List.length_map, j3x]; exact Nat.le_refl _)
theorem j6v (n : NT) : n.cells.take 10 = n.cells := rfl
theorem j6w (n : NT) : (n.cells.map AV.c).take 10 = n.cells.map .c := rfl
theorem q26 (s : ST) : s.cells.take 2 = s.cells := rfl
theorem q27 (s : ST) : (s.cells.map AV.c).take 2 = s.cells.map .c := rfl
/-! The order of a schema's nodes. -/
def q1h (k : Int) : Bool := k == 9 || k == 10 || k == 14
def q1e (n : NT) : List Int := if n.kind = 9 then n.fields.map (·.type) else if n.kind = 11 ∨ n.kind = 12 then [n.items] else if n.kind = 13 then n.branches else []
def q3c (ns : List NT) (k : Nat) : Int := match ns[k]? with | some n => n.kind | none => 0
def q40 (ns : List NT) (f : Nat → Bool × Nat) : List Int → Nat → Bool × Nat
 | [], p => (true, p)
 | k :: ks, p => if k = (p : Int) then (if (f p).1 = true then q40 ns f ks (f p).2 else (false, (f p).2)) else if k < 0 ∨ k > (p : Int) ∨ q1h (q3c ns k.toNat) = false then (false, p) else q40 ns f ks p
def q2n (ns : List NT) : Nat → Nat → Bool × Nat
 | 0, p => (false, p)
 | d + 1, p => match ns[p]? with | none => (false, p) | some n => q40 ns (q2n ns d) (q1e n) (p + 1)
def q38 (s : ST) : Bool := decide (0 < s.nodes.length) && (decide (s.nodes.length ≤ 200) && (decide (s.root = 0) && ((q2n s.nodes 33 0).1 && decide ((q2n s.nodes 33 0).2 = s.nodes.length))))
theorem j7d (ns : List NT) (f : Nat → Bool × Nat) (hf : ∀ p, p ≤ ns.length → p ≤ (f p).2 ∧ (f p).2 ≤ ns.length) : ∀ (ks : List Int) (p : Nat), p ≤ ns.length → p ≤ (q40 ns f ks p).2 ∧ (q40 ns f ks p).2 ≤ ns.length
 | [], p, h => ⟨Nat.le_refl _, h⟩
 | k :: ks, p, h => by
   rw [q40]
   have h1 := hf p h
   split
   · split
     · have h2 := j7d ns f hf ks (f p).2 h1.2
       omega
     · exact h1
   · split
     · exact ⟨Nat.le_refl _, h⟩
     · exact j7d ns f hf ks p h
theorem j4u (ns : List NT) : ∀ (d p : Nat), p ≤ ns.length → p ≤ (q2n ns d p).2 ∧ (q2n ns d p).2 ≤ ns.length
 | 0, p, h => ⟨Nat.le_refl _, h⟩
 | d + 1, p, h => by
   rw [q2n]
   split
   · exact ⟨Nat.le_refl _, h⟩
   · rename_i n hn
     have hp : p < ns.length := (List.getElem?_eq_some_iff.1 hn).1
     have := j7d ns _ (j4u ns d) (q1e n) (p + 1) hp
     omega
def Stand (ns : List NT) (a b : Nat) : Prop :=
 (∀ (i : Nat) (n : NT), a ≤ i → i < b → ns[i]? = some n → ∀ k ∈ q1e n, 0 ≤ k ∧ k < (b : Int) ∧ (k ≤ (i : Int) → q1h (q3c ns k.toNat) = true)) ∧ (∀ i : Nat, a < i → i < b → ∃ (j : Nat) (n : NT), a ≤ j ∧ j < i ∧ ns[j]? = some n ∧ (i : Int) ∈ q1e n)
def Met (ns : List NT) (a : Nat) (done : List Int) (b : Nat) : Prop :=
 a < b ∧ (∀ k ∈ done, 0 ≤ k ∧ k < (b : Int) ∧ (k ≤ (a : Int) → q1h (q3c ns k.toNat) = true)) ∧ (∀ (i : Nat) (n : NT), a < i → i < b → ns[i]? = some n → ∀ k ∈ q1e n, 0 ≤ k ∧ k < (b : Int) ∧ (k ≤ (i : Int) → q1h (q3c ns k.toNat) = true))
  ∧ (∀ i : Nat, a < i → i < b → (i : Int) ∈ done ∨ ∃ (j : Nat) (n : NT), a < j ∧ j < i ∧ ns[j]? = some n ∧ (i : Int) ∈ q1e n)
theorem j7e (ns : List NT) (f : Nat → Bool × Nat) (hf : ∀ p q, f p = (true, q) → p < q ∧ Stand ns p q) (a : Nat) : ∀ (ks : List Int) (done : List Int) (p q : Nat), Met ns a done p → q40 ns f ks p = (true, q) → Met ns a (done ++ ks) q
 | [], done, p, q, h, hw => by
   rw [q40] at hw
   obtain rfl : p = q := (Prod.mk.inj hw).2
   rwa [List.append_nil]
 | k :: ks, done, p, q, h, hw => by
   rw [q40] at hw
   obtain ⟨h0, h1, h2, h3⟩ := h
   have hc : done ++ k :: ks = (done ++ [k]) ++ ks := by simp
   rw [hc]
   split at hw
   · rename_i hk
     split at hw
     · rename_i hb
       obtain ⟨hlt, hs⟩ := hf p (f p).2 (by rw [← hb])
       refine j7e ns f hf a ks (done ++ [k]) (f p).2 q ⟨by omega, ?_, ?_, ?_⟩ hw
       · intro k' hk'
         rcases List.mem_append.1 hk' with h | h
         · have := h1 k' h
           exact ⟨this.1, by omega, this.2.2⟩
         · obtain rfl := List.mem_singleton.1 h
           exact ⟨by omega, by omega, fun h => by omega⟩
       · intro i n hi1 hi2 hn k' hk'
         by_cases hip : i < p
         · have := h2 i n hi1 hip hn k' hk'
           exact ⟨this.1, by omega, this.2.2⟩
         · exact hs.1 i n (by omega) hi2 hn k' hk'
       · intro i hi1 hi2
         by_cases hip : i < p
         · rcases h3 i hi1 hip with h | h
           · exact .inl (List.mem_append.2 (.inl h))
           · exact .inr h
         · by_cases hie : i = p
           · exact .inl (List.mem_append.2 (.inr (by rw [hie, hk]; simp)))
           · obtain ⟨j, n, hj1, hj2, hn, hm⟩ := hs.2 i (by omega) hi2
             exact .inr ⟨j, n, by omega, hj2, hn, hm⟩
     · simp at hw
   · rename_i hk
     split at hw
     · simp at hw
     · rename_i hc2
       refine j7e ns f hf a ks (done ++ [k]) p q ⟨h0, ?_, h2, ?_⟩ hw
       · intro k' hk'
         rcases List.mem_append.1 hk' with h | h
         · exact h1 k' h
         · obtain rfl := List.mem_singleton.1 h
           have hnn : q1h (q3c ns k'.toNat) = true := by
            cases hb : q1h (q3c ns k'.toNat) with
            | true => rfl
            | false => exact absurd (.inr (.inr hb)) hc2
           have : ¬ (k' < 0) := fun h => hc2 (.inl h)
           have : ¬ (k' > (p : Int)) := fun h => hc2 (.inr (.inl h))
           exact ⟨by omega, by omega, fun _ => hnn⟩
       · intro i hi1 hi2
         rcases h3 i hi1 hi2 with h | h
         · exact .inl (List.mem_append.2 (.inl h))
         · exact .inr h
theorem z1z (ns : List NT) : ∀ (d p q : Nat), q2n ns d p = (true, q) → p < q ∧ Stand ns p q
 | 0, p, q, h => by simp [q2n] at h
 | d + 1, p, q, h => by
   rw [q2n] at h
   split at h
   · simp at h
   · rename_i n hn
     have hm := j7e ns _ (z1z ns d) p (q1e n) [] (p + 1) q ⟨by omega, by simp, fun i n h1 h2 => by omega, fun i h1 h2 => by omega⟩ h
     rw [List.nil_append] at hm
     obtain ⟨h0, h1, h2, h3⟩ := hm
     refine ⟨h0, ?_, ?_⟩
     · intro i n' hi1 hi2 hn' k hk
       by_cases hi : i = p
       · subst hi
         rw [hn] at hn'
         obtain rfl := Option.some.inj hn'
         exact h1 k hk
       · exact h2 i n' (by omega) hi2 hn' k hk
     · intro i hi1 hi2
       rcases h3 i hi1 hi2 with h | ⟨j, n', hj1, hj2, hn', hm⟩
       · exact ⟨p, n, by omega, hi1, hn, h⟩
       · exact ⟨j, n', by omega, hj2, hn', hm⟩
theorem z4h {s : ST} (h : q38 s = true) : Stand s.nodes 0 s.nodes.length := by
 unfold q38 at h
 simp only [Bool.and_eq_true, decide_eq_true_eq] at h
 obtain ⟨_, _, _, h1, h2⟩ := h
 exact (z1z s.nodes 33 0 _ (by rw [← h1, ← h2])).2
section

def q1g (l : List UInt8) (i : Nat) : UInt8 := l[i]?.getD 0
def q15 (c : UInt8) : Nat := if c.toNat < 128 then 1 else if c.toNat < 194 then 0 else if c.toNat < 224 then 2 else if c.toNat < 240 then 3 else if c.toNat < 245 then 4 else 0
def ulo (a : UInt8) : Nat := if a.toNat = 224 then 160 else if a.toNat = 240 then 144 else 128
def uhi (a : UInt8) : Nat := if a.toNat = 237 then 159 else if a.toNat = 244 then 143 else 191
def usec (a b : UInt8) : Bool := decide (ulo a ≤ b.toNat ∧ b.toNat ≤ uhi a)
def ucont (b : UInt8) : Bool := decide (128 ≤ b.toNat ∧ b.toNat < 192)
def q3j (l : List UInt8) (p i : Nat) : Nat := if p + i < l.length then (if ucont (q1g l (p + i)) = true ∧ (i = 1 → usec (q1g l p) (q1g l (p + i)) = true) then 0 else 11) else 10
def q3d (l : List UInt8) (p : Nat) : Nat → Nat
 | 0 => 0
 | k + 1 => if q3d l p k = 0 then q3j l p (k + 1) else q3d l p k
def uerr (l : List UInt8) (p : Nat) : Nat := if p < l.length then (if q15 (q1g l p) = 0 then 11 else q3d l p (q15 (q1g l p) - 1)) else 10
def ulen (l : List UInt8) (p : Nat) : Nat := q15 (q1g l p)
theorem z6m {l : List UInt8} {p k : Nat} (h : q3d l p k ≠ 0) : ∀ j, q3d l p (k + j) = q3d l p k := by
 intro j
 induction j with
 | zero => rfl
 | succ j ih => rw [show k + (j + 1) = (k + j) + 1 from by omega]; simp only [q3d]; rw [ih, if_neg h]
theorem z1i {l : List UInt8} {p i n : Nat} (hi : 1 ≤ i) (hin : i < n) (h0 : q3d l p (i - 1) = 0) (h : q3j l p i ≠ 0) : q3d l p (n - 1) = q3j l p i := by
 have h1 : q3d l p i = q3j l p i := by
  cases i with
  | zero => omega
  | succ i => simp only [q3d]; rw [if_pos (by simpa using h0)]
 have := z6m (l := l) (p := p) (k := i) (by rw [h1]; exact h) (n - 1 - i)
 rw [h1] at this
 rwa [show i + (n - 1 - i) = n - 1 from by omega] at this
theorem z6n {l : List UInt8} {p k : Nat} (h0 : q3d l p k = 0) (h : q3j l p (k + 1) = 0) : q3d l p (k + 1) = 0 := by
 simp only [q3d]; rw [if_pos h0, h]
variable {l : List UInt8} {p : Nat}
theorem j4m (h : uerr l p = 0) : 0 < ulen l p ∧ p + ulen l p ≤ l.length := by
 unfold uerr at h
 split at h
 · rename_i hp
   split at h
   · simp at h
   · rename_i hf
     refine ⟨by unfold ulen; omega, ?_⟩
     unfold ulen
     have key : ∀ k, q3d l p k = 0 → p + k < l.length := by
      intro k
      induction k with
      | zero => intro _; omega
      | succ k ih =>
        intro hk
        simp only [q3d] at hk
        split at hk
        · unfold q3j at hk
          split at hk
          · omega
          · simp at hk
        · rename_i h1; exact absurd hk h1
     have := key _ h
     omega
 · simp at h
def uCnt (l : List UInt8) (p k : Nat) : Nat × Nat :=
 if h : p < l.length then (if h2 : uerr l p = 0 ∧ 0 < ulen l p then uCnt l (p + ulen l p) (k + 1) else (0, 11)) else (k, 0)
termination_by l.length - p
theorem z1a {l : List UInt8} {p k : Nat} (h : ¬ p < l.length) : uCnt l p k = (k, 0) := by rw [uCnt, dif_neg h]
theorem z09 {l : List UInt8} {p k : Nat} (h : p < l.length) (h2 : uerr l p ≠ 0) : uCnt l p k = (0, 11) := by rw [uCnt, dif_pos h, dif_neg (fun x => h2 x.1)]
theorem z1b {l : List UInt8} {p k : Nat} (h : p < l.length) (h2 : uerr l p = 0) : uCnt l p k = uCnt l (p + ulen l p) (k + 1) := by rw [uCnt, dif_pos h, dif_pos ⟨h2, (j4m h2).1⟩]
def q2p (l : List UInt8) : Bool := decide ((uCnt l 0 0).2 = 0)
end

inductive VT where
 | mk (k : Int) (n : Int) (b : Int) (s : List UInt8) (xs : List VT) (ks : List (List UInt8))
mutual
def VT.cells : VT → List PV
 | .mk k n b s xs ks => [.v (.int .i64 k), .v (.int .i64 n), .v (.int .u64 b), .sl 1 (q0e s), .sl 6 (VT.cellsL xs), .sl 1 (ks.map sPV)]
def VT.cellsL : List VT → List (List PV)
 | [] => []
 | x :: xs => x.cells :: VT.cellsL xs
end
theorem z1k : ∀ (xs : List VT), VT.cellsL xs = xs.map VT.cells
 | [] => by simp [VT.cellsL]
 | x :: xs => by simp [VT.cellsL, z1k xs]
def VT.av (v : VT) : AV := .agg (v.cells.map .c)
theorem VT.av_eq (v : VT) : v.av = .agg (v.cells.map .c) := rfl
theorem q03 (k n b : Int) (s : List UInt8) (xs : List VT) (ks : List (List UInt8)) : (VT.mk k n b s xs ks).cells = [.v (.int .i64 k), .v (.int .i64 n), .v (.int .u64 b), .sl 1 (q0e s), .sl 6 (xs.map VT.cells), .sl 1 (ks.map sPV)] := by simp [VT.cells, z1k]
theorem q1b (v : VT) : v.cells.length = 6 := by cases v; simp [VT.cells]
theorem q1n (v : VT) : v.cells.take 6 = v.cells := List.take_of_length_le (by rw [q1b]; exact Nat.le_refl _)
theorem q1i (v : VT) : (v.cells.map AV.c).take 6 = v.cells.map .c := List.take_of_length_le (by rw [List.length_map, q1b]; exact Nat.le_refl _)
theorem j40 (l : List UInt8) : (q0e l).length = l.length := by simp [q0e]
mutual
def VT.sm (N : Nat) : VT → Prop
 | .mk k n b s xs ks => (0 ≤ b ∧ b < 18446744073709551616) ∧ s.length ≤ N ∧ ks.length ≤ N ∧ (∀ y ∈ ks, y.length ≤ N) ∧ xs.length ≤ N ∧ VT.smL N xs
def VT.smL (N : Nat) : List VT → Prop
 | [] => True
 | x :: xs => x.sm N ∧ VT.smL N xs
end
theorem j2q {N : Nat} : ∀ {xs : List VT}, VT.smL N xs → ∀ x ∈ xs, x.sm N
 | x :: xs, h, y, hy => by
   rcases List.mem_cons.1 hy with rfl | hy
   · exact h.1
   · exact j2q h.2 y hy
theorem j7c {N : Nat} : ∀ {xs : List VT}, (∀ x ∈ xs, x.sm N) → VT.smL N xs
 | [], _ => trivial
 | x :: xs, h => ⟨h x (by simp), j7c fun y hy => h y (by simp [hy])⟩
mutual
theorem vsm_le {N M : Nat} (h : N ≤ M) : ∀ v : VT, v.sm N → v.sm M
 | .mk k n b s xs ks => fun ⟨h0, h1, h2, h3, h4, h5⟩ => ⟨h0, by omega, by omega, fun y hy => Nat.le_trans (h3 y hy) h, by omega, vsmL_le h xs h5⟩
theorem vsmL_le {N M : Nat} (h : N ≤ M) : ∀ xs : List VT, VT.smL N xs → VT.smL M xs
 | [] => fun _ => trivial
 | x :: xs => fun ⟨h1, h2⟩ => ⟨vsm_le h x h1, vsmL_le h xs h2⟩
end
mutual
def VT.inr : VT → Prop
 | .mk k n b s xs ks => (0 ≤ b ∧ b < 18446744073709551616) ∧ VT.inrL xs
def VT.inrL : List VT → Prop
 | [] => True
 | x :: xs => x.inr ∧ VT.inrL xs
end
theorem j66 : ∀ {xs : List VT}, (∀ x ∈ xs, x.inr) → VT.inrL xs
 | [], _ => trivial
 | x :: xs, h => ⟨h x (by simp), j66 fun y hy => h y (by simp [hy])⟩
/-! Which values are ones of a node. -/
def VT.kind : VT → Int | .mk k _ _ _ _ _ => k
def VT.int : VT → Int | .mk _ n _ _ _ _ => n
def VT.items : VT → List VT | .mk _ _ _ _ xs _ => xs
def q2y (k n b : Int) (s : List UInt8) (m : Nat) (ks : List (List UInt8)) : Bool :=
 ((k == 2 || k == 3 || k == 4 || k == 10 || k == 13) || n == 0) && (((k == 5 || k == 6) || b == 0) && (((k == 7 || k == 8 || k == 14) || s.isEmpty) && (((k == 9 || k == 11 || k == 12 || k == 13) || m == 0) && (k == 12 || ks.isEmpty))))
def keyM (y : List UInt8) : Bool := decide (y.length ≤ 20000) && q2p y
def q3a (nd : NT) (k n b : Int) (s : List UInt8) (m : Nat) (ks : List (List UInt8)) : Bool :=
 (k == nd.kind && (q2y k n b s m ks && decide (s.length ≤ 20000))) && (
  if k = 2 then n == 0 || n == 1 else if k = 3 then decide (-2147483648 ≤ n) && decide (n ≤ 2147483647) else if k = 5 then decide (b < 4294967296) else if k = 8 then q2p s
  else if k = 14 then (s.length : Int) == nd.size else if k = 10 then decide (0 ≤ n) && decide (n < (nd.symbols.length : Int)) else if k = 9 then m == nd.fields.length && decide (m ≤ 300)
  else if k = 12 then (ks.length == m && ks.all keyM) && decide (m ≤ 300) else if k = 11 then decide (m ≤ 300) else if k = 13 then decide (0 ≤ n) && (decide (n < (nd.branches.length : Int)) && m == 1) else true)
def q2u (nd : NT) (i : Nat) : Int := match nd.fields[i]? with | some f => f.type | none => -1
def q2x (nd : NT) (i : Int) : Int := match nd.branches[i.toNat]? with | some k => k | none => -1
def q08 (nd : NT) (n : Int) (i : Nat) : Int := if nd.kind = 9 then q2u nd i else if nd.kind = 13 then q2x nd n else nd.items
mutual
def isM (ns : List NT) : Int → VT → Bool
 | a, .mk k n b s xs ks => match ns[a.toNat]? with | none => false | some nd => q3a nd k n b s xs.length ks && q1x ns (q08 nd n) xs
def q1x (ns : List NT) : (Nat → Int) → List VT → Bool
 | _, [] => true
 | f, x :: xs => isM ns (f 0) x && q1x ns (fun i => f (i + 1)) xs
end
theorem j3d (ns : List NT) : ∀ (f : Nat → Int) (xs : List VT), q1x ns f xs = true ↔ ∀ (i : Nat) (x : VT), xs[i]? = some x → isM ns (f i) x = true
 | f, [] => by simp [q1x]
 | f, x :: xs => by
   rw [q1x, Bool.and_eq_true, j3d ns _ xs]
   constructor
   · rintro ⟨h1, h2⟩ i y hy
     match i with
     | 0 => obtain rfl := Option.some.inj hy; exact h1
     | i + 1 => exact h2 i y hy
   · intro h
     exact ⟨h 0 x rfl, fun i y hy => h (i + 1) y hy⟩
theorem z3v {ns : List NT} {f : Nat → Int} {xs : List VT} {i : Nat} {x : VT} (h : xs[i]? = some x) (hx : isM ns (f i) x = false) : q1x ns f xs = false := by
 cases he : q1x ns f xs with
 | false => rfl
 | true =>
   have := (j3d ns f xs).1 he i x h
   rw [hx] at this
   simp at this
theorem q67 {ns : List NT} {a : Int} {nd : NT} (h : ns[a.toNat]? = some nd) (k n b : Int) (s : List UInt8) (xs : List VT) (ks : List (List UInt8)) : isM ns a (.mk k n b s xs ks) = (q3a nd k n b s xs.length ks && q1x ns (q08 nd n) xs) := by rw [isM, h]
noncomputable def conM (s : ST) (a : Int) (v : VT) (right : Bool) : Bool := decide (0 ≤ a) && (decide (a < (s.nodes.length : Int)) && (right && isM s.nodes a v))
mutual
def q2l : VT → Nat
 | .mk k n b s xs ks => if k = 9 ∨ k = 11 ∨ k = 12 ∨ k = 13 then q3x 1 xs else 0
def q3x : Nat → List VT → Nat
 | n, [] => n
 | n, x :: xs => q3x (max n (1 + q2l x)) xs
end
theorem z1m : ∀ (xs : List VT) (x : VT) (n : Nat), q3x n (xs ++ [x]) = max (q3x n xs) (1 + q2l x)
 | [], x, n => by simp [q3x]
 | y :: xs, x, n => by simp only [List.cons_append, q3x]; exact z1m xs x _
theorem j4p : ∀ (xs : List VT) (n : Nat), n ≤ q3x n xs ∧ ∀ x ∈ xs, q2l x + 1 ≤ q3x n xs
 | [], n => ⟨Nat.le_refl _, by simp⟩
 | y :: xs, n => by
   obtain ⟨h1, h2⟩ := j4p xs (max n (1 + q2l y))
   simp only [q3x]
   refine ⟨by omega, fun x hx => ?_⟩
   rcases List.mem_cons.1 hx with rfl | hx
   · omega
   · exact h2 x hx

theorem j0r {P Q : Prop} (q : Q) (e : HoldQ Q → P := by
 intro hq
 refine VC.seq ?_
 (first | refine VC.region (by rfl) (by rfl) ?_ | refine VC.draw mixP (by rfl) (by rfl) ?_)
 (repeat (refine AO.step fun K hK => ?_; simp only [go_sem, Int.reduceBEq, Int.reduceLE, Int.reduceLT, Int.reduceNeg, Nat.reduceAdd, Nat.reduceEqDiff, Nat.reduceLT, Nat.reduceLeDiff, Nat.reduceMul, Nat.reduceSub, reduceCtorEq, ↓reduceIte]; (first | refine q4q ?_ | refine q1k ?_ | skip); (first | refine hK _ _ _ ?_ | refine ⟨by first | omega | exact ⟨_, rfl, rfl⟩ | exact fun _ => ⟨_, rfl, rfl⟩ | (intro h; simp only [h, true_and]; omega) | (clear hK hq; intro h; simp_all <;> omega), hK _ _ _ ?_⟩); clear hK K))
 refine AO.nil ?_
 (first | refine SQ.normal ?_ | refine ⟨q4v (by kernel_rfl), SQ.normal ?_⟩)
 exact hq.out) : P := e ⟨q⟩
theorem wkfX {P Q : Prop} (q : Q) (e : HoldQ Q → P := by
 intro hq
 simp only [WeakF, q0v, q0p, sc_c, q0r, q0s, q0t, q0o, q0q, ScL, q0u, List.forall_mem_map, go_sem, Int.reduceBEq, Int.reduceLE, Int.reduceLT, Int.reduceNeg, Nat.reduceAdd, Nat.reduceEqDiff, Nat.reduceLT, Nat.reduceLeDiff, Nat.reduceMul, Nat.reduceSub, reduceCtorEq, ↓reduceIte]
 exact hq.out) : P := e ⟨q⟩
theorem walkRF {F P Q : Prop} (f : F) (q : Q) (e : F → HoldQ Q → P := by
 intro hf hq
 refine VC.seq ?_
 (first | refine VC.region (by rfl) (by rfl) ?_ | refine VC.draw mixP (by rfl) (by rfl) ?_)
 (repeat (refine AO.step fun K hK => ?_; simp only [hf, go_sem, Int.reduceBEq, Int.reduceLE, Int.reduceLT, Int.reduceNeg, Nat.reduceAdd, Nat.reduceEqDiff, Nat.reduceLT, Nat.reduceLeDiff, Nat.reduceMul, Nat.reduceSub, reduceCtorEq, ↓reduceIte]; (first | refine q4q ?_ | refine q1k ?_ | skip); (first | refine hK _ _ _ ?_ | refine ⟨by first | omega | exact ⟨_, rfl, rfl⟩ | exact fun _ => ⟨_, rfl, rfl⟩ | (intro h; simp only [hf, h, true_and]; omega) | (clear hK hq; intro h; simp_all <;> omega), hK _ _ _ ?_⟩); clear hK K))
 refine AO.nil ?_
 (first | refine SQ.normal ?_ | refine ⟨q4v (by kernel_rfl), SQ.normal ?_⟩)
 exact hq.out) : P := e f ⟨q⟩
theorem q5c {F P Q : Prop} (f : F) (q : Q) (e : F → HoldQ Q → P := by
 intro hf hq
 simp only [hf, WeakF, q0v, q0p, sc_c, q0r, q0s, q0t, q0o, q0q, ScL, q0u, List.forall_mem_map, go_sem, Int.reduceBEq, Int.reduceLE, Int.reduceLT, Int.reduceNeg, Nat.reduceAdd, Nat.reduceEqDiff, Nat.reduceLT, Nat.reduceLeDiff, Nat.reduceMul, Nat.reduceSub, reduceCtorEq, ↓reduceIte]
 exact hq.out) : P := e f ⟨q⟩
theorem q4t {α β : Type} {f : α → β} {l : List α} {i : Nat} : (l.map f)[i]? = l[i]?.map f := List.getElem?_map
theorem lAss {α : Type} (l m k : List α) : l ++ m ++ k = l ++ (m ++ k) := List.append_assoc l m k
theorem lAppL {α : Type} {l m : List α} : (l ++ m).length = l.length + m.length := List.length_append
theorem lTail {α : Type} {a : α} {l : List α} : (a :: l).tail = l := rfl
section
attribute [local go_sem] opx opE ev okx q5h bnd okO AV.get AV.okb cAV q6y q8g q8f j0t j0s q79 q78 st q7s q5r q7u q7v q7t binV binI binS q42 q5o q5i q5p unV q6h q4h q3v q04 q2j Blkd.len setE grown q1r q45 q3w q4o pv q4j q30 q39 AV.cellish AV.pureL AV.pureB q77 q71 AV.ren AV.renL q8i Blkd.ren rho wrM renN q3t rhoE q4s q44 q7f q4y q6v q51 j0h j0i j0l q5l q8o q8w q8x q8z q83 q9a q9b q9f q9l q9n q9p q7g q9q q7h q50 q7i q7j j0b q6t q7k j0c q6e j0d q6u j0e q6f q7l j0f q7m j0g j0j j0k j0m j0n j0o j0p j0q q8p q8q q8r q8s q8t q8u q8v q8y q80 q81 q82 q84 q85 q86 q87 q88 q89 q9c q9d q9e q9g q9h q9i q9j q9k q9m q9o q9r q9s q9t q9u q9v q9w q9x q9y q9z q90 q91 q92 q93 q94 q95 q96 q97 q98 q99 j0a Option.map_some Option.map_none Option.getD_some Option.getD_none Option.bind_some Option.bind_none List.getElem?_cons_zero List.getElem?_cons_succ List.getElem?_nil List.getElem?_toArray List.length_cons List.length_nil List.length_map List.forall_mem_map List.map_cons List.map_nil List.drop_zero List.drop_succ_cons List.drop_nil List.take_zero List.take_succ_cons List.take_nil List.mem_cons List.not_mem_nil or_false forall_eq_or_imp forall_eq List.set_cons_zero List.set_cons_succ List.cons_append List.nil_append List.append_nil List.foldl_cons List.foldl_nil List.replicate_succ List.replicate_zero List.all_cons List.all_nil if_true if_false Bool.false_eq_true ne_eq not_false_eq_true not_true_eq_false true_and and_true and_self true_implies imp_self implies_true forall_const beq_self_eq_true Bool.and_true Bool.true_and Bool.and_false Bool.false_and Bool.or_true Bool.true_or Bool.or_false Bool.false_or Bool.not_true Bool.not_false Bool.not_eq_eq_eq_not q6a Value.oneCell' Int.toNat_natCast beq_true beq_false Bool.not_eq_true false_implies false_or true_or or_true Nat.zero_add Nat.add_zero decide_true decide_false Int.cast_ofNat_Int Int.toNat_zero Int.toNat_one eq_self

def bA (l : List UInt8) : List (List AV) := l.map fun b => [AV.c (.v (.int .u8 (b.toNat : Int)))]
theorem q0k (l : List UInt8) : (bA l).length = l.length := by simp [bA]
theorem j2u (l m : List UInt8) : bA l ++ bA m = bA (l ++ m) := by simp [bA]
theorem j11 (l : List UInt8) (x : UInt8) : bA l ++ [[AV.c (.v (.int .u8 (x.toNat : Int)))]] = bA (l ++ [x]) := by simp [bA]
theorem j10 : bA [] = [] := rfl
theorem bA_cons (x : UInt8) (l : List UInt8) : bA (x :: l) = [AV.c (.v (.int .u8 (x.toNat : Int)))] :: bA l := rfl
theorem j0u (l : List UInt8) : bA l = (q0e l).map fun e => e.map AV.c := by simp [bA, q0e]
theorem q00 (ρ : Nat → Nat) (l : List UInt8) : (bA l).map (AV.renL ρ) = bA l := by
 induction l with
 | nil => rfl
 | cons x l ih => rw [bA_cons, List.map_cons, ih]; rfl
theorem q3e {used : Nat → Prop} {h : Nat → Option Blkd} (l : List UInt8) : (∀ e ∈ bA l, ∀ x ∈ e, Sc used h x) = True := eq_true fun e he x hx => by
 obtain ⟨b, _, rfl⟩ := List.mem_map.1 he
 simp at hx
 subst hx
 exact .c
def bB (l : List UInt8) : Blkd := ⟨true, 5, 1, bA l⟩

def zigN (n : Int) : Nat := if 0 ≤ n then (2 * n).toNat else (-2 * n - 1).toNat
theorem zig_bits (n : Int) (h1 : -9223372036854775808 ≤ n) (h2 : n ≤ 9223372036854775807) : IntKind.u64.wrap ((BitVec.ofInt 64 (IntKind.u64.wrap (IntKind.u64.wrap n * 2 ^ min 1 64)) ^^^ BitVec.ofInt 64 (IntKind.u64.wrap (n.fdiv (2 ^ min (Int.toNat 63) 64)))).toNat : Int) = (zigN n : Int) := by
 rw [show (2 : Int) ^ min 1 64 = 2 from rfl, show (2 : Int) ^ min (Int.toNat 63) 64 = 9223372036854775808 from rfl, IntKind.wrap_u64, IntKind.wrap_u64, IntKind.wrap_u64, IntKind.wrap_u64, Int.fdiv_eq_ediv_of_nonneg _ (by decide)]
 by_cases hn : 0 ≤ n
 · have e1 : n / 9223372036854775808 % 18446744073709551616 = 0 := by omega
   have e2 : n % 18446744073709551616 * 2 % 18446744073709551616 = ((2 * n).toNat : Int) := by omega
   rw [e1, e2, zigN, if_pos hn]
   simp
   omega
 · have e1 : n / 9223372036854775808 % 18446744073709551616 = 18446744073709551615 := by omega
   have e2 : n % 18446744073709551616 * 2 % 18446744073709551616 = ((2 * n + 18446744073709551616).toNat : Int) := by omega
   have e3 : BitVec.ofInt 64 18446744073709551615 = BitVec.allOnes 64 := by decide
   rw [e1, e2, e3, BitVec.xor_allOnes, BitVec.toNat_not, zigN, if_neg hn, BitVec.ofInt_natCast, BitVec.toNat_ofNat]
   omega
theorem zig_told (n : Int) (h1 : -9223372036854775808 ≤ n) (h2 : n ≤ 9223372036854775807) : Told Tryz.prog 209 [.c (.v (.int .i64 n))] (.c (.v (.int .u64 (zigN n : Int)))) := by
 have hz := zig_bits n h1 h2
 refine VC.toldP ent_209 Tryz.func209 rfl Tryz.ntmps209 fun hb => ?_
 clear hb
 refine q0b ?_
 refine retX Tryz.results209 ?_
 exact q1p (congrArg (fun z => PV.v (.int .u64 z)) hz)
theorem z4j (l : List UInt8) (n : Int) (hl : l.length ≤ 1000000000) : ToldM Tryz.prog 171 [.row 1000000 l.length, .c (.v (.int .i64 n))] [bB l] [some (bB (l ++ [if n = 0 then 0 else 1]))] (.row 1000000 (l ++ [if n = 0 then (0 : UInt8) else 1]).length) := by
 unfold bB
 by_cases hn : n = 0
 · rw [if_pos hn]
   have e1 : (n != 0) = false := by simp [hn]
   obtain ⟨q, hq⟩ : ∃ q, q = l ++ [(0 : UInt8)] := ⟨_, rfl⟩
   have hbo : bA l ++ [[AV.c (.v (.int .u8 0))]] = bA q := by rw [hq]; exact j11 l 0
   have hle : l.length + 1 = q.length := by rw [hq]; simp
   rw [← hq]
   refine VC.toldXF (And.intro @q0k @q3e) ent_171 [] Tryz.func171 rfl Tryz.ntmps171 fun hb hbL => ?_
   clear hb hbL
   refine q0a (And.intro @q0k (And.intro e1 (And.intro hbo hle))) ?_
   refine q16 (And.intro @q00 @q0k) Tryz.results171 ?_
   exact .keepW rfl
 · rw [if_neg hn]
   have e1 : (n != 0) = true := by simpa using hn
   obtain ⟨q, hq⟩ : ∃ q, q = l ++ [(1 : UInt8)] := ⟨_, rfl⟩
   have hbo : bA l ++ [[AV.c (.v (.int .u8 1))]] = bA q := by rw [hq]; exact j11 l 1
   have hle : l.length + 1 = q.length := by rw [hq]; simp
   rw [← hq]
   refine VC.toldXF (And.intro @q0k @q3e) ent_171 [] Tryz.func171 rfl Tryz.ntmps171 fun hb hbL => ?_
   clear hb hbL
   refine q0a (And.intro @q0k (And.intro e1 (And.intro hbo hle))) ?_
   refine q16 (And.intro @q00 @q0k) Tryz.results171 ?_
   exact .keepW rfl
def vint (u : Nat) : List UInt8 := if h : u < 128 then [u.toUInt8] else (u % 128 + 128).toUInt8 :: vint (u / 128)
theorem q60 {u : Nat} (h : u < 128) : vint u = [u.toUInt8] := by rw [vint, dif_pos h]
theorem j1a {u : Nat} (h : ¬ u < 128) : vint u = (u % 128 + 128).toUInt8 :: vint (u / 128) := by rw [vint, dif_neg h]
theorem j67 : ∀ (k u : Nat), u < 128 ^ (k + 1) → (vint u).length ≤ k + 1
 | 0, u, h => by rw [q60 (by omega)]; simp
 | k + 1, u, h => by
   by_cases h1 : u < 128
   · rw [q60 h1]; simp
   · rw [j1a h1]
     have := j67 k (u / 128) (by rw [Nat.pow_succ] at h; omega)
     simp
     omega
theorem zig_lt (n : Int) (h1 : -9223372036854775808 ≤ n) (h2 : n ≤ 9223372036854775807) : zigN n < 18446744073709551616 := by
 unfold zigN
 split <;> omega
def vput (n : Int) : List UInt8 := vint (zigN n)
theorem q5a (n : Int) (h1 : -9223372036854775808 ≤ n) (h2 : n ≤ 9223372036854775807) : (vput n).length ≤ 10 := by
 have := zig_lt n h1 h2
 exact j67 9 _ (by omega)
theorem or128 (u : Nat) : IntKind.u8.wrap ((BitVec.ofInt 8 (IntKind.u8.wrap (u : Int)) ||| BitVec.ofInt 8 128).toNat : Int) = (((u % 128 + 128).toUInt8).toNat : Int) := by
 rw [IntKind.wrap_u8, IntKind.wrap_u8]
 have e1 : (u : Int) % 256 = ((u % 256 : Nat) : Int) := by omega
 rw [e1, BitVec.ofInt_natCast]
 have key : ∀ x : Fin 256, ((BitVec.ofNat 8 x.val ||| BitVec.ofInt 8 128).toNat) = x.val % 128 + 128 := by decide +kernel
 have := key ⟨u % 256, by omega⟩
 simp only [] at this
 rw [this]
 simp
theorem q7n (l : List UInt8) (n : Int) (hl : l.length ≤ 1000000000) (h1 : -9223372036854775808 ≤ n) (h2 : n ≤ 9223372036854775807) : ToldM Tryz.prog 172 [.row 1000000 l.length, .c (.v (.int .i64 n))] [bB l] [some (bB (l ++ vput n))] (.row 1000000 (l ++ vput n).length) := by
 unfold bB
 have hz := zig_told n h1 h2
 have hzl := zig_lt n h1 h2
 have hvl := q5a n h1 h2
 unfold vput at hvl ⊢
 generalize zigN n = u at hz hzl hvl
 refine VC.toldXF (And.intro @q0k @q3e) ent_172 [] Tryz.func172 rfl Tryz.ntmps172 fun hb hbL => ?_
 clear hb hbL
 refine q0c (@q0k) ?_
 refine q0j (hz) ?_
 refine q0c (@q0k) ?_
 refine VC.loop (ι := {q : Nat × List UInt8 // q.1 < 18446744073709551616 ∧ q.2.length ≤ l.length + 10 ∧ q.2 ++ vint q.1 = l ++ vint u}) (fun q => [(0, .row 1000000 q.1.2.length), (5, .c (.v (.int .u64 (q.1.1 : Int))))])
  (fun q => [(1000000, ⟨true, 5, 1, bA q.1.2⟩)]) 400 (fun q => q.1.1) ⟨(u, l), hzl, by simp only []; omega, rfl⟩ ?_ ?_
 · refine q1j (And.intro @q0k @q3e) ?_
   exact Nat.le_refl _
 rintro ⟨⟨w, m⟩, hw, hml, hq⟩
 simp only [] at hw hml hq ⊢
 refine q0c (@q0k) ?_
 refine VC.cond (by rfl) (by trivial) (fun hc => ?_) (fun hc => ?_)
 · have hge : ¬ w < 128 := by simp at hc; omega
   rw [j1a hge] at hq
   have hor : IntKind.u8.wrap ((BitVec.ofInt IntKind.u8.bits (IntKind.u8.wrap (w : Int)) ||| BitVec.ofInt IntKind.u8.bits 128).toNat : Int) = (((w % 128 + 128).toUInt8).toNat : Int) := or128 w
   obtain ⟨r, hr⟩ : ∃ r, r = m ++ [(w % 128 + 128).toUInt8] := ⟨_, rfl⟩
   have hbo : bA m ++ [[AV.c (.v (.int .u8 (((w % 128 + 128).toUInt8).toNat : Int)))]] = bA r := by rw [hr]; exact j11 m _
   have hle : m.length + 1 = r.length := by rw [hr]; simp
   have hrl : r.length ≤ l.length + 10 := by
    have := congrArg List.length hq
    simp at this
    omega
   have hq7 : (w : Int).fdiv (2 ^ min (Int.toNat 7) 64) = ((w / 128 : Nat) : Int) := by
    rw [show (2 : Int) ^ min (Int.toNat 7) 64 = 128 from rfl, Int.fdiv_eq_ediv_of_nonneg _ (by decide)]
    omega
   (try simp only [go_sem, Int.reduceBEq, Int.reduceLE, Int.reduceLT, Int.reduceNeg, Nat.reduceAdd, Nat.reduceEqDiff, Nat.reduceLT, Nat.reduceLeDiff, Nat.reduceMul, Nat.reduceSub, reduceCtorEq, ↓reduceIte] at hor)
   refine q0c (And.intro @q0k (And.intro hor (And.intro hbo (And.intro hle hq7)))) ?_
   refine .next ⟨(w / 128, r), by simp only []; omega, hrl, by simp only []; rw [hr, List.append_assoc]; exact hq⟩ ?_ (by simp only []; omega)
   refine q1j (And.intro @q0k @q3e) ?_
   exact Nat.le_refl _
 · have hlt : w < 128 := by simp at hc; omega
   rw [q60 hlt] at hq
   have hw8 : IntKind.u8.wrap (w : Int) = ((w.toUInt8).toNat : Int) := by
    rw [IntKind.wrap_u8]
    simp
   have hbo : bA m ++ [[AV.c (.v (.int .u8 ((w.toUInt8).toNat : Int)))]] = bA (l ++ vint u) := by rw [← hq]; exact j11 m _
   have hle : m.length + 1 = (l ++ vint u).length := by rw [← hq]; simp
   refine q0c (And.intro @q0k (And.intro hw8 (And.intro hbo hle))) ?_
   refine q16 (And.intro @q00 @q0k) Tryz.results172 ?_
   exact .keepW rfl
theorem j6d (l x : List UInt8) (hl : l.length ≤ 100000000) (hx : x.length ≤ 100000000) : ToldM Tryz.prog 174 [.row 1000000 l.length, .c (.sl 1 (q0e x))] [bB l] [some (bB (l ++ (vput (x.length : Int) ++ x)))] (.row 1000000 (l ++ (vput (x.length : Int) ++ x)).length) := by
 have hV := q7n l (x.length : Int) (by omega) (by omega) (by omega)
 have hvl := q5a (x.length : Int) (by omega) (by omega)
 have hxl : (q0e x).length = x.length := by simp [q0e]
 obtain ⟨m, hm⟩ : ∃ m, m = l ++ vput (x.length : Int) := ⟨_, rfl⟩
 have hml : m.length ≤ l.length + 10 := by rw [hm]; simp; omega
 have hfin : l ++ (vput (x.length : Int) ++ x) = m ++ x := by rw [hm, List.append_assoc]
 rw [← hm] at hV
 rw [hfin]
 obtain ⟨q, hq⟩ : ∃ q, q = m ++ x := ⟨_, rfl⟩
 have hbo : bA m ++ (q0e x).map (fun e => e.map AV.c) = bA q := by rw [hq, ← j2u]; congr 1; exact (j0u x).symm
 have hle : m.length + x.length = q.length := by rw [hq]; simp
 rw [← hq]
 unfold bB at hV ⊢
 refine VC.toldXF (And.intro @q0k @q3e) ent_174 [] Tryz.func174 rfl Tryz.ntmps174 fun hb hbL => ?_
 clear hb hbL
 refine q0c (And.intro @q0k hxl) ?_
 refine q01 (And.intro @q0k @q00) [1000000] (hV) ?_
 refine q0c (And.intro @q0k (And.intro @q00 (And.intro hxl (And.intro hbo hle)))) ?_
 refine q16 (And.intro @q00 @q0k) Tryz.results174 ?_
 exact .keepW rfl
def q2w (b : Int) : Nat → List UInt8
 | 0 => []
 | n + 1 => q2w b n ++ [(b.toNat / 256 ^ n).toUInt8]
theorem q5q (b : Int) : ∀ n, (q2w b n).length = n
 | 0 => rfl
 | n + 1 => by rw [q2w, List.length_append, q5q b n]; rfl
theorem j9v (l : List UInt8) (b : Int) (k : Nat) (hl : l.length ≤ 1000000000) (h1 : 0 ≤ b) (h2 : b < 18446744073709551616) (hk : k ≤ 8) : ToldM Tryz.prog 173 [.row 1000000 l.length, .c (.v (.int .u64 b)), .c (.v (.int .i64 (k : Int)))] [bB l] [some (bB (l ++ q2w b k))] (.row 1000000 (l ++ q2w b k).length) := by
 unfold bB
 refine VC.toldXF (And.intro @q0k @q3e) ent_173 [] Tryz.func173 rfl Tryz.ntmps173 fun hb hbL => ?_
 clear hb hbL
 have hmx : min (max (k : Int) 0) 8 = (k : Int) := by omega
 refine q0c (And.intro @q0k hmx) ?_
 refine VC.loop (ι := {i : Nat // i ≤ k}) (fun q => [(0, .row 1000000 (l ++ q2w b q.1).length), (1, .c (.v (.int .u64 b))), (10, .c (.v (.int .i64 (k : Int)))), (11, .c (.v (.int .i64 (q.1 : Int))))])
  (fun q => [(1000000, ⟨true, 5, 1, bA (l ++ q2w b q.1)⟩)]) 400 (fun q => k - q.1) ⟨0, Nat.zero_le _⟩ ?_ ?_
 · simp only [q0k, q3e, q2w, List.append_nil, Weak, eq_self, q0v, q0p, sc_c, q0r, q0s, q0t, q0o, q0q, ScL, q0u, List.forall_mem_map, go_sem, Int.reduceBEq, Int.reduceLE, Int.reduceLT, Int.reduceNeg, Nat.reduceAdd, Nat.reduceEqDiff, Nat.reduceLT, Nat.reduceLeDiff, Nat.reduceMul, Nat.reduceSub, reduceCtorEq, ↓reduceIte]
   try simp
 rintro ⟨i, hi⟩
 simp only []
 have hbl := q5q b i
 obtain ⟨m, hm⟩ : ∃ m, m = l ++ q2w b i := ⟨_, rfl⟩
 have hml : m.length = l.length + i := by rw [hm]; simp [hbl]
 have hmn : l ++ q2w b (i + 1) = m ++ [(b.toNat / 256 ^ i).toUInt8] := by rw [hm, q2w, List.append_assoc]
 rw [← hm]
 refine q0c (@q0k) ?_
 refine VC.cond (by rfl) (by trivial) (fun hc => ?_) (fun hc => ?_)
 · have hlt : i < k := by simp at hc; omega
   have hw : IntKind.i64.wrap ((i : Int) + 1) = (i : Int) + 1 := q0f (by omega) (by omega)
   have hw8 : IntKind.i64.wrap (8 * (i : Int)) = ((8 * i : Nat) : Int) := by rw [q0f (by omega) (by omega)]; omega
   have hsh : b.fdiv (2 ^ min (IntKind.u64.wrap ((8 * i : Nat) : Int)).toNat 64) = ((b.toNat / 256 ^ i : Nat) : Int) := by
    rw [IntWalk.u64_in _ ⟨by omega, by omega⟩, Int.toNat_natCast, Nat.min_eq_left (by omega), Int.fdiv_eq_ediv_of_nonneg _ (by exact Int.le_of_lt (Int.pow_pos (by decide)))]
    obtain ⟨c, rfl⟩ : ∃ c : Nat, b = (c : Int) := ⟨b.toNat, by omega⟩
    rw [show ((2 : Int) ^ (8 * i)) = ((256 ^ i : Nat) : Int) from by rw [Int.pow_mul]; simp, Int.toNat_natCast]
    rfl
   have hu8 : IntKind.u8.wrap ((b.toNat / 256 ^ i : Nat) : Int) = (((b.toNat / 256 ^ i).toUInt8).toNat : Int) := by
    rw [IntKind.wrap_u8]
    simp
   obtain ⟨r, hr⟩ : ∃ r, r = m ++ [(b.toNat / 256 ^ i).toUInt8] := ⟨_, rfl⟩
   have hbo : bA m ++ [[AV.c (.v (.int .u8 (((b.toNat / 256 ^ i).toUInt8).toNat : Int)))]] = bA r := by rw [hr]; exact j11 m _
   have hle : m.length + 1 = r.length := by rw [hr]; simp
   rw [← hr] at hmn
   generalize b.toNat / 256 ^ i = z at hsh hu8 hbo
   refine q0c (And.intro @q0k (And.intro hw8 (And.intro hsh (And.intro hu8 (And.intro hbo (And.intro hle hw)))))) ?_
   refine .next ⟨i + 1, by omega⟩ ?_ (by simp only []; omega)
   refine q1j (And.intro @q0k (And.intro @q3e hmn)) ?_
   exact ⟨cI (by omega), Nat.le_refl _⟩
 · have hie : i = k := by simp at hc; omega
   subst hie
   refine q0c (@q0k) ?_
   refine q16 (And.intro @q00 (And.intro @q0k hm)) Tryz.results173 ?_
   exact .keepW rfl

def cutM (cuts : List Int) (c left : Nat) : Nat × Bool × Nat :=
 match cuts[c % cuts.length]? with
 | none => (left, false, c)
 | some n => (min left (n.natAbs % 9223372036854775808 % 4 + 1), decide (n < 0), c + 1)
def Enc := Nat → List UInt8 × Nat
def seqF : List Enc → Enc
 | [], c => ([], c)
 | f :: fs, c => ((f c).1 ++ (seqF fs (f c).2).1, (seqF fs (f c).2).2)
def q5t (n : Nat) (sized : Bool) (len : Nat) : List UInt8 := if sized = true then vput (-(n : Int)) ++ vput (len : Int) else vput (n : Int)
def blkF (cuts : List Int) : Nat → List Enc → Enc
 | 0, _, c => (vput 0, c)
 | k + 1, [], c => (vput 0, c)
 | k + 1, f :: fs, c =>
   let q := cutM cuts c (fs.length + 1)
   let r := seqF ((f :: fs).take q.1) q.2.2
   let t := blkF cuts k ((f :: fs).drop q.1) r.2
   (q5t q.1 q.2.1 r.1.length ++ (r.1 ++ t.1), t.2)
def keyF (y : List UInt8) (f : Enc) : Enc := fun c => ((vput (y.length : Int) ++ y) ++ (f c).1, (f c).2)
def q2k (nd : NT) (k n b : Int) (t : List UInt8) : List UInt8 :=
 if k = 2 then [if n = 0 then 0 else 1] else if k = 3 ∨ k = 4 ∨ k = 10 then vput n else if k = 5 then q2w b 4 else if k = 6 then q2w b 8
 else if k = 7 ∨ k = 8 then vput (t.length : Int) ++ t else if k = 14 then t else []
mutual
def encM (ns : List NT) (cuts : List Int) : Int → VT → Enc
 | a, .mk _ n b t xs ks => fun c => match ns[a.toNat]? with
   | none => ([], c)
   | some nd =>
     if nd.kind = 9 then seqF (q1a ns cuts (fun j => q2u nd j) xs) c
     else if nd.kind = 11 then blkF cuts xs.length (q1a ns cuts (fun _ => nd.items) xs) c
     else if nd.kind = 12 then blkF cuts xs.length (List.zipWith keyF ks (q1a ns cuts (fun _ => nd.items) xs)) c
     else if nd.kind = 13 then (vput n ++ (seqF (q1a ns cuts (fun _ => q2x nd n) xs) c).1, (seqF (q1a ns cuts (fun _ => q2x nd n) xs) c).2)
     else (q2k nd nd.kind n b t, c)
def q1a (ns : List NT) (cuts : List Int) : (Nat → Int) → List VT → List Enc
 | _, [] => []
 | f, x :: xs => encM ns cuts (f 0) x :: q1a ns cuts (fun i => f (i + 1)) xs
end
theorem j17 (ns : List NT) (cuts : List Int) : ∀ (xs : List VT) (f : Nat → Int) (i : Nat) (x : VT), xs[i]? = some x → (q1a ns cuts f xs)[i]? = some (encM ns cuts (f i) x)
 | [], f, i, x, h => by simp at h
 | y :: ys, f, 0, x, h => by
   obtain rfl := Option.some.inj h
   rw [q1a]
   rfl
 | y :: ys, f, i + 1, x, h => by
   rw [q1a, List.getElem?_cons_succ]
   exact j17 ns cuts ys (fun i => f (i + 1)) i x (by simpa using h)
theorem q34 (ns : List NT) (cuts : List Int) : ∀ (xs : List VT) (f : Nat → Int), (q1a ns cuts f xs).length = xs.length
 | [], f => by rw [q1a]; rfl
 | y :: ys, f => by rw [q1a, List.length_cons, q34 ns cuts ys]; rfl
theorem j27 (cuts : List Int) (c left : Nat) (h : 0 < left) : 0 < (cutM cuts c left).1 ∧ (cutM cuts c left).1 ≤ left ∧ c ≤ (cutM cuts c left).2.2 := by
 unfold cutM
 split
 · exact ⟨h, Nat.le_refl _, Nat.le_refl _⟩
 · exact ⟨by simp only []; omega, by simp only []; omega, by simp only []; omega⟩
def Up (f : Enc) : Prop := ∀ c, c ≤ (f c).2
theorem j07 : ∀ fs : List Enc, (∀ f ∈ fs, Up f) → Up (seqF fs)
 | [], _, c => Nat.le_refl _
 | f :: fs, h, c => by
   rw [seqF]
   exact Nat.le_trans (h f (by simp) c) (j07 fs (fun g hg => h g (by simp [hg])) _)
theorem j20 (cuts : List Int) : ∀ (k : Nat) (fs : List Enc), (∀ f ∈ fs, Up f) → Up (blkF cuts k fs)
 | 0, _, _, c => Nat.le_refl _
 | k + 1, [], _, c => Nat.le_refl _
 | k + 1, f :: fs, h, c => by
   rw [blkF]
   simp only []
   have h1 := (j27 cuts c (fs.length + 1) (by omega)).2.2
   have h2 := j07 ((f :: fs).take (cutM cuts c (fs.length + 1)).1) (fun g hg => h g (List.mem_of_mem_take hg)) (cutM cuts c (fs.length + 1)).2.2
   have h3 := j20 cuts k ((f :: fs).drop (cutM cuts c (fs.length + 1)).1) (fun g hg => h g (List.mem_of_mem_drop hg)) (seqF ((f :: fs).take (cutM cuts c (fs.length + 1)).1) (cutM cuts c (fs.length + 1)).2.2).2
   omega
mutual
theorem encM_up (ns : List NT) (cuts : List Int) : ∀ (v : VT) (a : Int), Up (encM ns cuts a v)
 | .mk k n b t xs ks, a, c => by
   have h := j16 ns cuts xs
   rw [encM]
   split
   · exact Nat.le_refl _
   · split
     · exact j07 _ (h _) c
     · split
       · exact j20 cuts _ _ (h _) c
       · split
         · refine j20 cuts _ _ (fun f hf => ?_) c
           obtain ⟨i, hi⟩ := List.getElem?_of_mem hf
           rw [List.getElem?_zipWith] at hi
           split at hi
           · obtain rfl := Option.some.inj hi
             rename_i y g hy hg
             exact fun c => h _ g (List.mem_of_getElem? hg) c
           · simp at hi
         · split
           · exact j07 _ (h _) c
           · exact Nat.le_refl _
theorem j16 (ns : List NT) (cuts : List Int) : ∀ (xs : List VT) (f : Nat → Int), ∀ e ∈ q1a ns cuts f xs, Up e
 | [], f => by rw [q1a]; simp
 | x :: xs, f => by
   rw [q1a]
   intro e he
   rcases List.mem_cons.1 he with rfl | he
   · exact encM_up ns cuts x _
   · exact j16 ns cuts xs _ e he
end

def Rd (α : Type) := List UInt8 → Nat → Except Int (α × Nat)
def rret {α : Type} (x : α) : Rd α := fun _ p => .ok (x, p)
def rbad {α : Type} (e : Int) : Rd α := fun _ _ => .error e
def q1c {α β : Type} (f : Rd α) (g : α → Rd β) : Rd β := fun B p => match f B p with
 | .error e => .error e
 | .ok (x, q) => g x B q
theorem q2c {α β : Type} {f : Rd α} {g : α → Rd β} {B : List UInt8} {p q : Nat} {x : α} (h : f B p = .ok (x, q)) : q1c f g B p = g x B q := by unfold q1c; rw [h]
theorem q24 {α β : Type} {f : Rd α} {g : α → Rd β} {B : List UInt8} {p : Nat} {e : Int} (h : f B p = .error e) : q1c f g B p = .error e := by unfold q1c; rw [h]
theorem q2i {α β : Type} {f : Rd α} {g : α → Rd β} {B : List UInt8} {p : Nat} {R : β × Nat} (h : q1c f g B p = .ok R) : ∃ x q, f B p = .ok (x, q) ∧ g x B q = .ok R := by
 unfold q1c at h
 split at h
 · simp at h
 · rename_i x q hq
   exact ⟨x, q, hq, h⟩
structure Fair {α : Type} (f : Rd α) : Prop where
 fwd : ∀ {B : List UInt8} {p q : Nat} {v : α}, p ≤ B.length → f B p = .ok (v, q) → p ≤ q ∧ q ≤ B.length
 ers : ∀ {B : List UInt8} {p : Nat} {e : Int}, f B p = .error e → e ≠ 0
 more : ∀ {B : List UInt8} (T : List UInt8) {p : Nat}, p ≤ B.length → f B p ≠ .error 10 → f (B ++ T) p = f B p
theorem q22 {α : Type} (x : α) : Fair (rret x) :=
 ⟨fun hp h => by unfold rret at h; injection h with h; injection h with _ h; omega, fun h => by simp [rret] at h, fun _ _ _ _ => rfl⟩
theorem q55 {α : Type} {e : Int} (he : e ≠ 0) : Fair (rbad (α := α) e) :=
 ⟨fun hp h => by simp [rbad] at h, fun h => by unfold rbad at h; injection h with h; exact h ▸ he, fun _ _ _ _ => rfl⟩
theorem q2s {α β : Type} {f : Rd α} {g : α → Rd β} (hf : Fair f) (hg : ∀ x, Fair (g x)) : Fair (q1c f g) := by
 refine ⟨fun {B p q v} hp h => ?_, fun {B p e} h => ?_, fun {B} T {p} hp h => ?_⟩
 · obtain ⟨x, r, h1, h2⟩ := q2i h
   have h3 := hf.fwd hp h1
   have h4 := (hg x).fwd h3.2 h2
   omega
 · cases h1 : f B p with
   | error d =>
     rw [q24 h1] at h
     injection h with h
     exact h ▸ hf.ers h1
   | ok r =>
     rw [q2c (x := r.1) (q := r.2) h1] at h
     exact (hg _).ers h
 · cases h1 : f B p with
   | error d =>
     rw [q24 h1] at h ⊢
     exact q24 ((hf.more T hp (by rw [h1]; intro e; injection e with e; exact h (by rw [e]))).trans h1)
   | ok r =>
     rw [q2c (x := r.1) (q := r.2) h1] at h ⊢
     have h2 := hf.more T hp (by rw [h1]; simp)
     rw [q2c (x := r.1) (q := r.2) (h2.trans h1)]
     exact (hg _).more T (hf.fwd hp h1).2 h
def Back {α : Type} (f : Rd α) (l : List UInt8) (v : α) : Prop := ∀ A T : List UInt8, f (A ++ (l ++ T)) A.length = .ok (v, A.length + l.length)
theorem j2w {α : Type} (x : α) : Back (rret x) [] x := fun A T => rfl
theorem q62 {α β : Type} {f : Rd α} {g : α → Rd β} {l m : List UInt8} {x : α} {w : β} (hf : Back f l x) (hg : Back (g x) m w) : Back (q1c f g) (l ++ m) w := by
 intro A T
 have h1 := hf A (m ++ T)
 rw [← List.append_assoc l] at h1
 rw [q2c h1]
 have h2 := hg (A ++ l) T
 rw [List.length_append] at h2
 rw [show A ++ (l ++ m ++ T) = A ++ l ++ (m ++ T) from by simp, h2, List.length_append, Nat.add_assoc]
theorem q21 {α β : Type} {f : Rd α} {x : α} {l : List UInt8} {g : α → Rd β} {w : β} (hf : Back f l x) (hg : g x = rret w) : Back (q1c f g) l w := by
 have := q62 (g := g) hf (m := []) (w := w) (by rw [hg]; exact j2w w)
 rwa [List.append_nil] at this
def q2d (n : Nat) : Rd (List UInt8) := fun B p => if n ≤ B.length - p then .ok ((B.drop p).take n, p + n) else .error 10
theorem q72 (n : Nat) : Fair (q2d n) := by
 refine ⟨fun {B p q v} hp h => ?_, fun {B p e} h => ?_, fun {B} T {p} hp h => ?_⟩
 · unfold q2d at h
   split at h
   · injection h with h; injection h with _ h; omega
   · simp at h
 · unfold q2d at h
   split at h
   · simp at h
   · injection h with h; subst h; decide
 · unfold q2d at h ⊢
   split at h
   · rename_i h1
     rw [if_pos h1, if_pos (by rw [List.length_append]; omega), List.drop_append_of_le_length hp, List.take_append_of_le_length (by rw [List.length_drop]; exact h1)]
   · exact absurd rfl h
theorem j2v (l : List UInt8) : Back (q2d l.length) l l := by
 intro A T
 unfold q2d
 rw [if_pos (by simp), List.drop_left, List.take_left]
def vtk (most last : Nat) : List UInt8 → Nat → Nat → Except Int (Nat × Nat)
 | [], _, _ => .error 10
 | c :: cs, n, u =>
   if n + 1 = most ∧ last < c.toNat then .error 11 else if c.toNat = 0 ∧ 0 < n then .error 11
   else if c.toNat < 128 then .ok (u + c.toNat % 128 * 128 ^ n, n + 1) else vtk most last cs (n + 1) (u + c.toNat % 128 * 128 ^ n)
def zagN (u : Nat) : Int := if u % 2 = 0 then ((u / 2 : Nat) : Int) else -((u / 2 : Nat) : Int) - 1
def rvar (most last : Nat) : Rd Int := fun B p => match vtk most last (B.drop p) 0 0 with
 | .error e => .error e
 | .ok (u, n) => .ok (zagN u, p + n)
def q2r : Rd Int := rvar 10 1
def rint : Rd Int := rvar 5 15
theorem vtk_fwd (most last : Nat) : ∀ (l : List UInt8) (n u v k : Nat), vtk most last l n u = .ok (v, k) → n < k ∧ k ≤ n + l.length
 | [], n, u, v, k, h => by simp [vtk] at h
 | c :: cs, n, u, v, k, h => by
   rw [vtk] at h
   split at h
   · simp at h
   split at h
   · simp at h
   split at h
   · injection h with h; injection h with _ h; rw [List.length_cons]; omega
   · have := vtk_fwd most last cs _ _ v k h
     rw [List.length_cons]; omega
theorem vtk_ers (most last : Nat) : ∀ (l : List UInt8) (n u : Nat) (e : Int), vtk most last l n u = .error e → e ≠ 0
 | [], n, u, e, h => by rw [vtk] at h; injection h with h; subst h; decide
 | c :: cs, n, u, e, h => by
   rw [vtk] at h
   split at h
   · injection h with h; subst h; decide
   split at h
   · injection h with h; subst h; decide
   split at h
   · simp at h
   · exact vtk_ers most last cs _ _ e h
theorem z1x (most last : Nat) (T : List UInt8) : ∀ (l : List UInt8) (n u : Nat), vtk most last l n u ≠ .error 10 → vtk most last (l ++ T) n u = vtk most last l n u
 | [], n, u, h => absurd rfl h
 | c :: cs, n, u, h => by
   rw [List.cons_append, vtk, vtk]
   rw [vtk] at h
   split
   · rfl
   split
   · rfl
   split
   · rfl
   · rename_i h1 h2 h3
     rw [if_neg h1, if_neg h2, if_neg h3] at h
     exact z1x most last T cs _ _ h
theorem j5u (most last : Nat) : Fair (rvar most last) := by
 refine ⟨fun {B p q v} hp h => ?_, fun {B p e} h => ?_, fun {B} T {p} hp h => ?_⟩
 · unfold rvar at h
   split at h
   · simp at h
   · rename_i u n hn
     injection h with h; injection h with _ h
     have := vtk_fwd _ _ _ _ _ _ _ hn
     rw [List.length_drop] at this
     omega
 · unfold rvar at h
   split at h
   · rename_i d hd
     injection h with h
     exact h ▸ vtk_ers _ _ _ _ _ _ hd
   · simp at h
 · have h1 : vtk most last (B.drop p) 0 0 ≠ .error 10 := fun h2 => h (by unfold rvar; rw [h2])
   unfold rvar
   rw [List.drop_append_of_le_length hp, z1x most last T _ _ _ h1]
theorem vtk_vint (most last : Nat) (hl : last < 128) (T : List UInt8) : ∀ (k w : Nat), w ≤ k → ∀ (n u : Nat), n < most → w * 128 ^ n < (last + 1) * 128 ^ (most - 1) → (0 < n → 0 < w) → vtk most last (vint w ++ T) n u = .ok (u + w * 128 ^ n, n + (vint w).length) := by
 intro k
 induction k with
 | zero =>
   intro w hw n u hn hb h0
   obtain rfl : w = 0 := by omega
   have hn0 : n = 0 := by
    rcases Nat.eq_zero_or_pos n with h | h
    · exact h
    · have := h0 h; omega
   subst hn0
   rw [q60 (by decide)]
   simp [vtk]
 | succ k ih =>
   intro w hw n u hn hb h0
   have hpow : 0 < 128 ^ n := Nat.pos_of_ne_zero (by simp)
   have hlast : n + 1 = most → w ≤ last := fun h => by
    subst h
    rw [Nat.add_sub_cancel] at hb
    have := Nat.lt_of_mul_lt_mul_right hb
    omega
   by_cases h1 : w < 128
   · have e : (w.toUInt8).toNat = w := by simp; omega
     rw [q60 h1]
     simp only [List.cons_append, List.nil_append, vtk, e, List.length_singleton]
     rw [if_neg (fun h => by have := hlast h.1; omega), if_neg (fun h => by have := h0 h.2; omega), if_pos h1, Nat.mod_eq_of_lt h1]
   · have e : ((w % 128 + 128).toUInt8).toNat = w % 128 + 128 := by simp; omega
     rw [j1a h1]
     simp only [List.cons_append, vtk, e, List.length_cons]
     rw [if_neg (fun h => by have := hlast h.1; omega), if_neg (fun h => by omega), if_neg (by omega)]
     have hd : w / 128 * 128 ^ (n + 1) ≤ w * 128 ^ n := by
      rw [Nat.pow_succ, Nat.mul_comm (128 ^ n), ← Nat.mul_assoc]
      exact Nat.mul_le_mul_right _ (Nat.div_mul_le_self w 128)
     rw [ih (w / 128) (by omega) (n + 1) _ (by
      rcases Nat.lt_or_ge (n + 1) most with h | h
      · exact h
      · have := hlast (by omega); omega) (Nat.lt_of_le_of_lt hd hb) (fun _ => by omega)]
     congr 2
     · rw [show (w % 128 + 128) % 128 = w % 128 from by omega, Nat.pow_succ, Nat.mul_comm (128 ^ n) 128, ← Nat.mul_assoc, Nat.add_assoc, ← Nat.add_mul]
       congr 2
       omega
     · omega
theorem zag_zig (n : Int) : zagN (zigN n) = n := by
 unfold zagN zigN
 split <;> split <;> omega
theorem zig_zag (u : Nat) : zigN (zagN u) = u := by
 unfold zagN zigN
 split <;> split <;> omega
theorem j7y (most last : Nat) (hm : 0 < most) (hl : last < 128) (n : Int) (hn : zigN n < (last + 1) * 128 ^ (most - 1)) : Back (rvar most last) (vput n) n := by
 intro A T
 unfold rvar vput
 rw [List.drop_left, vtk_vint most last hl T _ _ (Nat.le_refl _) 0 0 hm (by simpa using hn) (fun h => absurd h (by decide))]
 simp [zag_zig]
theorem j0v {n : Int} (h1 : -9223372036854775808 ≤ n) (h2 : n ≤ 9223372036854775807) : Back q2r (vput n) n :=
 j7y 10 1 (by decide) (by decide) n (zig_lt n h1 h2)
theorem j7u {n : Int} (h1 : -2147483648 ≤ n) (h2 : n ≤ 2147483647) : Back rint (vput n) n :=
 j7y 5 15 (by decide) (by decide) n (by unfold zigN; split <;> omega)
theorem vtk_ok (most last : Nat) (hl : last < 128) : ∀ (l : List UInt8) (n u v k : Nat), n < most → vtk most last l n u = .ok (v, k) → ∃ w, v = u + w * 128 ^ n ∧ k = n + (vint w).length ∧ w * 128 ^ n < (last + 1) * 128 ^ (most - 1) ∧ (0 < n → 0 < w)
 | [], n, u, v, k, hn, h => by simp [vtk] at h
 | c :: cs, n, u, v, k, hn, h => by
   rw [vtk] at h
   split at h
   · simp at h
   rename_i h1
   split at h
   · simp at h
   rename_i h2
   split at h
   · rename_i h3
     injection h with h
     injection h with h4 h5
     refine ⟨c.toNat, by rw [← h4, Nat.mod_eq_of_lt h3], by rw [q60 h3]; simp; omega, ?_, fun hn0 => ?_⟩
     · rcases Nat.lt_or_ge (n + 1) most with h | h
       · calc c.toNat * 128 ^ n < 128 * 128 ^ n := Nat.mul_lt_mul_of_pos_right h3 (Nat.pos_of_ne_zero (by simp))
          _ = 128 ^ (n + 1) := by rw [Nat.pow_succ, Nat.mul_comm]
          _ ≤ 128 ^ (most - 1) := Nat.pow_le_pow_right (by decide) (by omega)
          _ ≤ (last + 1) * 128 ^ (most - 1) := Nat.le_mul_of_pos_left _ (by omega)
       · obtain rfl : most = n + 1 := by omega
         rw [Nat.add_sub_cancel]
         refine Nat.mul_lt_mul_of_pos_right ?_ (Nat.pos_of_ne_zero (by simp))
         have : ¬ last < c.toNat := fun h => h1 ⟨rfl, h⟩
         omega
     · have : ¬ c.toNat = 0 := fun h => h2 ⟨h, hn0⟩
       omega
   · rename_i h3
     have hn1 : n + 1 < most := by
      have : ¬ (n + 1 = most) := fun h => h1 ⟨h, by omega⟩
      omega
     obtain ⟨w, e1, e2, e3, e4⟩ := vtk_ok most last hl cs (n + 1) _ v k hn1 h
     have hc := c.toNat_lt
     have hw := e4 (by omega)
     have hd : (w * 128 + c.toNat % 128) / 128 = w := by omega
     have hm : (w * 128 + c.toNat % 128) % 128 = c.toNat % 128 := by omega
     have he : (w * 128 + c.toNat % 128) * 128 ^ n = w * 128 ^ (n + 1) + c.toNat % 128 * 128 ^ n := by rw [Nat.add_mul, Nat.pow_succ, Nat.mul_assoc, Nat.mul_comm 128]
     refine ⟨w * 128 + c.toNat % 128, by rw [e1, he]; omega, ?_, ?_, fun _ => by omega⟩
     · rw [j1a (by omega), hd, e2, List.length_cons]; omega
     · rw [he]
       have h5 : w * 128 ^ (n + 1) + 128 ^ (n + 1) ≤ (last + 1) * 128 ^ (most - 1) := by
        obtain ⟨z, hz⟩ : ∃ z, most - 1 = n + 1 + z := ⟨most - 1 - (n + 1), by omega⟩
        rw [hz, show (128 : Nat) ^ (n + 1 + z) = 128 ^ z * 128 ^ (n + 1) from by rw [Nat.add_comm, Nat.pow_add], ← Nat.mul_assoc] at e3 ⊢
        have := Nat.lt_of_mul_lt_mul_right e3
        calc w * 128 ^ (n + 1) + 128 ^ (n + 1) = (w + 1) * 128 ^ (n + 1) := by rw [Nat.add_mul, Nat.one_mul]
         _ ≤ (last + 1) * 128 ^ z * 128 ^ (n + 1) := Nat.mul_le_mul_right _ this
       have h6 : c.toNat % 128 * 128 ^ n < 128 ^ (n + 1) := by
        rw [Nat.pow_succ, Nat.mul_comm]
        exact Nat.mul_lt_mul_of_pos_left (Nat.mod_lt _ (by decide)) (Nat.pos_of_ne_zero (by simp))
       omega
theorem var_ok {most last : Nat} (hm : 0 < most) (hl : last < 128) {B : List UInt8} {p q : Nat} {n : Int} (h : rvar most last B p = .ok (n, q)) : q = p + (vput n).length ∧ zigN n < (last + 1) * 128 ^ (most - 1) := by
 unfold rvar at h
 split at h
 · simp at h
 · rename_i u k hk
   injection h with h
   injection h with h1 h2
   obtain ⟨w, e1, e2, e3, _⟩ := vtk_ok most last hl _ _ _ _ _ hm hk
   simp at e1 e2 e3
   subst e1 h1 h2
   rw [vput, zig_zag, e2]
   exact ⟨rfl, e3⟩
theorem j2f {B : List UInt8} {p q : Nat} {n : Int} (h : q2r B p = .ok (n, q)) : q = p + (vput n).length ∧ -9223372036854775808 ≤ n ∧ n ≤ 9223372036854775807 := by
 obtain ⟨h1, h2⟩ := var_ok (by decide) (by decide) h
 refine ⟨h1, ?_⟩
 unfold zigN at h2
 split at h2 <;> omega
theorem int_ok {B : List UInt8} {p q : Nat} {n : Int} (h : rint B p = .ok (n, q)) : q = p + (vput n).length ∧ -2147483648 ≤ n ∧ n ≤ 2147483647 := by
 obtain ⟨h1, h2⟩ := var_ok (by decide) (by decide) h
 refine ⟨h1, ?_⟩
 unfold zigN at h2
 split at h2 <;> omega
/-! The readers of leaves. -/
def q2e : List UInt8 → Nat
 | [] => 0
 | c :: cs => c.toNat + 256 * q2e cs
theorem z1g (l : List UInt8) (c : UInt8) : q2e (l ++ [c]) = q2e l + c.toNat * 256 ^ l.length := by
 induction l with
 | nil => simp [q2e]
 | cons x xs ih =>
   rw [List.cons_append, q2e, q2e, ih, List.length_cons, Nat.pow_succ, Nat.mul_add, Nat.add_assoc]
   congr 2
   rw [← Nat.mul_assoc, Nat.mul_comm 256, Nat.mul_assoc, Nat.mul_comm 256]
def q47 (k : Nat) : Rd Int := q1c (q2d k) fun l => rret ((q2e l : Nat) : Int)
def q48 : Rd Int := q1c (q2d 1) fun l => if 1 < q2e l then rbad 11 else rret ((q2e l : Nat) : Int)
def q3n : Rd (List UInt8) := q1c q2r fun n => if n < 0 then rbad 11 else if 20000 < n then rbad 15 else q2d n.toNat
def q2t : Rd (List UInt8) := q1c q3n fun l => if q2p l = true then rret l else rbad 11
def q8j (f : Rd Int) (many : Nat) : Rd Int := q1c f fun n => if n < 0 ∨ (many : Int) ≤ n then rbad 11 else rret n
def q4w (have' : Nat) : Rd Nat := q1c q2r fun n =>
 if n < 0 then q1c q2r fun _ => if (300 : Int) - have' < -n then rbad 15 else rret (-n).toNat
 else if (300 : Int) - have' < n then rbad 15 else rret n.toNat
theorem q36 : Fair q2r := j5u 10 1
theorem j1m : Fair rint := j5u 5 15
theorem j1l (k : Nat) : Fair (q47 k) := q2s (q72 k) fun _ => q22 _
theorem q29 {α : Type} {c : Prop} [Decidable c] {f g : Rd α} (hf : Fair f) (hg : Fair g) : Fair (if c then f else g) := by split <;> assumption
theorem j5r : Fair q48 := q2s (q72 1) fun _ => q29 (q55 (by decide)) (q22 _)
theorem j2a : Fair q3n := q2s q36 fun _ => q29 (q55 (by decide)) (q29 (q55 (by decide)) (q72 _))
theorem q73 : Fair q2t := q2s j2a fun _ => q29 (q22 _) (q55 (by decide))
theorem j2c {f : Rd Int} (hf : Fair f) (many : Nat) : Fair (q8j f many) := q2s hf fun _ => q29 (q55 (by decide)) (q22 _)
theorem j3n (k : Nat) : Fair (q4w k) := q2s q36 fun _ => q29 (q2s q36 fun _ => q29 (q55 (by decide)) (q22 _)) (q29 (q55 (by decide)) (q22 _))
/-! Values. -/
def rrow (item : Rd (List (List UInt8) × VT)) : Nat → List VT → List (List UInt8) → Rd (List VT × List (List UInt8))
 | 0, xs, ks => rret (xs, ks)
 | m + 1, xs, ks => q1c item fun q => rrow item m (xs ++ [q.2]) (ks ++ q.1)
def q4k (item : Rd (List (List UInt8) × VT)) : Nat → List VT → List (List UInt8) → Rd (List VT × List (List UInt8))
 | 0, _, _ => rbad 15
 | k + 1, xs, ks => q1c (q4w xs.length) fun m => if m = 0 then rret (xs, ks) else q1c (rrow item m xs ks) fun q => q4k item k q.1 q.2
def q4x (b : Bool) (f : Rd VT) : Rd (List (List UInt8) × VT) := if b = true then q1c q2t fun y => q1c f fun v => rret ([y], v) else q1c f fun v => rret ([], v)
def q5y (f : Int → Rd VT) : List FT → List VT → Rd (List VT)
 | [], xs => rret xs
 | t :: ts, xs => q1c (f t.type) fun v => q5y f ts (xs ++ [v])
def q1w (nd : NT) : Rd VT :=
 if nd.kind = 2 then q1c q48 fun n => rret (.mk nd.kind n 0 [] [] [])
 else if nd.kind = 3 then q1c rint fun n => rret (.mk nd.kind n 0 [] [] [])
 else if nd.kind = 4 then q1c q2r fun n => rret (.mk nd.kind n 0 [] [] [])
 else if nd.kind = 5 then q1c (q47 4) fun b => rret (.mk nd.kind 0 b [] [] [])
 else if nd.kind = 6 then q1c (q47 8) fun b => rret (.mk nd.kind 0 b [] [] [])
 else if nd.kind = 7 then q1c q3n fun l => rret (.mk nd.kind 0 0 l [] [])
 else if nd.kind = 8 then q1c q2t fun l => rret (.mk nd.kind 0 0 l [] [])
 else if nd.kind = 14 then q1c (q2d nd.size.toNat) fun l => rret (.mk nd.kind 0 0 l [] [])
 else if nd.kind = 10 then q1c (q8j rint nd.symbols.length) fun n => rret (.mk nd.kind n 0 [] [] [])
 else rret (.mk nd.kind 0 0 [] [] [])
def j1r (nd : NT) (f : Int → Rd VT) : Rd VT :=
 if nd.kind = 9 then q1c (q5y f nd.fields []) fun xs => rret (.mk nd.kind 0 0 [] xs [])
 else if nd.kind = 13 then q1c (q8j q2r nd.branches.length) fun n => q1c (f (q2x nd n)) fun v => rret (.mk nd.kind n 0 [] [v] [])
 else q1c (q4k (q4x (nd.kind == 12) (f nd.items)) 301 [] []) fun q => rret (.mk nd.kind 0 0 [] q.1 q.2)
def q3m (k : Int) : Bool := k == 9 || k == 11 || k == 12 || k == 13
def decM (ns : List NT) : Nat → Int → Rd VT
 | 0, a => match ns[a.toNat]? with | none => rbad 2 | some nd => if q3m nd.kind = true then rbad 15 else q1w nd
 | d + 1, a => match ns[a.toNat]? with | none => rbad 2 | some nd => if q3m nd.kind = true then j1r nd (decM ns d) else q1w nd
theorem j5t {item : Rd (List (List UInt8) × VT)} (h : Fair item) : ∀ (m : Nat) (xs : List VT) (ks : List (List UInt8)), Fair (rrow item m xs ks)
 | 0, xs, ks => q22 _
 | m + 1, xs, ks => q2s h fun _ => j5t h m _ _
theorem j5q {item : Rd (List (List UInt8) × VT)} (h : Fair item) : ∀ (k : Nat) (xs : List VT) (ks : List (List UInt8)), Fair (q4k item k xs ks)
 | 0, xs, ks => q55 (by decide)
 | k + 1, xs, ks => q2s (j3n _) fun _ => q29 (q22 _) (q2s (j5t h _ _ _) fun _ => j5q h k _ _)
theorem j2b (b : Bool) {f : Rd VT} (h : Fair f) : Fair (q4x b f) := q29 (q2s q73 fun _ => q2s h fun _ => q22 _) (q2s h fun _ => q22 _)
theorem j5s {f : Int → Rd VT} (h : ∀ a, Fair (f a)) : ∀ (ts : List FT) (xs : List VT), Fair (q5y f ts xs)
 | [], xs => q22 _
 | t :: ts, xs => q2s (h _) fun _ => j5s h ts _
theorem j8v (nd : NT) : Fair (q1w nd) :=
 q29 (q2s j5r fun _ => q22 _) (q29 (q2s j1m fun _ => q22 _) (q29 (q2s q36 fun _ => q22 _) (q29 (q2s (j1l 4) fun _ => q22 _) (q29 (q2s (j1l 8) fun _ => q22 _)
  (q29 (q2s j2a fun _ => q22 _) (q29 (q2s q73 fun _ => q22 _) (q29 (q2s (q72 _) fun _ => q22 _) (q29 (q2s (j2c j1m _) fun _ => q22 _) (q22 _)))))))))
theorem fair_comp (nd : NT) {f : Int → Rd VT} (h : ∀ a, Fair (f a)) : Fair (j1r nd f) :=
 q29 (q2s (j5s h _ _) fun _ => q22 _) (q29 (q2s (j2c q36 _) fun _ => q2s (h _) fun _ => q22 _) (q2s (j5q (j2b _ (h _)) _ _ _) fun _ => q22 _))
theorem q66 (ns : List NT) : ∀ (d : Nat) (a : Int), Fair (decM ns d a)
 | 0, a => by
   rw [decM]
   split
   · exact q55 (by decide)
   · exact q29 (q55 (by decide)) (j8v _)
 | d + 1, a => by
   rw [decM]
   split
   · exact q55 (by decide)
   · exact q29 (fair_comp _ (q66 ns d)) (j8v _)
theorem j15 {ns : List NT} {a : Int} {nd : NT} (h : ns[a.toNat]? = some nd) (hk : q3m nd.kind = false) (d : Nat) : decM ns d a = q1w nd := by
 cases d <;> rw [decM, h] <;> simp [hk]
theorem j8m {ns : List NT} {a : Int} {nd : NT} (h : ns[a.toNat]? = some nd) (hk : q3m nd.kind = true) : decM ns 0 a = rbad 15 := by
 rw [decM, h]
 simp [hk]
theorem j47 {ns : List NT} {a : Int} {nd : NT} (h : ns[a.toNat]? = some nd) (hk : q3m nd.kind = true) (d : Nat) : decM ns (d + 1) a = j1r nd (decM ns d) := by
 rw [decM, h]
 simp [hk]

theorem and1 (u : Nat) (h : u < 18446744073709551616) : (BitVec.ofInt 64 (u : Int) &&& 1#64).toNat = u % 2 := by
 rw [BitVec.ofInt_natCast, BitVec.toNat_and, BitVec.toNat_ofNat, Nat.mod_eq_of_lt h, show (1#64).toNat = 1 from rfl, Nat.and_one_is_mod]
theorem zag_bits (u : Nat) (h : u < 18446744073709551616) : IntKind.i64.wrap ((BitVec.ofInt 64 (IntKind.i64.wrap ((u : Int).fdiv (2 ^ min 1 64))) ^^^ BitVec.ofInt 64 (IntKind.i64.wrap (0 - IntKind.i64.wrap (IntKind.u64.wrap ((BitVec.ofInt 64 (u : Int) &&& 1#64).toNat : Int))))).toNat : Int) = zagN u := by
 have e1 : IntKind.i64.wrap ((u : Int).fdiv (2 ^ min 1 64)) = ((u / 2 : Nat) : Int) := by
  rw [show (2 : Int) ^ min 1 64 = 2 from rfl, Int.fdiv_eq_ediv_of_nonneg _ (by decide), q0f (by omega) (by omega)]
  omega
 have e2 : IntKind.u64.wrap ((u % 2 : Nat) : Int) = ((u % 2 : Nat) : Int) := by rw [IntKind.wrap_u64]; omega
 have e3 : IntKind.i64.wrap ((u % 2 : Nat) : Int) = ((u % 2 : Nat) : Int) := q0f (by omega) (by omega)
 have e4 : IntKind.i64.wrap (0 - ((u % 2 : Nat) : Int)) = -((u % 2 : Nat) : Int) := by rw [q0f (by omega) (by omega)]; omega
 rw [e1, and1 u h, e2, e3, e4]
 unfold zagN
 by_cases hu : u % 2 = 0
 · rw [hu, if_pos rfl, show -((0 : Nat) : Int) = 0 from rfl, show BitVec.ofInt 64 0 = 0#64 from rfl, BitVec.xor_zero, BitVec.ofInt_natCast, BitVec.toNat_ofNat, q0f (by omega) (by omega)]
   omega
 · rw [show u % 2 = 1 from by omega, if_neg (by decide), show BitVec.ofInt 64 (-((1 : Nat) : Int)) = BitVec.allOnes 64 from by decide, BitVec.xor_allOnes, BitVec.toNat_not, BitVec.ofInt_natCast, BitVec.toNat_ofNat, IntKind.wrap_i64]
   have h2 : u / 2 < 9223372036854775808 := by omega
   generalize u / 2 = w at h2
   omega
theorem z2d (u : Nat) (h : u < 18446744073709551616) : Told Tryz.prog 207 [.c (.v (.int .u64 (u : Int)))] (.c (.v (.int .i64 (zagN u)))) := by
 have hz := zag_bits u h
 refine VC.toldP ent_207 Tryz.func207 rfl Tryz.ntmps207 fun hb => ?_
 clear hb
 refine q0b ?_
 refine retX Tryz.results207 ?_
 exact q1p (congrArg (fun z => PV.v (.int .i64 z)) hz)
theorem and127 (c : UInt8) : IntKind.u64.wrap (IntKind.u8.wrap ((BitVec.ofInt 8 (c.toNat : Int) &&& 127#8).toNat : Int)) = ((c.toNat % 128 : Nat) : Int) := by
 have key : ∀ x : Fin 256, ((BitVec.ofNat 8 x.val &&& 127#8).toNat) = x.val % 128 := by decide +kernel
 have := key ⟨c.toNat, c.toNat_lt⟩
 simp only [] at this
 rw [BitVec.ofInt_natCast, this, IntKind.wrap_u8, IntKind.wrap_u64]
 omega
theorem j9t {u x k : Nat} (hu : u < 2 ^ k) (ht : u + x * 2 ^ k < 18446744073709551616) : IntKind.u64.wrap ((BitVec.ofInt 64 (u : Int) ||| BitVec.ofInt 64 ((x * 2 ^ k : Nat) : Int)).toNat : Int) = ((u + x * 2 ^ k : Nat) : Int) := by
 rw [BitVec.ofInt_natCast, BitVec.ofInt_natCast, BitVec.toNat_or, BitVec.toNat_ofNat, BitVec.toNat_ofNat, Nat.mod_eq_of_lt (by omega), Nat.mod_eq_of_lt (by omega), Nat.or_comm, ← Nat.shiftLeft_eq, ← Nat.shiftLeft_add_eq_or_of_lt hu, IntKind.wrap_u64, Nat.shiftLeft_eq]
 omega
theorem pow7 (n : Nat) : 128 ^ n = 2 ^ (7 * n) := by rw [Nat.pow_mul]
def vB (u sh most last n : Nat) : Blkd := ⟨false, 233, 5, [[.c (.v (.int .u64 (u : Int))), .c (.v (.int .u64 (sh : Int))), .c (.v (.int .i64 (most : Int))), .c (.v (.int .u8 (last : Int))), .c (.v (.int .i64 (n : Int)))]]⟩
def Wrong (most last n : Nat) (c : UInt8) : Prop := (n + 1 = most ∧ last < c.toNat) ∨ (c.toNat = 0 ∧ 0 < n)
theorem feed_told (most last n u : Nat) (c : UInt8) (hn : n < most) (hm : most ≤ 10) :
  (Wrong most last n c → ToldM Tryz.prog 227 [.ref 1000000 1 0 0, .c (.v (.int .u8 (c.toNat : Int)))] [vB u (7 * n) most last n] [some (vB u (7 * n) most last (n + 1))] (.tup [.c (.v (.bool false)), .c (.v (.int .i64 11))])) ∧
  (¬ Wrong most last n c → u < 128 ^ n → u + c.toNat % 128 * 128 ^ n < 18446744073709551616 →
   ToldM Tryz.prog 227 [.ref 1000000 1 0 0, .c (.v (.int .u8 (c.toNat : Int)))] [vB u (7 * n) most last n] [some (vB (u + c.toNat % 128 * 128 ^ n) (7 * (n + 1)) most last (n + 1))] (.tup [.c (.v (.bool (decide (c.toNat < 128)))), .c (.v (.int .i64 0))])) := by
 have hw : IntKind.i64.wrap ((n : Int) + 1) = ((n + 1 : Nat) : Int) := by rw [q0f (by omega) (by omega)]; omega
 have e1 : (((n + 1 : Nat) : Int) == (most : Int)) = decide (n + 1 = most) := by
  rw [Bool.eq_iff_iff]
  simp
  omega
 have e2 : decide ((c.toNat : Int) > (last : Int)) = decide (last < c.toNat) := by simp
 have e3 : ((c.toNat : Int) == 0) = decide (c.toNat = 0) := by
  rw [Bool.eq_iff_iff]
  simp
 have e4 : decide (((n + 1 : Nat) : Int) > 1) = decide (0 < n) := by
  rw [Bool.eq_iff_iff]
  simp
  omega
 have e5 : decide ((c.toNat : Int) < 128) = decide (c.toNat < 128) := by
  rw [Bool.eq_iff_iff]
  simp
  omega
 unfold Wrong vB
 constructor
 · intro hA
   by_cases h1 : n + 1 = most ∧ last < c.toNat
   · rw [decide_eq_true h1.1] at e1
     rw [decide_eq_true h1.2] at e2
     refine VC.toldX j00 [] Tryz.func227 rfl Tryz.ntmps227 fun hb hbL => ?_
     clear hb hbL
     refine q0a (And.intro hw (And.intro e1 e2)) ?_
     refine retX Tryz.results227 ?_
     exact ⟨.c _, .c _⟩
   · have h2 : c.toNat = 0 ∧ 0 < n := hA.resolve_left h1
     rw [decide_eq_true h2.1] at e3
     rw [decide_eq_true h2.2] at e4
     have h0 : ¬ last < c.toNat := by omega
     rw [decide_eq_false h0] at e2
     by_cases h3 : n + 1 = most
     · rw [decide_eq_true h3] at e1
       refine VC.toldX j00 [] Tryz.func227 rfl Tryz.ntmps227 fun hb hbL => ?_
       clear hb hbL
       refine q0a (And.intro hw (And.intro e1 (And.intro e2 (And.intro e3 e4)))) ?_
       refine retX Tryz.results227 ?_
       exact ⟨.c _, .c _⟩
     · rw [decide_eq_false h3] at e1
       refine VC.toldX j00 [] Tryz.func227 rfl Tryz.ntmps227 fun hb hbL => ?_
       clear hb hbL
       refine q0a (And.intro hw (And.intro e1 (And.intro e3 e4))) ?_
       refine retX Tryz.results227 ?_
       exact ⟨.c _, .c _⟩
 · intro hA hu ht
   have hc := c.toNat_lt
   have hmin : min (7 * n) 64 = 7 * n := by omega
   have hsh : IntKind.u64.wrap (((c.toNat % 128 : Nat) : Int) * 2 ^ (7 * n)) = ((c.toNat % 128 * 2 ^ (7 * n) : Nat) : Int) := by
    rw [pow7] at ht
    rw [IntKind.wrap_u64, show ((c.toNat % 128 : Nat) : Int) * 2 ^ (7 * n) = ((c.toNat % 128 * 2 ^ (7 * n) : Nat) : Int) from by simp]
    omega
   have ha := and127 c
   have ho : IntKind.u64.wrap ((BitVec.ofInt IntKind.u64.bits (u : Int) ||| BitVec.ofInt IntKind.u64.bits ((c.toNat % 128 * 2 ^ (7 * n) : Nat) : Int)).toNat : Int) = ((u + c.toNat % 128 * 128 ^ n : Nat) : Int) := by
    rw [pow7] at hu ht ⊢
    exact j9t hu ht
   generalize u + c.toNat % 128 * 128 ^ n = U at ho ht ⊢
   have hs7 : IntKind.u64.wrap (((7 * n : Nat) : Int) + 7) = ((7 * (n + 1) : Nat) : Int) := by rw [IntKind.wrap_u64]; omega
   generalize 7 * (n + 1) = s8 at hs7 ⊢
   generalize 7 * n = s7 at hs7 hmin hsh ho ⊢
   have hs7' : ((s7 : Int)).toNat = s7 := Int.toNat_natCast _
   replace ha : IntKind.u64.wrap (IntKind.u8.wrap ((BitVec.ofInt IntKind.u8.bits (c.toNat : Int) &&& BitVec.ofInt IntKind.u8.bits 127).toNat : Int)) = ((c.toNat % 128 : Nat) : Int) := ha
   (try simp only [go_sem, Int.reduceBEq, Int.reduceLE, Int.reduceLT, Int.reduceNeg, Nat.reduceAdd, Nat.reduceEqDiff, Nat.reduceLT, Nat.reduceLeDiff, Nat.reduceMul, Nat.reduceSub, reduceCtorEq, ↓reduceIte] at ha)
   (try simp only [go_sem, Int.reduceBEq, Int.reduceLE, Int.reduceLT, Int.reduceNeg, Nat.reduceAdd, Nat.reduceEqDiff, Nat.reduceLT, Nat.reduceLeDiff, Nat.reduceMul, Nat.reduceSub, reduceCtorEq, ↓reduceIte] at ho)
   generalize decide (c.toNat < 128) = D at e5
   generalize hx : c.toNat % 128 * 2 ^ s7 = X at hsh ho
   clear hx
   by_cases h1 : n + 1 = most
   · rw [decide_eq_true h1] at e1
     rw [decide_eq_false (fun h => hA (.inl ⟨h1, h⟩))] at e2
     by_cases h2 : c.toNat = 0
     · rw [decide_eq_true h2] at e3
       rw [decide_eq_false (fun h => hA (.inr ⟨h2, h⟩))] at e4
       clear h2 h1 hA
       refine VC.toldX j00 [] Tryz.func227 rfl Tryz.ntmps227 fun hb hbL => ?_
       clear hb hbL
       refine q0a (And.intro hw (And.intro e1 (And.intro e2 (And.intro e3 (And.intro e4 (And.intro e5 (And.intro hmin (And.intro hsh (And.intro ha (And.intro ho hs7)))))))))) ?_
       refine retX Tryz.results227 ?_
       exact ⟨.c _, .c _⟩
     · rw [decide_eq_false h2] at e3
       clear h2 h1 hA
       refine VC.toldX j00 [] Tryz.func227 rfl Tryz.ntmps227 fun hb hbL => ?_
       clear hb hbL
       refine q0a (And.intro hw (And.intro e1 (And.intro e2 (And.intro e3 (And.intro e5 (And.intro hmin (And.intro hsh (And.intro ha (And.intro ho hs7))))))))) ?_
       refine retX Tryz.results227 ?_
       exact ⟨.c _, .c _⟩
   · rw [decide_eq_false h1] at e1
     by_cases h2 : c.toNat = 0
     · rw [decide_eq_true h2] at e3
       rw [decide_eq_false (fun h => hA (.inr ⟨h2, h⟩))] at e4
       clear h2 h1 hA
       refine VC.toldX j00 [] Tryz.func227 rfl Tryz.ntmps227 fun hb hbL => ?_
       clear hb hbL
       refine q0a (And.intro hw (And.intro e1 (And.intro e3 (And.intro e4 (And.intro e5 (And.intro hmin (And.intro hsh (And.intro ha (And.intro ho hs7))))))))) ?_
       refine retX Tryz.results227 ?_
       exact ⟨.c _, .c _⟩
     · rw [decide_eq_false h2] at e3
       clear h2 h1 hA
       refine VC.toldX j00 [] Tryz.func227 rfl Tryz.ntmps227 fun hb hbL => ?_
       clear hb hbL
       refine q0a (And.intro hw (And.intro e1 (And.intro e3 (And.intro e5 (And.intro hmin (And.intro hsh (And.intro ha (And.intro ho hs7)))))))) ?_
       refine retX Tryz.results227 ?_
       exact ⟨.c _, .c _⟩
theorem z1v (most last : Nat) (hm0 : 0 < most) (hm : most ≤ 10) (hl : last < 128) (hb64 : (last + 1) * 128 ^ (most - 1) ≤ 18446744073709551616) (B : List UInt8) (hB : B.length ≤ 1000000) (p : Nat) (hp : p ≤ B.length) (U k e : Nat)
  (hR : (vtk most last (B.drop p) 0 0 = .ok (U, k) ∧ e = 0) ∨ (vtk most last (B.drop p) 0 0 = .error (e : Int) ∧ U = 0 ∧ k = 0)) :
  ToldM Tryz.prog 206 [.c (.sl 1 (q0e B)), .c (.v (.int .i64 (p : Int))), .ref 1000000 1 0 0] [vB 0 0 most last 0] [none] (.tup [.c (.v (.int .u64 (U : Int))), .c (.v (.int .i64 ((p + k : Nat) : Int))), .c (.v (.int .i64 (e : Int)))]) := by
 have hbl : (q0e B).length = B.length := by simp [q0e]
 have hdr : ((q0e B).take B.length).drop p = q0e (B.drop p) := by rw [← hbl, List.take_length]; simp [q0e, List.map_drop]
 have hdl : (q0e (B.drop p)).length = (B.drop p).length := by simp [q0e]
 have hdn : (B.drop p).length + p = B.length := by rw [List.length_drop]; omega
 have e1 : decide ((p : Int) < 0) = false := by simp
 have e2 : decide ((p : Int) > (B.length : Int)) = false := by simp; omega
 generalize B.drop p = D at hdr hdl hdn hR
 unfold vB
 refine VC.toldX ent_206 [] Tryz.func206 rfl Tryz.ntmps206 fun hb hbL => ?_
 clear hb hbL
 refine q0a (And.intro e1 (And.intro e2 (And.intro hbl (And.intro hdr hdl)))) ?_
 refine VC.loop (ι := {q : Nat × Nat // q.1 ≤ D.length ∧ q.1 < most ∧ q.2 < 128 ^ q.1 ∧ vtk most last (D.drop q.1) q.1 q.2 = vtk most last D 0 0})
  (fun q => [(0, .c (.sl 1 (q0e B))), (1, .c (.v (.int .i64 (p : Int)))), (2, .ref 1000000 1 0 0), (9, .fn (.func 227) [.ref 1000000 1 0 0] []), (27, .c (.sl 1 (q0e D))), (28, .c (.v (.int .i64 (D.length : Int)))), (29, .c (.v (.int .i64 (q.1.1 : Int))))])
  (fun q => [(1000000, ⟨false, 233, 5, [[.c (.v (.int .u64 (q.1.2 : Int))), .c (.v (.int .u64 ((7 * q.1.1 : Nat) : Int))), .c (.v (.int .i64 (most : Int))), .c (.v (.int .u8 (last : Int))), .c (.v (.int .i64 (q.1.1 : Int)))]]⟩)]) 800 (fun q => D.length - q.1.1)
  ⟨(0, 0), Nat.zero_le _, hm0, by simp, rfl⟩ ?_ ?_
 · exact q2f (hdl)
 rintro ⟨⟨i, u⟩, hi, him, hu, hq⟩
 simp only [] at hi him hu hq ⊢
 refine q0c (hdl) ?_
 refine VC.cond (by rfl) (by trivial) (fun hc => ?_) (fun hc => ?_)
 · have hlt : i < D.length := by simp at hc; omega
   obtain ⟨c, hcx⟩ : ∃ c, D[i]? = some c := ⟨D[i], List.getElem?_eq_getElem hlt⟩
   have hcp : (q0e D)[i]? = some [.v (.int .u8 (c.toNat : Int))] := by unfold q0e; rw [List.getElem?_map, hcx]; rfl
   have hdi : D.drop i = c :: D.drop (i + 1) := by
    obtain ⟨h1, h2⟩ := List.getElem?_eq_some_iff.1 hcx
    rw [← h2]
    exact List.drop_eq_getElem_cons hlt
   rw [hdi, vtk] at hq
   obtain ⟨hF1, hF2⟩ := feed_told most last i u c him hm
   have hw1 : IntKind.i64.wrap ((i : Int) + 1) = ((i + 1 : Nat) : Int) := by rw [q0f (by omega) (by omega)]; omega
   have hw2 : IntKind.i64.wrap ((p : Int) + (i : Int)) = ((p + i : Nat) : Int) := by rw [q0f (by omega) (by omega)]; omega
   have hw3 : IntKind.i64.wrap (((p + i : Nat) : Int) + 1) = ((p + i + 1 : Nat) : Int) := by rw [q0f (by omega) (by omega)]; omega
   by_cases hW : Wrong most last i c
   · have hF := hF1 hW
     have hE : e = 11 ∧ U = 0 ∧ k = 0 := by
      have : vtk most last D 0 0 = .error 11 := by
       rw [← hq]
       rcases hW with hW | hW
       · rw [if_pos hW]
       · by_cases h2 : i + 1 = most ∧ last < c.toNat
         · rw [if_pos h2]
         · rw [if_neg h2, if_pos hW]
      rw [this] at hR
      rcases hR with ⟨h, _⟩ | ⟨h, h2, h3⟩
      · simp at h
      · injection h with h
        exact ⟨by omega, h2, h3⟩
     obtain ⟨rfl, rfl, rfl⟩ := hE
     clear hF1 hF2 hq hR hW
     unfold vB at hF
     refine q0c (And.intro hdl hcp) ?_
     refine q0z [1000000] (hF) ?_
     refine q0m ?_
     refine retX Tryz.results206 ?_
     exact ⟨.c _, .c _, .c _⟩
   have hc8 := c.toNat_lt
   have hpw : 128 ^ (i + 1) = 128 * 128 ^ i := by rw [Nat.pow_succ, Nat.mul_comm]
   have hu1 : u + c.toNat % 128 * 128 ^ i < 128 ^ (i + 1) := by
    have h1 : c.toNat % 128 * 128 ^ i ≤ 127 * 128 ^ i := Nat.mul_le_mul_right _ (by omega)
    omega
   have hu2 : u + c.toNat % 128 * 128 ^ i < 18446744073709551616 := by
    refine Nat.lt_of_lt_of_le ?_ hb64
    rcases Nat.lt_or_ge (i + 1) most with h | h
    · calc u + c.toNat % 128 * 128 ^ i < 128 ^ (i + 1) := hu1
       _ ≤ 128 ^ (most - 1) := Nat.pow_le_pow_right (by decide) (by omega)
       _ ≤ (last + 1) * 128 ^ (most - 1) := Nat.le_mul_of_pos_left _ (by omega)
    · have hme : most - 1 = i := by omega
      have h1 : ¬ last < c.toNat := fun h2 => hW (.inl ⟨by omega, h2⟩)
      have h2 : c.toNat % 128 * 128 ^ i ≤ last * 128 ^ i := Nat.mul_le_mul_right _ (by omega)
      rw [hme, Nat.add_mul, Nat.one_mul]
      omega
   have hF := hF2 hW hu hu2
   rw [if_neg (fun h => hW (.inl h)), if_neg (fun h => hW (.inr h))] at hq
   by_cases h128 : c.toNat < 128
   · rw [if_pos h128] at hq
     rw [decide_eq_true h128] at hF
     rw [← hq] at hR
     have hE : e = 0 ∧ U = u + c.toNat % 128 * 128 ^ i ∧ k = i + 1 := by
      rcases hR with ⟨h, h2⟩ | ⟨h, _⟩
      · injection h with h
        injection h with h3 h4
        exact ⟨h2, h3.symm, h4.symm⟩
      · simp at h
     obtain ⟨rfl, rfl, rfl⟩ := hE
     clear hF1 hF2 hq hR hW hu1
     generalize u + c.toNat % 128 * 128 ^ i = U at hF hu2 ⊢
     unfold vB at hF
     refine q0c (And.intro hdl hcp) ?_
     refine q0z [1000000] (hF) ?_
     refine q0a (And.intro hw2 hw3) ?_
     refine retX Tryz.results206 ?_
     exact ⟨.c _, .c _, .c _⟩
   · rw [if_neg h128] at hq
     rw [decide_eq_false h128] at hF
     have him1 : i + 1 < most := by
      have : ¬ (i + 1 = most) := fun h => hW (.inl ⟨h, by omega⟩)
      omega
     clear hF1 hF2 hW
     generalize u + c.toNat % 128 * 128 ^ i = V at hF hu1 hu2 hq
     unfold vB at hF
     generalize hs8 : 7 * (i + 1) = s8 at hF
     refine q0c (And.intro hdl hcp) ?_
     refine q0z [1000000] (hF) ?_
     refine q0a (hw1) ?_
     refine .next ⟨(i + 1, V), hlt, him1, hu1, hq⟩ ?_ (by simp only []; omega)
     refine q1j (hdl) ?_
     rw [← hs8]
 · have hge : D.length ≤ i := by simp at hc; omega
   rw [List.drop_eq_nil_of_le hge, vtk] at hq
   rw [← hq] at hR
   have hE : e = 10 ∧ U = 0 ∧ k = 0 := by
    rcases hR with ⟨h, _⟩ | ⟨h, h2, h3⟩
    · simp at h
    · injection h with h
      exact ⟨by omega, h2, h3⟩
   obtain ⟨rfl, rfl, rfl⟩ := hE
   refine q0m ?_
   refine retX Tryz.results206 ?_
   exact ⟨.c _, .c _, .c _⟩
def varM (most last : Nat) (B : List UInt8) (p : Nat) : Int × Int × Int := match rvar most last B p with
 | .error e => (0, (p : Int), e)
 | .ok (n, q) => (n, (q : Int), 0)
theorem z1w (most last : Nat) (hm0 : 0 < most) (hl : last < 128) (hb64 : (last + 1) * 128 ^ (most - 1) ≤ 18446744073709551616) {D : List UInt8} {U k : Nat} (h : vtk most last D 0 0 = .ok (U, k)) : U < 18446744073709551616 := by
 obtain ⟨w, e1, _, e3, _⟩ := vtk_ok most last hl D 0 0 U k hm0 h
 simp at e1 e3
 omega
theorem vtk_pos (most last : Nat) : ∀ (l : List UInt8) (n u : Nat) (e : Int), vtk most last l n u = .error e → 0 ≤ e
 | [], n, u, e, h => by rw [vtk] at h; injection h with h; subst h; decide
 | c :: cs, n, u, e, h => by
   rw [vtk] at h
   split at h
   · injection h with h; subst h; decide
   split at h
   · injection h with h; subst h; decide
   split at h
   · simp at h
   · exact vtk_pos most last cs _ _ e h
theorem z1u (most last : Nat) (hm0 : 0 < most) (hm : most ≤ 10) (hl : last < 128) (hb64 : (last + 1) * 128 ^ (most - 1) ≤ 18446744073709551616) (B : List UInt8) (hB : B.length ≤ 1000000) (p : Nat) (hp : p ≤ B.length) : ∃ U : Nat, U < 18446744073709551616 ∧ zagN U = (varM most last B p).1 ∧
  ToldM Tryz.prog 206 [.c (.sl 1 (q0e B)), .c (.v (.int .i64 (p : Int))), .ref 1000000 1 0 0] [vB 0 0 most last 0] [none] (.tup [.c (.v (.int .u64 (U : Int))), .c (.v (.int .i64 (varM most last B p).2.1)), .c (.v (.int .i64 (varM most last B p).2.2))]) := by
 unfold varM rvar
 cases h : vtk most last (B.drop p) 0 0 with
 | error e =>
   have he := vtk_pos most last _ _ _ e h
   obtain ⟨e, rfl⟩ : ∃ k : Nat, e = (k : Int) := ⟨e.toNat, by omega⟩
   exact ⟨0, by decide, rfl, z1v most last hm0 hm hl hb64 B hB p hp 0 0 e (.inr ⟨h, rfl, rfl⟩)⟩
 | ok r =>
   exact ⟨r.1, z1w most last hm0 hl hb64 h, rfl, z1v most last hm0 hm hl hb64 B hB p hp r.1 r.2 0 (.inl ⟨h, rfl⟩)⟩
theorem z6x (B : List UInt8) (hB : B.length ≤ 1000000) (p : Nat) (hp : p ≤ B.length) : Told Tryz.prog 169 [.c (.sl 1 (q0e B)), .c (.v (.int .i64 (p : Int)))] (.tup [.c (.v (.int .i64 (varM 10 1 B p).1)), .c (.v (.int .i64 (varM 10 1 B p).2.1)), .c (.v (.int .i64 (varM 10 1 B p).2.2))]) := by
 obtain ⟨U, hU, hz, hT⟩ := z1u 10 1 (by decide) (by decide) (by decide) (by decide) B hB p hp
 have hZ := z2d U hU
 rw [hz] at hZ
 generalize varM 10 1 B p = R at hT hZ
 unfold vB at hT
 rw [show ((0 : Nat) : Int) = 0 from rfl, show ((10 : Nat) : Int) = 10 from rfl, show ((1 : Nat) : Int) = 1 from rfl] at hT
 refine VC.toldP ent_169 Tryz.func169 rfl Tryz.ntmps169 fun hb => ?_
 clear hb
 refine q0b ?_
 refine q0z [48] (hT) ?_
 refine q0b ?_
 refine q0j (hZ) ?_
 refine q0b ?_
 refine retX Tryz.results169 ?_
 exact ⟨.c _, .c _, .c _⟩
theorem vint_told (B : List UInt8) (hB : B.length ≤ 1000000) (p : Nat) (hp : p ≤ B.length) : Told Tryz.prog 167 [.c (.sl 1 (q0e B)), .c (.v (.int .i64 (p : Int)))] (.tup [.c (.v (.int .i64 (varM 5 15 B p).1)), .c (.v (.int .i64 (varM 5 15 B p).2.1)), .c (.v (.int .i64 (varM 5 15 B p).2.2))]) := by
 obtain ⟨U, hU, hz, hT⟩ := z1u 5 15 (by decide) (by decide) (by decide) (by decide) B hB p hp
 have hZ := z2d U hU
 rw [hz] at hZ
 generalize varM 5 15 B p = R at hT hZ
 unfold vB at hT
 rw [show ((0 : Nat) : Int) = 0 from rfl, show ((5 : Nat) : Int) = 5 from rfl, show ((15 : Nat) : Int) = 15 from rfl] at hT
 refine VC.toldP ent_167 Tryz.func167 rfl Tryz.ntmps167 fun hb => ?_
 clear hb
 refine q0b ?_
 refine q0z [48] (hT) ?_
 refine q0b ?_
 refine q0j (hZ) ?_
 refine q0b ?_
 refine retX Tryz.results167 ?_
 exact ⟨.c _, .c _, .c _⟩

theorem z58 {x : UInt8} (h0 : x.toNat < 128) : ∃ c : Int, Told Tryz.prog 228 [.c (.v (.int .u8 (x.toNat : Int)))] (.tup [.c (.v (.int .i64 (q15 x : Int))), .c (.v (.int .i32 c))]) := by
 have e0 : ((x.toNat : Int) < 128) = True := by simp; omega
 have hu : q15 x = 1 := by unfold q15; repeat' split <;> try omega
 rw [hu]
 apply Exists.intro
 case h =>
 refine VC.told j1i Tryz.func228 rfl Tryz.ntmps228 (by simp) (by rfl) (by rfl) fun hb => ?_
 clear hb
 refine q0c (e0) ?_
 refine VC.condT (by rfl) (by trivial) ?_
 refine q0b ?_
 refine ⟨.inr rfl, ?_⟩
 rw [Tryz.results228]
 simp only [q1f, resV, go_sem, simprocAttr]
 exact ⟨.c _, .c _⟩
theorem z59 {x : UInt8} (h0 : ¬ x.toNat < 128) (h1 : x.toNat < 194) : ∃ c : Int, Told Tryz.prog 228 [.c (.v (.int .u8 (x.toNat : Int)))] (.tup [.c (.v (.int .i64 (q15 x : Int))), .c (.v (.int .i32 c))]) := by
 have e0 : ((x.toNat : Int) < 128) = False := by simp; omega
 have e1 : ((x.toNat : Int) < 194) = True := by simp; omega
 have hu : q15 x = 0 := by unfold q15; repeat' split <;> try omega
 rw [hu]
 apply Exists.intro
 case h =>
 refine VC.told j1i Tryz.func228 rfl Tryz.ntmps228 (by simp) (by rfl) (by rfl) fun hb => ?_
 clear hb
 refine q0c (e0) ?_
 refine VC.condF (by rfl) (by trivial) ?_
 refine q0c (e1) ?_
 refine VC.condT (by rfl) (by trivial) ?_
 refine q0b ?_
 refine ⟨.inr rfl, ?_⟩
 rw [Tryz.results228]
 simp only [q1f, resV, go_sem, simprocAttr]
 exact ⟨.c _, .c _⟩
theorem z6a {x : UInt8} (h0 : ¬ x.toNat < 128) (h1 : ¬ x.toNat < 194) (h2 : x.toNat < 224) : ∃ c : Int, Told Tryz.prog 228 [.c (.v (.int .u8 (x.toNat : Int)))] (.tup [.c (.v (.int .i64 (q15 x : Int))), .c (.v (.int .i32 c))]) := by
 have e0 : ((x.toNat : Int) < 128) = False := by simp; omega
 have e1 : ((x.toNat : Int) < 194) = False := by simp; omega
 have e2 : ((x.toNat : Int) < 224) = True := by simp; omega
 have hu : q15 x = 2 := by unfold q15; repeat' split <;> try omega
 rw [hu]
 apply Exists.intro
 case h =>
 refine VC.told j1i Tryz.func228 rfl Tryz.ntmps228 (by simp) (by rfl) (by rfl) fun hb => ?_
 clear hb
 refine q0c (e0) ?_
 refine VC.condF (by rfl) (by trivial) ?_
 refine q0c (e1) ?_
 refine VC.condF (by rfl) (by trivial) ?_
 refine q0c (e2) ?_
 refine VC.condT (by rfl) (by trivial) ?_
 refine q0b ?_
 refine ⟨.inr rfl, ?_⟩
 rw [Tryz.results228]
 simp only [q1f, resV, go_sem, simprocAttr]
 exact ⟨.c _, .c _⟩
theorem z6b {x : UInt8} (h0 : ¬ x.toNat < 128) (h1 : ¬ x.toNat < 194) (h2 : ¬ x.toNat < 224) (h3 : x.toNat < 240) : ∃ c : Int, Told Tryz.prog 228 [.c (.v (.int .u8 (x.toNat : Int)))] (.tup [.c (.v (.int .i64 (q15 x : Int))), .c (.v (.int .i32 c))]) := by
 have e0 : ((x.toNat : Int) < 128) = False := by simp; omega
 have e1 : ((x.toNat : Int) < 194) = False := by simp; omega
 have e2 : ((x.toNat : Int) < 224) = False := by simp; omega
 have e3 : ((x.toNat : Int) < 240) = True := by simp; omega
 have hu : q15 x = 3 := by unfold q15; repeat' split <;> try omega
 rw [hu]
 apply Exists.intro
 case h =>
 refine VC.told j1i Tryz.func228 rfl Tryz.ntmps228 (by simp) (by rfl) (by rfl) fun hb => ?_
 clear hb
 refine q0c (e0) ?_
 refine VC.condF (by rfl) (by trivial) ?_
 refine q0c (e1) ?_
 refine VC.condF (by rfl) (by trivial) ?_
 refine q0c (e2) ?_
 refine VC.condF (by rfl) (by trivial) ?_
 refine q0c (e3) ?_
 refine VC.condT (by rfl) (by trivial) ?_
 refine q0b ?_
 refine ⟨.inr rfl, ?_⟩
 rw [Tryz.results228]
 simp only [q1f, resV, go_sem, simprocAttr]
 exact ⟨.c _, .c _⟩
theorem z6c {x : UInt8} (h0 : ¬ x.toNat < 128) (h1 : ¬ x.toNat < 194) (h2 : ¬ x.toNat < 224) (h3 : ¬ x.toNat < 240) (h4 : x.toNat < 245) : ∃ c : Int, Told Tryz.prog 228 [.c (.v (.int .u8 (x.toNat : Int)))] (.tup [.c (.v (.int .i64 (q15 x : Int))), .c (.v (.int .i32 c))]) := by
 have e0 : ((x.toNat : Int) < 128) = False := by simp; omega
 have e1 : ((x.toNat : Int) < 194) = False := by simp; omega
 have e2 : ((x.toNat : Int) < 224) = False := by simp; omega
 have e3 : ((x.toNat : Int) < 240) = False := by simp; omega
 have e4 : ((x.toNat : Int) < 245) = True := by simp; omega
 have hu : q15 x = 4 := by unfold q15; repeat' split <;> try omega
 rw [hu]
 apply Exists.intro
 case h =>
 refine VC.told j1i Tryz.func228 rfl Tryz.ntmps228 (by simp) (by rfl) (by rfl) fun hb => ?_
 clear hb
 refine q0c (e0) ?_
 refine VC.condF (by rfl) (by trivial) ?_
 refine q0c (e1) ?_
 refine VC.condF (by rfl) (by trivial) ?_
 refine q0c (e2) ?_
 refine VC.condF (by rfl) (by trivial) ?_
 refine q0c (e3) ?_
 refine VC.condF (by rfl) (by trivial) ?_
 refine q0c (e4) ?_
 refine VC.condT (by rfl) (by trivial) ?_
 refine q0b ?_
 refine ⟨.inr rfl, ?_⟩
 rw [Tryz.results228]
 simp only [q1f, resV, go_sem, simprocAttr]
 exact ⟨.c _, .c _⟩
theorem z6d {x : UInt8} (h0 : ¬ x.toNat < 128) (h1 : ¬ x.toNat < 194) (h2 : ¬ x.toNat < 224) (h3 : ¬ x.toNat < 240) (h4 : ¬ x.toNat < 245) : ∃ c : Int, Told Tryz.prog 228 [.c (.v (.int .u8 (x.toNat : Int)))] (.tup [.c (.v (.int .i64 (q15 x : Int))), .c (.v (.int .i32 c))]) := by
 have e0 : ((x.toNat : Int) < 128) = False := by simp; omega
 have e1 : ((x.toNat : Int) < 194) = False := by simp; omega
 have e2 : ((x.toNat : Int) < 224) = False := by simp; omega
 have e3 : ((x.toNat : Int) < 240) = False := by simp; omega
 have e4 : ((x.toNat : Int) < 245) = False := by simp; omega
 have hu : q15 x = 0 := by unfold q15; repeat' split <;> try omega
 rw [hu]
 apply Exists.intro
 case h =>
 refine VC.told j1i Tryz.func228 rfl Tryz.ntmps228 (by simp) (by rfl) (by rfl) fun hb => ?_
 clear hb
 refine q0c (e0) ?_
 refine VC.condF (by rfl) (by trivial) ?_
 refine q0c (e1) ?_
 refine VC.condF (by rfl) (by trivial) ?_
 refine q0c (e2) ?_
 refine VC.condF (by rfl) (by trivial) ?_
 refine q0c (e3) ?_
 refine VC.condF (by rfl) (by trivial) ?_
 refine q0c (e4) ?_
 refine VC.condF (by rfl) (by trivial) ?_
 refine q0b ?_
 refine ⟨.inr rfl, ?_⟩
 rw [Tryz.results228]
 simp only [q1f, resV, go_sem, simprocAttr]
 exact ⟨.c _, .c _⟩
theorem z57 (x : UInt8) : ∃ c : Int, Told Tryz.prog 228 [.c (.v (.int .u8 (x.toNat : Int)))] (.tup [.c (.v (.int .i64 (q15 x : Int))), .c (.v (.int .i32 c))]) := by
 by_cases h0 : x.toNat < 128
 · exact z58 h0
 by_cases h1 : x.toNat < 194
 · exact z59 h0 h1
 by_cases h2 : x.toNat < 224
 · exact z6a h0 h1 h2
 by_cases h3 : x.toNat < 240
 · exact z6b h0 h1 h2 h3
 by_cases h4 : x.toNat < 245
 · exact z6c h0 h1 h2 h3 h4
 · exact z6d h0 h1 h2 h3 h4

theorem z6h {x y : UInt8} (h0 : x.toNat = 224) : Told Tryz.prog 229 [.c (.v (.int .u8 (x.toNat : Int))), .c (.v (.int .u8 (y.toNat : Int)))] (.c (.v (.bool (usec x y)))) := by
 have e0 : ((x.toNat : Int) == 224) = true := by simp; omega
 have hu : usec x y = decide (160 ≤ y.toNat ∧ y.toNat ≤ 191) := by
  unfold usec ulo uhi
  congr 1
  repeat' split
  all_goals first | rfl | omega
 rw [hu]
 refine VC.told j19 Tryz.func229 rfl Tryz.ntmps229 (by simp) (by rfl) (by rfl) fun hb => ?_
 clear hb
 refine q0c (e0) ?_
 refine VC.condT (by rfl) (by trivial) ?_
 refine q0b ?_
 refine ⟨.inr rfl, ?_⟩
 rw [Tryz.results229]
 simp only [q1f, resV, go_sem, simprocAttr]
 refine q1p ?_
 congr 2
 rw [Bool.eq_iff_iff]
 simp
 omega
theorem z6i {x y : UInt8} (h0 : x.toNat ≠ 224) (h1 : x.toNat = 237) : Told Tryz.prog 229 [.c (.v (.int .u8 (x.toNat : Int))), .c (.v (.int .u8 (y.toNat : Int)))] (.c (.v (.bool (usec x y)))) := by
 have e0 : ((x.toNat : Int) == 224) = false := by simp; omega
 have e1 : ((x.toNat : Int) == 237) = true := by simp; omega
 have hu : usec x y = decide (128 ≤ y.toNat ∧ y.toNat ≤ 159) := by
  unfold usec ulo uhi
  congr 1
  repeat' split
  all_goals first | rfl | omega
 rw [hu]
 refine VC.told j19 Tryz.func229 rfl Tryz.ntmps229 (by simp) (by rfl) (by rfl) fun hb => ?_
 clear hb
 refine q0c (e0) ?_
 refine VC.condF (by rfl) (by trivial) ?_
 refine q0c (e1) ?_
 refine VC.condT (by rfl) (by trivial) ?_
 refine q0b ?_
 refine ⟨.inr rfl, ?_⟩
 rw [Tryz.results229]
 simp only [q1f, resV, go_sem, simprocAttr]
 refine q1p ?_
 congr 2
 rw [Bool.eq_iff_iff]
 simp
 omega
theorem z6j {x y : UInt8} (h0 : x.toNat ≠ 224) (h1 : x.toNat ≠ 237) (h2 : x.toNat = 240) : Told Tryz.prog 229 [.c (.v (.int .u8 (x.toNat : Int))), .c (.v (.int .u8 (y.toNat : Int)))] (.c (.v (.bool (usec x y)))) := by
 have e0 : ((x.toNat : Int) == 224) = false := by simp; omega
 have e1 : ((x.toNat : Int) == 237) = false := by simp; omega
 have e2 : ((x.toNat : Int) == 240) = true := by simp; omega
 have hu : usec x y = decide (144 ≤ y.toNat ∧ y.toNat ≤ 191) := by
  unfold usec ulo uhi
  congr 1
  repeat' split
  all_goals first | rfl | omega
 rw [hu]
 refine VC.told j19 Tryz.func229 rfl Tryz.ntmps229 (by simp) (by rfl) (by rfl) fun hb => ?_
 clear hb
 refine q0c (e0) ?_
 refine VC.condF (by rfl) (by trivial) ?_
 refine q0c (e1) ?_
 refine VC.condF (by rfl) (by trivial) ?_
 refine q0c (e2) ?_
 refine VC.condT (by rfl) (by trivial) ?_
 refine q0b ?_
 refine ⟨.inr rfl, ?_⟩
 rw [Tryz.results229]
 simp only [q1f, resV, go_sem, simprocAttr]
 refine q1p ?_
 congr 2
 rw [Bool.eq_iff_iff]
 simp
 omega
theorem z6k {x y : UInt8} (h0 : x.toNat ≠ 224) (h1 : x.toNat ≠ 237) (h2 : x.toNat ≠ 240) (h3 : x.toNat = 244) : Told Tryz.prog 229 [.c (.v (.int .u8 (x.toNat : Int))), .c (.v (.int .u8 (y.toNat : Int)))] (.c (.v (.bool (usec x y)))) := by
 have e0 : ((x.toNat : Int) == 224) = false := by simp; omega
 have e1 : ((x.toNat : Int) == 237) = false := by simp; omega
 have e2 : ((x.toNat : Int) == 240) = false := by simp; omega
 have e3 : ((x.toNat : Int) == 244) = true := by simp; omega
 have hu : usec x y = decide (128 ≤ y.toNat ∧ y.toNat ≤ 143) := by
  unfold usec ulo uhi
  congr 1
  repeat' split
  all_goals first | rfl | omega
 rw [hu]
 refine VC.told j19 Tryz.func229 rfl Tryz.ntmps229 (by simp) (by rfl) (by rfl) fun hb => ?_
 clear hb
 refine q0c (e0) ?_
 refine VC.condF (by rfl) (by trivial) ?_
 refine q0c (e1) ?_
 refine VC.condF (by rfl) (by trivial) ?_
 refine q0c (e2) ?_
 refine VC.condF (by rfl) (by trivial) ?_
 refine q0c (e3) ?_
 refine VC.condT (by rfl) (by trivial) ?_
 refine q0b ?_
 refine ⟨.inr rfl, ?_⟩
 rw [Tryz.results229]
 simp only [q1f, resV, go_sem, simprocAttr]
 refine q1p ?_
 congr 2
 rw [Bool.eq_iff_iff]
 simp
 omega
theorem z6l {x y : UInt8} (h0 : x.toNat ≠ 224) (h1 : x.toNat ≠ 237) (h2 : x.toNat ≠ 240) (h3 : x.toNat ≠ 244) : Told Tryz.prog 229 [.c (.v (.int .u8 (x.toNat : Int))), .c (.v (.int .u8 (y.toNat : Int)))] (.c (.v (.bool (usec x y)))) := by
 have e0 : ((x.toNat : Int) == 224) = false := by simp; omega
 have e1 : ((x.toNat : Int) == 237) = false := by simp; omega
 have e2 : ((x.toNat : Int) == 240) = false := by simp; omega
 have e3 : ((x.toNat : Int) == 244) = false := by simp; omega
 have hu : usec x y = decide (128 ≤ y.toNat ∧ y.toNat ≤ 191) := by
  unfold usec ulo uhi
  congr 1
  repeat' split
  all_goals first | rfl | omega
 rw [hu]
 refine VC.told j19 Tryz.func229 rfl Tryz.ntmps229 (by simp) (by rfl) (by rfl) fun hb => ?_
 clear hb
 refine q0c (e0) ?_
 refine VC.condF (by rfl) (by trivial) ?_
 refine q0c (e1) ?_
 refine VC.condF (by rfl) (by trivial) ?_
 refine q0c (e2) ?_
 refine VC.condF (by rfl) (by trivial) ?_
 refine q0c (e3) ?_
 refine VC.condF (by rfl) (by trivial) ?_
 refine q0b ?_
 refine ⟨.inr rfl, ?_⟩
 rw [Tryz.results229]
 simp only [q1f, resV, go_sem, simprocAttr]
 refine q1p ?_
 congr 2
 rw [Bool.eq_iff_iff]
 simp
 omega
theorem usec_told (x y : UInt8) : Told Tryz.prog 229 [.c (.v (.int .u8 (x.toNat : Int))), .c (.v (.int .u8 (y.toNat : Int)))] (.c (.v (.bool (usec x y)))) := by
 by_cases h0 : x.toNat = 224
 · exact z6h h0
 by_cases h1 : x.toNat = 237
 · exact z6i h0 h1
 by_cases h2 : x.toNat = 240
 · exact z6j h0 h1 h2
 by_cases h3 : x.toNat = 244
 · exact z6k h0 h1 h2 h3
 · exact z6l h0 h1 h2 h3

theorem cont_bits : ∀ x : Nat, x < 256 → ((IntKind.u8.wrap ((BitVec.ofInt IntKind.u8.bits ((x : Nat) : Int) &&& BitVec.ofInt IntKind.u8.bits 192).toNat : Int)) != 128) = !decide (128 ≤ x ∧ x < 192) := by decide +kernel
theorem cont_bit (x : UInt8) : ((IntKind.u8.wrap ((BitVec.ofInt IntKind.u8.bits (x.toNat : Int) &&& BitVec.ofInt IntKind.u8.bits 192).toNat : Int)) != 128) = !ucont x := cont_bits x.toNat x.toNat_lt
theorem pv_at {l : List UInt8} {i : Nat} (h : i < l.length) : (q0e l)[i]? = some [.v (.int .u8 ((q1g l i).toNat : Int))] := by
 unfold q0e q1g
 rw [List.getElem?_map, List.getElem?_eq_getElem h]
 rfl
def q5m (l : List UInt8) (p : Nat) : Nat := if uerr l p = 0 then p + ulen l p else p
theorem z6o (l : List UInt8) (p : Nat) (hp : p ≤ l.length) (hbig : l.length ≤ 9223372036854775000) : Told Tryz.prog 211 [.c (.sl 1 (q0e l)), .c (.v (.int .i64 (p : Int)))] (.tup [.any, .c (.v (.int .i64 (q5m l p : Int))), .c (.v (.int .i64 (uerr l p : Int)))]) := by
 have hlen : (q0e l).length = l.length := by simp [q0e]
 refine VC.told ent_211 Tryz.func211 rfl Tryz.ntmps211 (by simp) (by rfl) (by rfl) fun hb => ?_
 clear hb
 have e1 : ((p : Int) < 0) = False := eq_false (by omega)
 have e2 : ((p : Int) > (l.length : Int)) = False := eq_false (by omega)
 refine q0c (And.intro e1 (And.intro e2 hlen)) ?_
 refine VC.condF (by rfl) (by trivial) ?_
 refine q0c (hlen) ?_
 refine VC.cond (by rfl) (by trivial) (fun hc => ?_) (fun hc => ?_)
 · have he : p = l.length := by simp at hc; omega
   have hu : uerr l p = 10 := by unfold uerr; rw [if_neg (by omega)]
   have hn : q5m l p = p := by unfold q5m; rw [if_neg (by omega)]
   rw [hu, hn]
   refine q0b ?_
   refine ⟨.inr rfl, ?_⟩
   rw [Tryz.results211]
   simp only [q1f, resV, go_sem, simprocAttr]
   exact ⟨.any _, .c _, .c _⟩
 have hlt : p < l.length := by simp at hc; omega
 clear hc
 obtain ⟨c0, hfirst⟩ := z57 (q1g l p)
 have hat := pv_at hlt
 refine q0c (And.intro hlen hat) ?_
 (refine AO.step fun K hK => ?_; simp only [go_sem, Int.reduceBEq, Int.reduceLE, Int.reduceLT, Int.reduceNeg, Nat.reduceAdd, Nat.reduceEqDiff, Nat.reduceLT, Nat.reduceLeDiff, Nat.reduceMul, Nat.reduceSub, reduceCtorEq, ↓reduceIte, hat]; (first | refine q1k ?_ | skip))
 refine .inl ⟨_, hfirst, hK _ _ _ ?_⟩
 clear hK K hfirst
 refine q0b ?_
 refine VC.cond (by rfl) (by trivial) (fun hc => ?_) (fun hc => ?_)
 · have hf : q15 (q1g l p) = 0 := by simp at hc; omega
   have hu : uerr l p = 11 := by unfold uerr; rw [if_pos hlt, if_pos hf]
   have hn : q5m l p = p := by unfold q5m; rw [if_neg (by omega)]
   rw [hu, hn]
   refine q0b ?_
   refine ⟨.inr rfl, ?_⟩
   rw [Tryz.results211]
   simp only [q1f, resV, go_sem, simprocAttr]
   exact ⟨.any _, .c _, .c _⟩
 have hf : q15 (q1g l p) ≠ 0 := by simp at hc; omega
 clear hc
 have hue : uerr l p = q3d l p (q15 (q1g l p) - 1) := by unfold uerr; rw [if_pos hlt, if_neg hf]
 have hf4 : q15 (q1g l p) ≤ 4 := by unfold q15; repeat' split <;> try omega
 obtain ⟨n, hn⟩ : ∃ n, n = q15 (q1g l p) := ⟨_, rfl⟩
 have hul : ulen l p = n := hn.symm
 rw [← hn] at hf hf4 hue
 refine q0c (hn.symm) ?_
 refine VC.loop (ι := {q : Nat × Int // 1 ≤ q.1 ∧ q.1 ≤ n ∧ q3d l p (q.1 - 1) = 0}) (fun q => [(0, .c (.sl 1 (q0e l))), (1, .c (.v (.int .i64 (p : Int)))), (4, .c (.v (.int .i32 q.1.2))), (7, .c (.v (.int .i64 (n : Int)))), (8, .c (.v (.int .i64 (q.1.1 : Int))))])
  (fun _ => []) 0 (fun q => n - q.1.1) ⟨(1, c0), Nat.le_refl _, by simp only []; omega, rfl⟩ ?_ ?_
 · simp only [← hn, Weak, eq_self, q0v, q0p, sc_c, q0r, q0s, q0t, q0o, q0q, ScL, q0u, List.forall_mem_map, go_sem, Int.reduceBEq, Int.reduceLE, Int.reduceLT, Int.reduceNeg, Nat.reduceAdd, Nat.reduceEqDiff, Nat.reduceLT, Nat.reduceLeDiff, Nat.reduceMul, Nat.reduceSub, reduceCtorEq, ↓reduceIte]
   all_goals first | rfl | exact cI (by omega)
 rintro ⟨⟨i, c⟩, hi1, hi2, hst⟩
 simp only [] at hi1 hi2 hst ⊢
 refine q0b ?_
 refine VC.cond (by rfl) (by trivial) (fun hc => ?_) (fun hc => ?_)
 · have hin : i < n := by simp at hc; omega
   clear hc
   have hw1 : IntKind.i64.wrap ((p : Int) + (i : Int)) = (p : Int) + (i : Int) := q0f (by omega) (by omega)
   have hw2 : IntKind.i64.wrap ((i : Int) + 1) = (i : Int) + 1 := q0f (by omega) (by omega)
   refine q0c (And.intro hlen hw1) ?_
   refine VC.cond (by rfl) (by trivial) (fun hc => ?_) (fun hc => ?_)
   · have hpi : p + i = l.length := by simp at hc; omega
     have hsp : q3j l p i = 10 := by unfold q3j; rw [if_neg (by omega)]
     have hu : uerr l p = 10 := by rw [hue, z1i hi1 hin hst (by omega), hsp]
     have hnx : q5m l p = p := by unfold q5m; rw [if_neg (by omega)]
     rw [hu, hnx]
     refine q0b ?_
     refine ⟨.inr rfl, ?_⟩
     rw [Tryz.results211]
     simp only [q1f, resV, go_sem, simprocAttr]
     exact ⟨.any _, .c _, .c _⟩
   have hpi : p + i < l.length := by
    have : p + i ≠ l.length := by simp at hc; omega
    have hall : p + i ≤ l.length := by
     have h0 := hst
     cases hi : i with
     | zero => omega
     | succ k =>
       rw [hi] at h0
       cases k with
       | zero => omega
       | succ k =>
         simp only [Nat.add_sub_cancel, q3d] at h0
         split at h0
         · unfold q3j at h0
           split at h0
           · omega
           · simp at h0
         · rename_i h1; exact absurd h0 h1
    omega
   clear hc
   have hat2 := pv_at hpi
   have hti : ((p : Int) + (i : Int)).toNat = p + i := by omega
   have hsec := usec_told (q1g l p) (q1g l (p + i))
   have hcb := cont_bit (q1g l (p + i))
   (try simp only [go_sem, Int.reduceBEq, Int.reduceLE, Int.reduceLT, Int.reduceNeg, Nat.reduceAdd, Nat.reduceEqDiff, Nat.reduceLT, Nat.reduceLeDiff, Nat.reduceMul, Nat.reduceSub, reduceCtorEq, ↓reduceIte] at hcb)
   refine q0c (And.intro hlen (And.intro hw1 (And.intro hti (And.intro hat2 (And.intro hat hcb))))) ?_
   (refine AO.step fun K hK => ?_; simp only [go_sem, Int.reduceBEq, Int.reduceLE, Int.reduceLT, Int.reduceNeg, Nat.reduceAdd, Nat.reduceEqDiff, Nat.reduceLT, Nat.reduceLeDiff, Nat.reduceMul, Nat.reduceSub, reduceCtorEq, ↓reduceIte, hat, hcb]; (first | refine q1k ?_ | skip))
   refine .inl ⟨_, fun _ => hsec, hK _ _ _ ?_⟩
   clear hK K hsec
   refine q0b ?_
   refine VC.cond (by rfl) (by trivial) (fun hc => ?_) (fun hc => ?_)
   · have hsp : q3j l p i = 11 := by
      unfold q3j
      rw [if_pos hpi, if_neg]
      simp at hc
      rintro ⟨g1, g2⟩
      rcases hc with hc | hc
      · simp [hc] at g1
      · have := g2 (by omega)
        simp_all
     have hu : uerr l p = 11 := by rw [hue, z1i hi1 hin hst (by omega), hsp]
     have hnx : q5m l p = p := by unfold q5m; rw [if_neg (by omega)]
     rw [hu, hnx]
     refine q0b ?_
     refine ⟨.inr rfl, ?_⟩
     rw [Tryz.results211]
     simp only [q1f, resV, go_sem, simprocAttr]
     exact ⟨.any _, .c _, .c _⟩
   · have hsp : q3j l p i = 0 := by
      unfold q3j
      rw [if_pos hpi, if_pos]
      simp at hc
      refine ⟨hc.1, fun h1 => ?_⟩
      exact hc.2 (by omega)
     have hst2 : q3d l p i = 0 := by
      cases hi : i with
      | zero => omega
      | succ k =>
        rw [hi] at hst hsp
        exact z6n (by simpa using hst) hsp
     clear hc
     refine q0c (hw2) ?_
     apply RQ.next ⟨(i + 1, _), by simp only []; omega, by simp only []; omega, by simpa using hst2⟩
     · refine q5b ?_
       exact ⟨rfl, cI (by omega)⟩
     · simp only []; omega
 · have hin : i = n := by simp at hc; omega
   subst hin
   have hu : uerr l p = 0 := by rw [hue, hst]
   have hnx : q5m l p = p + i := by unfold q5m; rw [if_pos hu, hul]
   have hbd := j4m hu
   have hw1 : IntKind.i64.wrap ((p : Int) + (i : Int)) = ((p + i : Nat) : Int) := by rw [q0f (by omega) (by omega)]; omega
   rw [hu, hnx]
   refine q0c (hw1) ?_
   refine ⟨.inr rfl, ?_⟩
   rw [Tryz.results211]
   simp only [q1f, resV, go_sem, simprocAttr]
   exact ⟨.any _, .c _, .c _⟩

theorem z54 (l : List UInt8) (hbig : l.length ≤ 9223372036854775000) : Told Tryz.prog 178 [.c (.sl 1 (q0e l))] (.tup [.c (.v (.int .i64 ((uCnt l 0 0).1 : Int))), .c (.v (.int .i64 ((uCnt l 0 0).2 : Int)))]) := by
 have hlen : (q0e l).length = l.length := by simp [q0e]
 refine VC.toldP ent_178 Tryz.func178 rfl Tryz.ntmps178 fun hb => ?_
 clear hb
 obtain ⟨V, hV⟩ : ∃ V, V = uCnt l 0 0 := ⟨_, rfl⟩
 rw [← hV]
 refine q0b ?_
 refine VC.loop (ι := {q : Nat × Nat // q.1 ≤ l.length ∧ q.2 ≤ q.1 ∧ uCnt l q.1 q.2 = V}) (fun q => [(0, .c (.sl 1 (q0e l))), (4, .c (.v (.int .i64 (q.1.2 : Int)))), (5, .c (.v (.int .i64 (q.1.1 : Int))))]) (fun _ => []) 0 (fun q => l.length - q.1.1) ⟨(0, 0), Nat.zero_le _, Nat.le_refl _, hV.symm⟩ ?_ ?_
 · simp only [Weak, eq_self, q0v, q0p, sc_c, q0r, q0s, q0t, q0o, q0q, ScL, q0u, List.forall_mem_map, go_sem, Int.reduceBEq, Int.reduceLE, Int.reduceLT, Int.reduceNeg, Nat.reduceAdd, Nat.reduceEqDiff, Nat.reduceLT, Nat.reduceLeDiff, Nat.reduceMul, Nat.reduceSub, reduceCtorEq, ↓reduceIte]
   all_goals rfl
 rintro ⟨⟨p, k⟩, hp, hk, hu⟩
 simp only [] at hp hk hu ⊢
 refine q0c (hlen) ?_
 refine VC.cond (by rfl) (by trivial) (fun hc => ?_) (fun hc => ?_)
 · have hlt : p < l.length := by simp at hc; omega
   have ht := z6o l p hp hbig
   have hw : IntKind.i64.wrap ((k : Int) + 1) = (k : Int) + 1 := q0f (by omega) (by omega)
   refine q0c (hlen) ?_
   refine q0j (ht) ?_
   refine q0b ?_
   refine VC.cond (by rfl) (by trivial) (fun he => ?_) (fun he => ?_)
   · have h2 : uerr l p ≠ 0 := by simpa using he
     rw [z09 hlt h2] at hu
     subst hu
     refine q0b ?_
     refine retX Tryz.results178 ?_
     exact ⟨.c _, .c _⟩
   · have h2 : uerr l p = 0 := by simpa using he
     obtain ⟨h3, h4⟩ := j4m h2
     have hn : q5m l p = p + ulen l p := by unfold q5m; rw [if_pos h2]
     rw [z1b hlt h2] at hu
     refine q0c (And.intro hw hn) ?_
     refine .next ⟨(p + ulen l p, k + 1), h4, by simp only []; omega, hu⟩ ?_ (by simp only []; omega)
     refine q5b ?_
     exact cI (by omega)
 · have hge : ¬ p < l.length := by simp at hc; omega
   rw [z1a hge] at hu
   subst hu
   refine q0b ?_
   refine retX Tryz.results178 ?_
   exact ⟨.c _, .c _⟩
theorem j2p (l : List UInt8) (hbig : l.length ≤ 9223372036854775000) : Told Tryz.prog 123 [.c (.sl 1 (q0e l))] (.c (.v (.bool (q2p l)))) := by
 have h := z54 l hbig
 refine VC.toldP ent_123 Tryz.func123 rfl Tryz.ntmps123 fun hb => ?_
 clear hb
 refine q0b ?_
 refine q0j (h) ?_
 refine q0b ?_
 refine retX Tryz.results123 ?_
 exact q1p (by unfold q2p; congr 2; rw [Bool.eq_iff_iff]; simp)

def rC (B : List UInt8) (p : Nat) (e : Int) : List PV := [.sl 1 (q0e B), .v (.int .i64 (p : Int)), .v (.int .i64 e)]
def lft {α : Type} (f : Rd α) (d : α) (B : List UInt8) (p : Nat) (e : Int) : α × Nat × Int := if e = 0 then (match f B p with | .error x => (d, p, x) | .ok (v, q) => (v, q, 0)) else (d, p, e)
theorem q5w {α : Type} (f : Rd α) (d : α) (B : List UInt8) (p : Nat) {e : Int} (h : e ≠ 0) : lft f d B p e = (d, p, e) := by unfold lft; rw [if_neg h]
theorem q3u {α : Type} {f : Rd α} (d : α) {B : List UInt8} {p : Nat} {x : Int} (h : f B p = .error x) : lft f d B p 0 = (d, p, x) := by unfold lft; rw [if_pos rfl, h]
theorem q4u {α : Type} {f : Rd α} (d : α) {B : List UInt8} {p q : Nat} {v : α} (h : f B p = .ok (v, q)) : lft f d B p 0 = (v, q, 0) := by unfold lft; rw [if_pos rfl, h]
theorem q5f (l : List UInt8) : (q0e l).length = l.length := by simp [q0e]
theorem frz3 {K : Nat → Bool} {h : Nat → Option Blkd} {a b c : PV} : Frz K h (.agg [.c a, .c b, .c c]) (.agg [.c a, .c b, .c c]) := .cs h [a, b, c]
theorem z0x (B : List UInt8) (p : Nat) (e : Int) (hp : p ≤ B.length) : Told Tryz.prog 205 [.agg ((rC B p e).map .c)] (.tup [.agg ((rC B p e).map .c), .c (.v (.bool (decide (e = 0))))]) := by
 have e2 : decide ((p : Int) < 0) = false := by simp
 have e3 : decide ((p : Int) > (B.length : Int)) = false := by simp; omega
 have hbl := q5f B
 unfold rC
 by_cases h : e = 0
 · have e1 : (e == 0) = true := by simpa using h
   rw [decide_eq_true h]
   refine VC.toldP ent_205 Tryz.func205 rfl Tryz.ntmps205 fun hb => ?_
   clear hb
   refine q0a (And.intro e1 (And.intro e2 (And.intro e3 hbl))) ?_
   refine retX Tryz.results205 ?_
   exact ⟨frz3, .c _⟩
 · have e1 : (e == 0) = false := by simpa using h
   rw [decide_eq_false h]
   refine VC.toldP ent_205 Tryz.func205 rfl Tryz.ntmps205 fun hb => ?_
   clear hb
   refine q0a (And.intro e1 hbl) ?_
   refine retX Tryz.results205 ?_
   exact ⟨frz3, .c _⟩
theorem j1c (B : List UInt8) (p : Nat) (e x : Int) : Told Tryz.prog 165 [.agg ((rC B p e).map .c), .c (.v (.int .i64 x))] (.agg ((rC B p x).map .c)) := by
 unfold rC
 refine VC.toldP ent_165 Tryz.func165 rfl Tryz.ntmps165 fun hb => ?_
 clear hb
 refine q0m ?_
 refine retX Tryz.results165 ?_
 exact frz3
theorem j7g (B : List UInt8) (hB : B.length ≤ 1000000) (p : Nat) (hp : p ≤ B.length) (e n : Int) (hn : n ≤ 1000000000) (hn' : -1000000000 ≤ n) : Told Tryz.prog 164 [.agg ((rC B p e).map .c), .c (.v (.int .i64 n))]
  (.tup [.c (.sl 1 (q0e (lft (q2d n.toNat) [] B p e).1)), .agg ((rC B (lft (q2d n.toNat) [] B p e).2.1 (lft (q2d n.toNat) [] B p e).2.2).map .c)]) := by
 have hS := z0x B p e hp
 by_cases h : e = 0
 · subst h
   rw [decide_eq_true rfl] at hS
   have hmx : max n 0 = ((n.toNat : Nat) : Int) := by omega
   have hsb : IntKind.i64.wrap ((B.length : Int) - (p : Int)) = ((B.length - p : Nat) : Int) := by rw [q0f (by omega) (by omega)]; omega
   have hbl := q5f B
   have hnl : n.toNat ≤ 1000000000 := by omega
   generalize n.toNat = m at hmx hnl ⊢
   by_cases hm : m ≤ B.length - p
   · rw [q4u (v := (B.drop p).take m) (q := p + m) _ (by unfold q2d; rw [if_pos hm])]
     have e1 : decide ((m : Int) > ((B.length - p : Nat) : Int)) = false := by simp; omega
     have hw : IntKind.i64.wrap ((p : Int) + (m : Int)) = ((p + m : Nat) : Int) := by rw [q0f (by omega) (by omega)]; omega
     have hdt : ((q0e B).take (p + m)).drop p = q0e ((B.drop p).take m) := by rw [List.drop_take, Nat.add_sub_cancel_left]; simp [q0e, List.map_drop, List.map_take]
     simp only []
     generalize (B.drop p).take m = l at hdt ⊢
     unfold rC at hS ⊢
     refine VC.toldP j5l Tryz.func164 rfl Tryz.ntmps164 fun hb => ?_
     clear hb
     refine q0m ?_
     refine q0j (hS) ?_
     refine q0a (And.intro hmx (And.intro hsb (And.intro hbl (And.intro e1 (And.intro hw hdt))))) ?_
     refine retX Tryz.results164 ?_
     exact ⟨.c _, frz3⟩
   · rw [q3u (x := 10) _ (by unfold q2d; rw [if_neg hm])]
     have hF := j1c B p 0 10
     have e1 : decide ((m : Int) > ((B.length - p : Nat) : Int)) = true := by simp; omega
     unfold rC at hS hF ⊢
     refine VC.toldP j5l Tryz.func164 rfl Tryz.ntmps164 fun hb => ?_
     clear hb
     refine q0m ?_
     refine q0j (hS) ?_
     refine q0a (And.intro hmx (And.intro hsb (And.intro hbl e1))) ?_
     refine q0j (hF) ?_
     refine q0m ?_
     refine retX Tryz.results164 ?_
     exact ⟨.nil 1, frz3⟩
 · rw [decide_eq_false h] at hS
   rw [q5w _ _ _ _ h]
   unfold rC at hS ⊢
   refine VC.toldP j5l Tryz.func164 rfl Tryz.ntmps164 fun hb => ?_
   clear hb
   refine q0m ?_
   refine q0j (hS) ?_
   refine q0m ?_
   refine retX Tryz.results164 ?_
   exact ⟨.nil 1, frz3⟩
theorem z2a {g : FuncId} (m l : Nat) (B : List UInt8) (p : Nat) (hp : p ≤ B.length) (e : Int) (hg : Told Tryz.prog g [.c (.sl 1 (q0e B)), .c (.v (.int .i64 (p : Int)))] (.tup [.c (.v (.int .i64 (varM m l B p).1)), .c (.v (.int .i64 (varM m l B p).2.1)), .c (.v (.int .i64 (varM m l B p).2.2))])) :
  Told Tryz.prog 166 [.agg ((rC B p e).map .c), .fn (.func g) [] []] (.tup [.c (.v (.int .i64 (lft (rvar m l) 0 B p e).1)), .agg ((rC B (lft (rvar m l) 0 B p e).2.1 (lft (rvar m l) 0 B p e).2.2).map .c)]) := by
 have hS := z0x B p e hp
 by_cases h : e = 0
 · subst h
   rw [decide_eq_true rfl] at hS
   unfold varM at hg
   cases hr : rvar m l B p with
   | error x =>
     rw [hr] at hg
     rw [q3u _ hr]
     have hx := (j5u m l).ers hr
     have e1 : (x != 0) = true := by simpa using hx
     have hF := j1c B p 0 x
     unfold rC at hS hF ⊢
     simp only [] at hg
     refine VC.toldP j5m Tryz.func166 rfl Tryz.ntmps166 fun hb => ?_
     clear hb
     refine q0m ?_
     refine q0j (hS) ?_
     refine q0m ?_
     refine q0j (hg) ?_
     refine q0a (e1) ?_
     refine q0j (hF) ?_
     refine q0m ?_
     refine retX Tryz.results166 ?_
     exact ⟨.c _, frz3⟩
   | ok r =>
     rw [hr] at hg
     rw [q4u _ hr]
     unfold rC at hS ⊢
     simp only [] at hg
     refine VC.toldP j5m Tryz.func166 rfl Tryz.ntmps166 fun hb => ?_
     clear hb
     refine q0m ?_
     refine q0j (hS) ?_
     refine q0m ?_
     refine q0j (hg) ?_
     refine q0m ?_
     refine retX Tryz.results166 ?_
     exact ⟨.c _, frz3⟩
 · rw [decide_eq_false h] at hS
   rw [q5w _ _ _ _ h]
   unfold rC at hS ⊢
   refine VC.toldP j5m Tryz.func166 rfl Tryz.ntmps166 fun hb => ?_
   clear hb
   refine q0m ?_
   refine q0j (hS) ?_
   refine q0m ?_
   refine retX Tryz.results166 ?_
   exact ⟨.c _, frz3⟩
theorem j1x (B : List UInt8) (hB : B.length ≤ 1000000) (p : Nat) (hp : p ≤ B.length) (e : Int) : Told Tryz.prog 116 [.agg ((rC B p e).map .c)] (.tup [.c (.v (.int .i64 (lft q2r 0 B p e).1)), .agg ((rC B (lft q2r 0 B p e).2.1 (lft q2r 0 B p e).2.2).map .c)]) := by
 have hN := z2a 10 1 B p hp e (z6x B hB p hp)
 unfold q2r
 generalize lft (rvar 10 1) 0 B p e = L at hN ⊢
 unfold rC at hN ⊢
 refine VC.toldP ent_116 Tryz.func116 rfl Tryz.ntmps116 fun hb => ?_
 clear hb
 refine q0b ?_
 refine q0j (hN) ?_
 refine q0b ?_
 refine retX Tryz.results116 ?_
 exact ⟨.c _, frz3⟩
theorem z17 (B : List UInt8) (hB : B.length ≤ 1000000) (p : Nat) (hp : p ≤ B.length) (e : Int) : Told Tryz.prog 107 [.agg ((rC B p e).map .c)] (.tup [.c (.v (.int .i64 (lft rint 0 B p e).1)), .agg ((rC B (lft rint 0 B p e).2.1 (lft rint 0 B p e).2.2).map .c)]) := by
 have hN := z2a 5 15 B p hp e (vint_told B hB p hp)
 unfold rint
 generalize lft (rvar 5 15) 0 B p e = L at hN ⊢
 unfold rC at hN ⊢
 refine VC.toldP ent_107 Tryz.func107 rfl Tryz.ntmps107 fun hb => ?_
 clear hb
 refine q0b ?_
 refine q0j (hN) ?_
 refine q0b ?_
 refine retX Tryz.results107 ?_
 exact ⟨.c _, frz3⟩
theorem z6y (B : List UInt8) (hB : B.length ≤ 1000000) (p : Nat) (hp : p ≤ B.length) (e : Int) : Told Tryz.prog 106 [.agg ((rC B p e).map .c)] (.tup [.c (.v (.int .i64 (lft q48 0 B p e).1)), .agg ((rC B (lft q48 0 B p e).2.1 (lft q48 0 B p e).2.2).map .c)]) := by
 have hN := j7g B hB p hp e 1 (by decide) (by decide)
 have hF := j1c B p 0 11
 rw [show (1 : Int).toNat = 1 from rfl] at hN
 by_cases h : e = 0
 · subst h
   cases hr : q2d 1 B p with
   | error x =>
     rw [q3u _ hr] at hN
     rw [q3u (f := q48) _ (q24 hr)]
     have e1 : (x != 0) = true := by simpa using (q72 1).ers hr
     unfold rC at hN ⊢
     refine VC.toldP j3e Tryz.func106 rfl Tryz.ntmps106 fun hb => ?_
     clear hb
     refine q0m ?_
     refine q0j (hN) ?_
     refine q0a (e1) ?_
     refine retX Tryz.results106 ?_
     exact ⟨.c _, frz3⟩
   | ok r =>
     obtain ⟨l, q⟩ := r
     rw [q4u _ hr] at hN
     have hl : l.length = 1 := by
      unfold q2d at hr
      split at hr
      · injection hr with hr
        injection hr with h1 h2
        rw [← h1, List.length_take, List.length_drop]
        omega
      · simp at hr
     obtain ⟨c, rfl⟩ := List.length_eq_one_iff.1 hl
     have hub : q2e [c] = c.toNat := by simp [q2e]
     have hc8 := c.toNat_lt
     have hcp : (q0e [c])[0]? = some [.v (.int .u8 (c.toNat : Int))] := rfl
     have hcl : (q0e [c]).length = 1 := rfl
     have hcv : IntKind.i64.wrap (c.toNat : Int) = (c.toNat : Int) := q0f (by omega) (by omega)
     by_cases h1 : 1 < c.toNat
     · rw [q3u (f := q48) _ (x := 11) (by unfold q48; rw [q2c hr, hub, if_pos h1]; rfl)]
       have e1 : decide ((c.toNat : Int) > 1) = true := by simp; omega
       simp only [] at hN
       generalize q0e [c] = bl at hN hcp hcl
       unfold rC at hN hF ⊢
       refine VC.toldP j3e Tryz.func106 rfl Tryz.ntmps106 fun hb => ?_
       clear hb
       refine q0m ?_
       refine q0j (hN) ?_
       refine q0a (And.intro hcp (And.intro hcl e1)) ?_
       refine q0j (hF) ?_
       refine q0m ?_
       refine retX Tryz.results106 ?_
       exact ⟨.c _, frz3⟩
     · rw [q4u (f := q48) _ (v := (c.toNat : Int)) (q := q) (by unfold q48; rw [q2c hr, hub, if_neg h1]; rfl)]
       have e1 : decide ((c.toNat : Int) > 1) = false := by simp; omega
       simp only [] at hN
       generalize q0e [c] = bl at hN hcp hcl
       unfold rC at hN ⊢
       refine VC.toldP j3e Tryz.func106 rfl Tryz.ntmps106 fun hb => ?_
       clear hb
       refine q0m ?_
       refine q0j (hN) ?_
       refine q0a (And.intro hcp (And.intro hcl (And.intro e1 hcv))) ?_
       refine retX Tryz.results106 ?_
       exact ⟨.c _, frz3⟩
 · rw [q5w _ _ _ _ h] at hN ⊢
   have e1 : (e != 0) = true := by simpa using h
   unfold rC at hN ⊢
   refine VC.toldP j3e Tryz.func106 rfl Tryz.ntmps106 fun hb => ?_
   clear hb
   refine q0m ?_
   refine q0j (hN) ?_
   refine q0a (e1) ?_
   refine retX Tryz.results106 ?_
   exact ⟨.c _, frz3⟩
section

section
variable {P : Program} {ops : Array Oper} {o : Oper} {ℓ : Nat} {t : Nat → AV} {h : Nat → Option Blkd}
theorem AO.stepJw {l : List Oper} {n : Nat} {fs : Foot} {R : (Nat → AV) → (Nat → Option Blkd) → Foot → Prop} {v : AV} {rd : List Nat} {wr : List (Nat × Option Blkd)} (hgd : o.guard = none) (hJ : J P o n t h ⟨v, rd, wr⟩) (H : AO P ops l (n + 8) (putd o.dst v t) (wrs wr h) (fs ++ [(rd, wr.map (·.1))]) R) : AO P ops (o :: l) n t h fs R :=
 ⟨_, JG.plain hgd hJ, H.out⟩
theorem upd_id {α : Type} (f : Nat → α) (k : Nat) : upd f k (f k) = f := by
 funext m
 unfold upd
 split
 · rename_i e
   rw [e]
 · rfl
theorem J_copy (ty : TypeId) (x y : Operand) (T E : TyA) (j n : Nat) (B : Blkd) (es : List (List PV)) (ho : o.op = .call { callee := .builtin .copy, args := #[x, y], argTypes := #[ty, ty] }) (hx : okx t x) (hy : okx t y) (ex : ev t x = .row j n) (ey : ev t y = .c (.sl 1 es))
  (hT : tyA P ty = some T) (hk : T.kind = 1) (hE : tyA P T.elem = some E) (hE1 : E.size = 1) (hB : h j = some B) (hrow : B.row = true) (hn : B.len = n) (hBz : B.z = 1) (hl : es.length = n) :
  J P o ℓ t h ⟨.c (.v (.int .i64 (n : Int))), [j], [(j, some ⟨true, B.T, 1, es.map fun e => e.map .c⟩)]⟩ := by
 intro C used N t1 h1 ro φ a W ht hh hu hd r K Q hK
 obtain ⟨x2, x3⟩ := q2o ht (x := x) (by simp [ho, Op.operands, Call.operands])
 obtain ⟨y2, y3⟩ := q2o ht (x := y) (by simp [ho, Op.operands, Call.operands])
 have hrx := q05 r x (x3 ▸ hx)
 have hry := q05 r y (y3 ▸ hy)
 have hsy := q3g r y (y3 ▸ hy)
 rw [x2, ex] at hrx
 rw [y2, ey] at hry hsy
 have hB1 : h1 j = some B := (hh j (by simp)).trans hB
 have hBr := r.hp j B hB1
 obtain ⟨yy, m, c, news, hyv, hml, hyc, hyn, hnl, hne⟩ := j6a (z := 1) r hry hsy rfl
 have hmo : q1r h1 (.c (.sl 1 es)) = es.map fun e => e.map AV.c := rfl
 rw [hmo] at hml hnl hne
 rw [List.length_map, hl] at hml
 have hz1 : ∀ (i : Nat) (e : List AV), (es.map fun e => e.map AV.c)[i]? = some e → e.length = 1 := fun i e he => (hne e (List.mem_of_getElem? he)).1
 have hnlen : news.length = n := by rw [hnl.1, q4p hz1, List.length_map, hl, Nat.mul_one]
 obtain ⟨dT, iT, a1, a2, rfl⟩ := q1d hT
 obtain ⟨el, rfl⟩ := q5v hk
 simp only [q33] at hE
 obtain ⟨dE, iE, b1, b2, rfl⟩ := q1d hE
 have hsz : (P.info? el).map (·.size) = some 1 := by rw [b2]; simpa using hE1
 generalize hvx : a.eval x = vx at hrx
 generalize hvy : a.eval y = vy at hry hyv
 subst hyv
 cases hrx with
 | row _ hrx =>
 obtain rfl := hrx B hB1 hn
 have hlab : ∀ k, (used k ∨ k = j) → (used k ∨ lab ℓ k) := fun k hk => by
  rcases hk with hk | rfl
  · exact .inl hk
  · exact .inl (r.scH _ B hB1).1
 rcases Nat.eq_zero_or_pos n with h0 | h0
 · subst h0
   obtain rfl := List.eq_nil_of_length_eq_zero hl
   have hBe : B.elems = [] := List.eq_nil_of_length_eq_zero hn
   have hBB : (⟨true, B.T, 1, ([] : List (List PV)).map fun e => e.map AV.c⟩ : Blkd) = B := by
    cases B
    simp only [] at hrow hBz hBe
    subst hrow hBz hBe
    rfl
   have hsl : ∃ dp cap, φ j = .slice dp 0 cap := by
    obtain ⟨_, _, vs, _, h4⟩ := hBr
    rw [if_pos hrow, hn] at h4
    obtain ⟨_, h4⟩ := h4
    rcases h4 with ⟨h4, _⟩ | ⟨g, cap, cur, h4, _⟩
    · exact ⟨none, 0, h4⟩
    · exact ⟨_, cap, h4⟩
   obtain ⟨dp, cap, hsl⟩ := hsl
   have hrun := run_copy_none (P := P) W ty ty o.type el dp yy 0 cap m c a1 hsz (by rw [hml]; rfl)
   unfold Oper.wp
   have hex : (execOp a.eval o).run P W = .ok (.value (goInt 0)) W := by
    simp [execOp, ho, resolve, invoke, builtin, hvx, hvy, hsl, hrun, Result.andThen]
   rw [hex]
   refine hK _ _ ro φ ?_
   rw [hBB]
   have : wrs [(j, some B)] h1 = h1 := by
    show upd h1 j (some B) = h1
    rw [← hB1, upd_id]
   rw [this]
   exact (r.put (.c (.v rfl)) .c hd).take fun k hk => .inl hk
 · have he0 : B.elems[0]? = some (B.elems[0]'(by unfold Blkd.len at hn; omega)) := List.getElem?_eq_getElem _
   obtain ⟨b, cur, hb, hcur, _, hr2, hle, hvl⟩ := hBr.mem he0
   obtain ⟨cap, hφ, hcap, hcm, hcs⟩ := hr2 hrow
   rw [hBz, Nat.mul_one] at hle hcs
   obtain ⟨bs, off, rfl, hcells⟩ := hyc (by omega)
   have h1c : ∀ v ∈ news, v.oneCell' = true := hnl.ones fun q hq => by
    obtain ⟨e, he, hq⟩ := List.mem_flatten.1 hq
    exact (hne e he).2.2 q hq
   have hrun := run_copy_row (P := P) W ty ty o.type el b 0 n cap ⟨bs, off, none⟩ m c cur B.T news a1 hsz hcur (by rw [hnlen, hml]; exact (Nat.min_self n).symm) (fun k v hv => by
    rw [q7r, hcells k (List.getElem?_eq_some_iff.1 hv).1, hv]) (by omega) h1c
   rw [Nat.zero_add, List.take_zero, List.nil_append] at hrun
   generalize hL : news ++ cur.toList.drop news.length = L at hrun
   unfold Oper.wp
   have hex : (execOp a.eval o).run P W = .ok (.value (goInt (n : Int))) (W.setRow b L.toArray) := by
    simp [execOp, ho, resolve, invoke, builtin, hvx, hvy, hφ, hn, hrun, Result.andThen, hnlen]
   rw [hex]
   generalize hW' : W.setRow b L.toArray = W'
   have hheap : W'.heap[b]? = some (.cells L.toArray B.T (0, 0)) := by
    rw [← hW']; exact setRow_heap W b cur _ B.T (0, 0) hcur
   have hsize : L.length = cur.size := by
    rw [← hL]
    simp only [List.length_append, List.length_drop, Array.length_toList]
    omega
   have hnro : ∀ b', ro b' → b' ≠ b := fun b' hb' e => (r.own j B b hB1 hb).1 (e ▸ hb')
   have hwo : ∀ b', ro b' → W'.heap[b']? = W.heap[b']? := fun b' hb' => by rw [← hW']; exact setRow_other W b b' _ (hnro b' hb')
   generalize hB' : (⟨true, B.T, 1, es.map fun e => e.map AV.c⟩ : Blkd) = B' at hK
   have hBl : B'.len = B.len := by rw [← hB', hn]; simp [Blkd.len, hl]
   have hg : Goes used φ (upd φ j (φ j)) h1 (upd h1 j (some B')) := by
    intro k B2 hk hB2
    by_cases hkj : k = j
    · subst hkj
      rw [q09] at hB2
      obtain rfl := Option.some.inj hB2
      exact ⟨B, hB1, .inr ⟨hBl.symm, by rw [hBz, ← hB'], q09 _ _ _⟩⟩
    · rw [q1o _ _ hkj] at hB2
      exact ⟨B2, hB2, .inr ⟨rfl, rfl, q1o _ _ hkj⟩⟩
   have htake : L.take n = news := by rw [← hL, ← hnlen, List.take_left]
   have hrepl : RepL W ro φ h1 B'.elems.flatten (L.take n) := by rw [htake, ← hB']; exact hnl
   have r2 := r.block (W' := W') (ℓ := j) (B := B') (v := φ j)
    (by rw [← hW']; exact Keeps.setRow W b _ (.inl hb)) (fun b' hb' => .inr ⟨B, hB1, hb'⟩) (.inl ⟨B, hB1, .inr ⟨hBl.symm, by rw [hBz, ← hB'], rfl⟩⟩)
    ⟨fun i' e' he' => ?_, fun e' he' x hx => ?_, _, hrepl.map (fun x hx => ?_) hwo (fun _ h => h) hg, ?_⟩ (fun e' he' x hx => ?_)
   · have r3 := r2.put (d := o.dst) (x := .c (.v (.int .i64 (n : Int)))) (v := goInt (n : Int)) (.c (.v rfl)) .c hd
     rw [show upd φ j (φ j) = φ from upd_id φ j] at r3
     exact hK _ _ ro _ (r3.take hlab)
   · rw [← hB'] at he' ⊢
     exact hz1 i' e' he'
   · rw [← hB'] at he'
     exact (hne e' he').2.2 x hx
   · rw [← hB'] at hx
     obtain ⟨e', he', hx⟩ := List.mem_flatten.1 hx
     exact (hne e' he').2.1 x hx
   · rw [q09, if_pos (by rw [← hB'])]
     have hBz' : B'.z = 1 := by rw [← hB']
     have hBT' : B'.T = B.T := by rw [← hB']
     refine ⟨?_, .inr ⟨b, cap, _, ?_, Nat.zero_le _, by rw [hBT']; exact hheap, ?_, hcm, ?_, ?_⟩⟩
     · rw [List.length_take, hsize, hBl, hn, hBz']
       omega
     · rw [hBl]; exact hφ
     · rw [hBl]; exact hcap
     · rw [hBz', Nat.mul_one]; simpa using hsize.trans hcs
     · rw [hBl, hn, hBz', Nat.mul_one]
   · rw [← hB'] at he'
     have := (hne e' he').2.1 x hx
     exact this.map (fun k hk => .inl hk) fun k B2 hk hB2 => by
      obtain ⟨B0, h5, h6⟩ := hg k B2 hk hB2
      exact ⟨B0, h5, by rcases h6 with h6 | h6 <;> omega⟩
theorem J_buildC (ty : TypeId) (vs : List Value) (T E : TyA) (ho : o.op = .buildSlice ty 1 #[(0, .const (.agg vs.toArray))]) (hT : tyA P ty = some T) (hk : T.kind = 1) (hE : tyA P T.elem = some E)
  (hz : E.zero.length = E.size) (h0 : 0 < E.size) (hone : E.zero.all (·.oneCell') = true) (hlen : E.size ≤ 16777216) (hvl : vs.length = E.size) (hvo : vs.all (·.oneCell') = true) :
  J P o ℓ t h ⟨.row ℓ 1, [], [(ℓ, some ⟨true, T.elem, E.size, [vs.map fun v => .c (.v v)]⟩)]⟩ := by
 have key := J.rowNew (P := P) (o := o) (ℓ := ℓ) (t := t) (h := h) (elems := [vs.map fun v => AV.c (.v v)]) (T := T.elem) (z := E.size) (rd := [])
  (fun i e he => by
   have := List.mem_of_getElem? he
   simp at this
   rw [this]
   simp [hvl])
  (fun e he x hx => by
   simp at he
   rw [he] at hx
   exact j13 _ x hx) (by simp) (fun C used N t1 h1 ro φ a W ht hh r => by
  obtain ⟨d, i, h2, h3, rfl⟩ := q1d hT
  obtain ⟨e, rfl⟩ := q5v hk
  simp only [q33] at hE ⊢
  obtain ⟨de, ie, h4, h5, rfl⟩ := q1d hE
  simp only [] at hz h0 hone hlen hvl
  obtain ⟨z, h6, h7⟩ := j1z (i := ie) (by intro e0; rw [e0] at hz; simp at hz; omega)
  rw [h7] at hz hone
  have hsz : z.cells.size = ie.size := by simpa using hz
  have hz0 : RepL W ro φ h1 (List.replicate 1 (z.cells.toList.map fun v => AV.c (.v v))).flatten ((Array.range (1 * ie.size)).map (z.cells[· % z.cells.size]!)).toList := by
   rw [← hsz, j7i]
   have := j1q (h := h1) (W := W) (ro := ro) (φ := φ) (l := (List.replicate 1 z.cells.toList).flatten) (by
    rw [List.all_eq_true]
    intro x hx
    obtain ⟨e', he', hx⟩ := List.mem_flatten.1 hx
    rw [(List.mem_replicate.1 he').2] at hx
    exact List.all_eq_true.1 hone x hx)
   rwa [List.map_flatten, List.map_replicate] at this
  have hag : Rep W ro φ h1 (.agg (vs.map fun v => AV.c (.v v))) (.agg vs.toArray) := by
   have := j1q (h := h1) (W := W) (ro := ro) (φ := φ) (l := vs) hvo
   exact .agg this.1 this.2
  have hcz : (z.cells.toList.map fun v => AV.c (.v v)).length = ie.size := by simp [hsz]
  have hca : q04 (.agg (vs.map fun v => AV.c (.v v))) = vs.map fun v => AV.c (.v v) := rfl
  obtain ⟨c, h8, h9⟩ := j3p (h := h1) (W := W) (ro := ro) (φ := φ) (fun i => some (i * ie.size, ie.size)) (fun i => i * ie.size) [(0, .agg (vs.map fun v => AV.c (.v v)))] [(0, .agg vs.toArray)] _ _ hz0 rfl
   (fun j p v hj hj' => by
    match j with
    | 0 =>
      obtain rfl := Option.some.inj hj
      obtain rfl := Option.some.inj hj'
      exact hag
    | j + 1 => simp at hj)
   (fun p hpm => by
    simp at hpm
    subst hpm
    refine ⟨fun c hc => ?_, ?_, ?_⟩
    · rw [hca] at hc
      exact j13 _ c hc
    · rw [hca, List.length_map, hvl]
    · rw [hca, List.length_map, hvl]
      simp [hsz])
  refine ⟨c.toList, ?_, ?_, fun e' he' x hx' => ?_⟩
  · have := run_buildSlice (P := P) W ty e 1 #[(0, .agg vs.toArray)] c ie z h2 h5 h6 (by omega) (by omega) (by simpa using h8)
    have hev : a.eval (.const (.agg vs.toArray)) = .agg vs.toArray := rfl
    simp [execOp, ho, hev, this]
  · have hfa : q4j (fun i => i * ie.size) (List.replicate 1 (z.cells.toList.map fun v => AV.c (.v v))).flatten [(0, .agg (vs.map fun v => AV.c (.v v)))] = [vs.map fun v => AV.c (.v v)].flatten := by
     simp only [q4j, List.foldl_cons, List.foldl_nil, q39, hca, Nat.zero_mul, List.take_zero, List.nil_append, Nat.zero_add, List.replicate_succ, List.replicate_zero, List.flatten_cons, List.flatten_nil, List.append_nil, List.length_map]
     rw [List.drop_of_length_le (by rw [hcz, hvl]; exact Nat.le_refl _), List.append_nil]
    rw [← hfa]
    exact h9
  · simp at he'
    rw [he'] at hx'
    obtain ⟨v, _, rfl⟩ := List.mem_map.1 hx'
    exact .c)
 exact key
end
end

def rA {α : Type} (f : α → List PV) (l : List α) : List (List AV) := l.map fun x => (f x).map .c
theorem q0x {α : Type} (f : α → List PV) (l : List α) : (rA f l).length = l.length := by simp [rA]
theorem q7a {α : Type} (f : α → List PV) : rA f [] = [] := rfl
theorem rA_at {α : Type} {f : α → List PV} {l : List α} {i : Nat} {x : α} (h : l[i]? = some x) : (rA f l)[i]? = some ((f x).map .c) := by simp [rA, h]
theorem rA_set {α : Type} {f : α → List PV} (l : List α) (i : Nat) (x : α) : (rA f l).set i ((f x).map .c) = rA f (l.set i x) := by simp [rA, List.map_set]
theorem q7b {α : Type} (f : α → List PV) (l : List α) (x : α) : rA f l ++ [(f x).map .c] = rA f (l ++ [x]) := by simp [rA]
theorem q5j {α : Type} (f : α → List PV) (l : List α) : rA f l = (l.map f).map fun e => e.map AV.c := by simp [rA]
theorem renL_pv (ρ : Nat → Nat) : ∀ l : List PV, AV.renL ρ (l.map .c) = l.map .c
 | [] => rfl
 | x :: l => by rw [List.map_cons, AV.renL, renL_pv ρ l]; rfl
theorem q31 {α : Type} (ρ : Nat → Nat) (f : α → List PV) (l : List α) : (rA f l).map (AV.renL ρ) = rA f l := by
 unfold rA
 rw [List.map_map]
 apply List.map_congr_left
 intro x _
 exact renL_pv ρ _
theorem q1l {α : Type} {used : Nat → Prop} {h : Nat → Option Blkd} (f : α → List PV) (l : List α) : (∀ e ∈ rA f l, ∀ x ∈ e, Sc used h x) = True := eq_true fun e he x hx => by
 obtain ⟨b, _, rfl⟩ := List.mem_map.1 he
 obtain ⟨p, _, rfl⟩ := List.mem_map.1 hx
 exact .c
theorem q37 {α : Type} {K : Nat → Bool} {h : Nat → Option Blkd} {j n : Nat} {T : TypeId} {z : Nat} {f : α → List PV} {l : List α} (hB : h j = some ⟨true, T, z, rA f l⟩) (hn : l.length = n) (hk : K j = false) (hz : ∀ x ∈ l, (f x).length = z) :
  Frz K h (.row j n) (.c (.sl z (l.map f))) := by
 refine Frz.row (B := ⟨true, T, z, rA f l⟩) hB rfl ?_ hk ?_ ?_ ?_
 · show (rA f l).length = n
   rw [q0x, hn]
 · simp [q0x]
 · intro i e e' h1 h2
   rw [q5j, List.getElem?_map, h2] at h1
   obtain rfl := Option.some.inj h1
   simp
 · intro i k e e' x p h1 h2 h3 h4
   rw [q5j, List.getElem?_map, h2] at h1
   obtain rfl := Option.some.inj h1
   rw [List.getElem?_map, h4] at h3
   obtain rfl := Option.some.inj h3
   exact .c p

theorem j64 : ∀ l : List UInt8, q2e l < 256 ^ l.length
 | [] => by simp [q2e]
 | c :: cs => by
   have := j64 cs
   have := c.toNat_lt
   rw [q2e, List.length_cons, Nat.pow_succ]
   omega
theorem j6b {n : Nat} {B l : List UInt8} {p q : Nat} (h : q2d n B p = .ok (l, q)) : l.length = n := by
 unfold q2d at h
 split at h
 · injection h with h; injection h with h1 h2
   rw [← h1, List.length_take, List.length_drop]
   omega
 · simp at h
theorem z10 (B : List UInt8) (hB : B.length ≤ 1000000) (p : Nat) (hp : p ≤ B.length) (e : Int) (k : Nat) (hk : k ≤ 8) : Told Tryz.prog 110 [.agg ((rC B p e).map .c), .c (.v (.int .i64 (k : Int)))] (.tup [.c (.v (.int .u64 (lft (q47 k) 0 B p e).1)), .agg ((rC B (lft (q47 k) 0 B p e).2.1 (lft (q47 k) 0 B p e).2.2).map .c)]) := by
 have hN := j7g B hB p hp e (k : Int) (by omega) (by omega)
 rw [Int.toNat_natCast] at hN
 obtain ⟨l, q, e', hL, hlk, hR⟩ : ∃ l q e', lft (q2d k) [] B p e = (l, q, e') ∧ l.length ≤ 8 ∧ lft (q47 k) 0 B p e = (((q2e l : Nat) : Int), q, e') := by
  by_cases h : e = 0
  · subst h
    cases hr : q2d k B p with
    | error x => exact ⟨[], p, x, q3u _ hr, by simp, q3u _ (q24 hr)⟩
    | ok r => exact ⟨r.1, r.2, 0, q4u _ hr, by have := j6b (l := r.1) (q := r.2) hr; omega, q4u _ (by unfold q47; rw [q2c (x := r.1) (q := r.2) hr]; rfl)⟩
  · exact ⟨[], p, e, q5w _ _ _ _ h, by simp, q5w _ _ _ _ h⟩
 rw [hL] at hN
 rw [hR]
 simp only [] at hN ⊢
 have hmin : min (k : Int) 8 = (k : Int) := by omega
 have hbl := q5f l
 unfold rC at hN ⊢
 refine VC.toldP ent_110 Tryz.func110 rfl Tryz.ntmps110 fun hb => ?_
 clear hb
 refine q0c (hmin) ?_
 refine q0j (hN) ?_
 refine q0c (hbl) ?_
 refine VC.loop (ι := {i : Nat // i ≤ l.length}) (fun i => [(5, .ref 16 1 0 0), (7, .ref 80 1 0 0), (8, .c (.v (.int .u64 ((q2e (l.take i.1) : Nat) : Int)))), (18, .c (.sl 1 (q0e l))), (19, .c (.v (.int .i64 (l.length : Int)))), (20, .c (.v (.int .i64 (i.1 : Int))))])
  (fun i => [(16, ⟨false, 101, 3, [[.c (.v (.slice none 0 0)), .c (.v (.int .i64 0)), .c (.v (.int .i64 0))]]⟩), (80, ⟨false, 101, 3, [[.c (.sl 1 (q0e B)), .c (.v (.int .i64 (q : Int))), .c (.v (.int .i64 e'))]]⟩)]) 800 (fun i => l.length - i.1) ⟨0, Nat.zero_le _⟩ ?_ ?_
 · refine q1j (hbl) ?_
   simp [q2e]
 rintro ⟨i, hi⟩
 simp only [] at hi ⊢
 refine q0c (hbl) ?_
 refine VC.cond (by rfl) (by trivial) (fun hc => ?_) (fun hc => ?_)
 · have hlt : i < l.length := by simp at hc; omega
   obtain ⟨c, hcx⟩ : ∃ c, l[i]? = some c := ⟨l[i], List.getElem?_eq_getElem hlt⟩
   have hcp : (q0e l)[i]? = some [.v (.int .u8 (c.toNat : Int))] := by unfold q0e; rw [List.getElem?_map, hcx]; rfl
   have hw1 : IntKind.i64.wrap ((i : Int) + 1) = ((i + 1 : Nat) : Int) := by rw [q0f (by omega) (by omega)]; omega
   have hw8 : IntKind.i64.wrap (8 * (i : Int)) = ((8 * i : Nat) : Int) := by rw [q0f (by omega) (by omega)]; omega
   have hwu : IntKind.u64.wrap ((8 * i : Nat) : Int) = ((8 * i : Nat) : Int) := by rw [IntKind.wrap_u64]; omega
   have hc8 := c.toNat_lt
   have hwc : IntKind.u64.wrap (c.toNat : Int) = (c.toNat : Int) := by rw [IntKind.wrap_u64]; omega
   have ht : l.take (i + 1) = l.take i ++ [c] := by rw [List.take_add_one, hcx]; rfl
   have hlen : (l.take i).length = i := by rw [List.length_take]; omega
   have hu : q2e (l.take (i + 1)) = q2e (l.take i) + c.toNat * 2 ^ (8 * i) := by rw [ht, z1g, hlen, Nat.pow_mul]
   have hu1 : q2e (l.take i) < 2 ^ (8 * i) := by
    have := j64 (l.take i)
    rw [hlen] at this
    rw [Nat.pow_mul]
    exact this
   have hu2 : q2e (l.take (i + 1)) < 18446744073709551616 := by
    have h1 := j64 (l.take (i + 1))
    refine Nat.lt_of_lt_of_le h1 ?_
    rw [show (18446744073709551616 : Nat) = 256 ^ 8 from rfl]
    exact Nat.pow_le_pow_right (by decide) (by rw [List.length_take]; omega)
   rw [hu] at hu2
   have hmn : min (8 * i) 64 = 8 * i := by omega
   have hsh : IntKind.u64.wrap ((c.toNat : Int) * 2 ^ (8 * i)) = ((c.toNat * 2 ^ (8 * i) : Nat) : Int) := by
    rw [IntKind.wrap_u64, show (c.toNat : Int) * 2 ^ (8 * i) = ((c.toNat * 2 ^ (8 * i) : Nat) : Int) from by simp]
    omega
   have ho : IntKind.u64.wrap ((BitVec.ofInt IntKind.u64.bits ((q2e (l.take i) : Nat) : Int) ||| BitVec.ofInt IntKind.u64.bits ((c.toNat * 2 ^ (8 * i) : Nat) : Int)).toNat : Int) = ((q2e (l.take (i + 1)) : Nat) : Int) := by
    rw [hu]
    exact j9t hu1 hu2
   clear hu hu1 hu2 ht hlen
   generalize q2e (l.take i) = u at ho
   generalize hU : q2e (l.take (i + 1)) = U at ho
   generalize 8 * i = s8 at hw8 hwu hmn hsh ho
   have hs8 : ((s8 : Int)).toNat = s8 := Int.toNat_natCast _
   generalize hX : c.toNat * 2 ^ s8 = X at hsh ho
   clear hX
   (try simp only [go_sem, Int.reduceBEq, Int.reduceLE, Int.reduceLT, Int.reduceNeg, Nat.reduceAdd, Nat.reduceEqDiff, Nat.reduceLT, Nat.reduceLeDiff, Nat.reduceMul, Nat.reduceSub, reduceCtorEq, ↓reduceIte] at ho)
   refine q0c (And.intro hbl (And.intro hcp (And.intro hw1 (And.intro hw8 (And.intro hwu (And.intro hwc (And.intro hmn (And.intro hsh ho)))))))) ?_
   refine .next ⟨i + 1, hlt⟩ ?_ (by simp only []; omega)
   refine q1j (hbl) ?_
   rw [hU]
 · have hge : i = l.length := by simp at hc; omega
   subst hge
   rw [List.take_length]
   refine q0b ?_
   refine retX Tryz.results110 ?_
   exact ⟨.c _, frz3⟩
theorem z15 (B : List UInt8) (hB : B.length ≤ 1000000) (p : Nat) (hp : p ≤ B.length) (e n : Int) (hn : n ≤ 1000000000) (hn' : -1000000000 ≤ n) : Told Tryz.prog 113 [.agg ((rC B p e).map .c), .c (.v (.int .i64 n))]
  (.tup [.c (.sl 1 (q0e (lft (q2d n.toNat) [] B p e).1)), .agg ((rC B (lft (q2d n.toNat) [] B p e).2.1 (lft (q2d n.toNat) [] B p e).2.2).map .c)]) := by
 have hN := j7g B hB p hp e n hn hn'
 have hlen : (lft (q2d n.toNat) [] B p e).1.length ≤ 1000000000 := by
  by_cases h : e = 0
  · subst h
    cases hr : q2d n.toNat B p with
    | error x => rw [q3u _ hr]; simp
    | ok r => rw [q4u (v := r.1) (q := r.2) _ hr]; have := j6b (l := r.1) (q := r.2) hr; simp only []; omega
  · rw [q5w _ _ _ _ h]; simp
 generalize lft (q2d n.toNat) [] B p e = L at hN hlen ⊢
 obtain ⟨l, q, e'⟩ := L
 simp only [] at hN hlen ⊢
 have hbl := q5f l
 unfold rC at hN ⊢
 refine VC.toldP ent_113 Tryz.func113 rfl Tryz.ntmps113 fun hb => ?_
 clear hb
 refine q0b ?_
 refine q0j (hN) ?_
 refine q0c (hbl) ?_
 refine AO.stepJw rfl (J_copy _ _ _ _ _ 112 l.length _ (q0e l) rfl (by trivial) (by trivial) rfl rfl q6f rfl q51 rfl rfl rfl (by simp [Blkd.len]) rfl hbl) ?_
 refine q0b ?_
 refine retX Tryz.results113 ?_
 exact ⟨q37 (f := fun b : UInt8 => [PV.v (.int .u8 (b.toNat : Int))]) (l := l) (T := 5) (by show some _ = some _; rw [← j0u]; rfl) rfl rfl (by simp), frz3⟩
theorem z11 (B : List UInt8) (hB : B.length ≤ 1000000) (p : Nat) (hp : p ≤ B.length) (e : Int) : Told Tryz.prog 111 [.agg ((rC B p e).map .c)]
  (.tup [.c (.sl 1 (q0e (lft q3n [] B p e).1)), .agg ((rC B (lft q3n [] B p e).2.1 (lft q3n [] B p e).2.2).map .c)]) := by
 have hN := j1x B hB p hp e
 by_cases h : e = 0
 · subst h
   cases hr : q2r B p with
   | error x =>
     rw [q3u _ hr] at hN
     rw [q3u (f := q3n) _ (q24 hr)]
     have e1 : (x != 0) = true := by simpa using q36.ers hr
     unfold rC at hN ⊢
     refine VC.toldP j1h Tryz.func111 rfl Tryz.ntmps111 fun hb => ?_
     clear hb
     refine q0m ?_
     refine q0j (hN) ?_
     refine q0a (e1) ?_
     refine retX Tryz.results111 ?_
     exact ⟨.nil 1, frz3⟩
   | ok r =>
     obtain ⟨n, q⟩ := r
     rw [q4u _ hr] at hN
     have hq := (q36.fwd hp hr).2
     simp only [] at hN
     by_cases h1 : n < 0
     · rw [q3u (f := q3n) _ (x := 11) (by unfold q3n; rw [q2c hr, if_pos h1]; rfl)]
       have e1 : decide (n < 0) = true := by simpa using h1
       have hF := j1c B p 0 11
       unfold rC at hN hF ⊢
       refine VC.toldP j1h Tryz.func111 rfl Tryz.ntmps111 fun hb => ?_
       clear hb
       refine q0m ?_
       refine q0j (hN) ?_
       refine q0a (e1) ?_
       refine q0j (hF) ?_
       refine q0m ?_
       refine retX Tryz.results111 ?_
       exact ⟨.nil 1, frz3⟩
     have e1 : decide (n < 0) = false := by simpa using h1
     by_cases h2 : 20000 < n
     · rw [q3u (f := q3n) _ (x := 15) (by unfold q3n; rw [q2c hr, if_neg h1, if_pos h2]; rfl)]
       have e2 : decide (n > 20000) = true := by simpa using h2
       have hF := j1c B p 0 15
       unfold rC at hN hF ⊢
       refine VC.toldP j1h Tryz.func111 rfl Tryz.ntmps111 fun hb => ?_
       clear hb
       refine q0m ?_
       refine q0j (hN) ?_
       refine q0a (And.intro e1 e2) ?_
       refine q0j (hF) ?_
       refine q0m ?_
       refine retX Tryz.results111 ?_
       exact ⟨.nil 1, frz3⟩
     have e2 : decide (n > 20000) = false := by simpa using h2
     have hX := z15 B hB q hq 0 n (by omega) (by omega)
     have hwn : IntKind.i64.wrap n = n := q0f (by omega) (by omega)
     cases hx : q2d n.toNat B q with
     | error x =>
       rw [q3u (f := q3n) _ (x := x) (by unfold q3n; rw [q2c hr, if_neg h1, if_neg h2, hx])]
       rw [q3u _ hx] at hX
       have e3 : (x != 0) = true := by simpa using (q72 _).ers hx
       have hF := j1c B p 0 x
       unfold rC at hN hF hX ⊢
       refine VC.toldP j1h Tryz.func111 rfl Tryz.ntmps111 fun hb => ?_
       clear hb
       refine q0m ?_
       refine q0j (hN) ?_
       refine q0a (And.intro e1 e2) ?_
       refine q0j (hX) ?_
       refine q0a (e3) ?_
       refine q0j (hF) ?_
       refine q0m ?_
       refine retX Tryz.results111 ?_
       exact ⟨.nil 1, frz3⟩
     | ok r2 =>
       obtain ⟨l, q2⟩ := r2
       rw [q4u (f := q3n) _ (v := l) (q := q2) (by unfold q3n; rw [q2c hr, if_neg h1, if_neg h2, hx])]
       rw [q4u _ hx] at hX
       simp only [] at hX
       unfold rC at hN hX ⊢
       refine VC.toldP j1h Tryz.func111 rfl Tryz.ntmps111 fun hb => ?_
       clear hb
       refine q0m ?_
       refine q0j (hN) ?_
       refine q0a (And.intro e1 e2) ?_
       refine q0j (hX) ?_
       refine q0m ?_
       refine retX Tryz.results111 ?_
       exact ⟨.c _, frz3⟩
 · rw [q5w _ _ _ _ h] at hN ⊢
   have e1 : (e != 0) = true := by simpa using h
   unfold rC at hN ⊢
   refine VC.toldP j1h Tryz.func111 rfl Tryz.ntmps111 fun hb => ?_
   clear hb
   refine q0m ?_
   refine q0j (hN) ?_
   refine q0a (e1) ?_
   refine retX Tryz.results111 ?_
   exact ⟨.nil 1, frz3⟩
theorem bytes_len {B l : List UInt8} {p q : Nat} (h : q3n B p = .ok (l, q)) : l.length ≤ 20000 := by
 obtain ⟨n, r, h1, h2⟩ := q2i h
 split at h2
 · unfold rbad at h2
   simp at h2
 split at h2
 · unfold rbad at h2
   simp at h2
 · have := j6b h2
   omega
theorem z2c (B : List UInt8) (hB : B.length ≤ 1000000) (p : Nat) (hp : p ≤ B.length) (e : Int) : Told Tryz.prog 112 [.agg ((rC B p e).map .c)]
  (.tup [.c (.sl 1 (q0e (lft q2t [] B p e).1)), .agg ((rC B (lft q2t [] B p e).2.1 (lft q2t [] B p e).2.2).map .c)]) := by
 have hN := z11 B hB p hp e
 by_cases h : e = 0
 · subst h
   cases hr : q3n B p with
   | error x =>
     rw [q3u _ hr] at hN
     rw [q3u (f := q2t) _ (q24 hr)]
     have e1 : (x == 0) = false := by simpa using j2a.ers hr
     unfold rC at hN ⊢
     refine VC.toldP j3f Tryz.func112 rfl Tryz.ntmps112 fun hb => ?_
     clear hb
     refine q0m ?_
     refine q0j (hN) ?_
     refine q0a (e1) ?_
     refine retX Tryz.results112 ?_
     exact ⟨.c _, frz3⟩
   | ok r =>
     obtain ⟨l, q⟩ := r
     rw [q4u _ hr] at hN
     have hl := bytes_len hr
     have hU := j2p l (by omega)
     simp only [] at hN
     cases hi : q2p l with
     | true =>
       rw [q4u (f := q2t) _ (v := l) (q := q) (by unfold q2t; rw [q2c hr, if_pos hi]; rfl)]
       rw [hi] at hU
       unfold rC at hN ⊢
       refine VC.toldP j3f Tryz.func112 rfl Tryz.ntmps112 fun hb => ?_
       clear hb
       refine q0m ?_
       refine q0j (hN) ?_
       refine q0m ?_
       refine q0j (hU) ?_
       refine q0m ?_
       refine retX Tryz.results112 ?_
       exact ⟨.c _, frz3⟩
     | false =>
       rw [q3u (f := q2t) _ (x := 11) (by unfold q2t; rw [q2c hr, if_neg (by rw [hi]; decide)]; rfl)]
       rw [hi] at hU
       have hF := j1c B p 0 11
       unfold rC at hN hF ⊢
       refine VC.toldP j3f Tryz.func112 rfl Tryz.ntmps112 fun hb => ?_
       clear hb
       refine q0m ?_
       refine q0j (hN) ?_
       refine q0m ?_
       refine q0j (hU) ?_
       refine q0m ?_
       refine q0j (hF) ?_
       refine q0m ?_
       refine retX Tryz.results112 ?_
       exact ⟨.nil 1, frz3⟩
 · rw [q5w _ _ _ _ h] at hN ⊢
   have e1 : (e == 0) = false := by simpa using h
   unfold rC at hN ⊢
   refine VC.toldP j3f Tryz.func112 rfl Tryz.ntmps112 fun hb => ?_
   clear hb
   refine q0m ?_
   refine q0j (hN) ?_
   refine q0a (e1) ?_
   refine retX Tryz.results112 ?_
   exact ⟨.c _, frz3⟩
end
end Go.Proofs.YtepneflbhpidbaaGreatDoor
