/- Abstract values, and what one operation makes of the abstract state. -/
import Derived.WalkKit
import Derived.WalkSpells
import Derived.WalkLawsBesides
import Derived.Handy
import Derived.Lib.Hide
import Derived.Laws.OwnMore
import Derived.Maps.AppendAt
import Derived.Deep.MidRow
import Derived.Great.FillDense
import Derived.Great.BuildSlice
import Derived.Laws.BytesArg
import Derived.Laws.IdiomStrings
namespace Go.Proofs.YthkofkaocipomaaGreatDoor
open Go.RowKit
set_option linter.unusedVariables false
set_option linter.unusedSimpArgs false

inductive PV where
  | v (x : Value)
  | sl (z : Nat) (es : List (List PV))

def q34 (W : World) (b o : Nat) (vs : List Value) : Prop := ∀ j, j < vs.length → W.cell? ⟨b, o + j, none⟩ = vs[j]?
theorem q34.frame {W W' : World} {b o : Nat} {vs : List Value} (h : q34 W b o vs) (hs : W'.heap[b]? = W.heap[b]?) : q34 W' b o vs :=
  fun j hj => (World.cell?_of_block (w := W) (a := ⟨b, o + j, none⟩) hs).trans (h j hj)
theorem q34.load {P : Program} {W : World} {b o : Nat} {vs : List Value} (h : q34 W b o vs) : (loadCells ⟨b, o, none⟩ vs.length).run P W = .ok vs.toArray W :=
  run_loadCells_list W ⟨b, o, none⟩ vs fun j v hv => by
    rw [show (⟨b, o, none⟩ : Addr).add j = ⟨b, o + j, none⟩ from by unfold Addr.add; split <;> simp_all]
    rw [h j (List.getElem?_eq_some_iff.1 hv).1, hv]

inductive PRep (W : World) (ro : Nat → Prop) : PV → Value → Prop
  | v {x : Value} (h : x.oneCell' = true) : PRep W ro (.v x) x
  | sl {z : Nat} {es : List (List PV)} {a : Option Addr} {c : Nat} {vss : List (List Value)}
      (hn : es.length ≤ c) (hc : c ≤ 9223372036854775807) (hnil : a = none → c = 0)
      (ha : es ≠ [] → ∃ b off, a = some ⟨b, off, none⟩ ∧ ro b ∧ ∀ (i : Nat) (vs : List Value), vss[i]? = some vs → q34 W b (off + i * z) vs)
      (hl : vss.length = es.length) (hz : ∀ (i : Nat) (e : List PV), es[i]? = some e → e.length = z) (hz' : ∀ (i : Nat) (vs : List Value), vss[i]? = some vs → vs.length = z)
      (hx : ∀ (i j : Nat) (e : List PV) (vs : List Value) (p : PV) (v : Value), es[i]? = some e → vss[i]? = some vs → e[j]? = some p → vs[j]? = some v → PRep W ro p v) :
      PRep W ro (.sl z es) (.slice a es.length c)
theorem PRep.map {W W' : World} {ro ro' : Nat → Prop} {p : PV} {v : Value} (h : PRep W ro p v) (hs : ∀ b, ro b → W'.heap[b]? = W.heap[b]?) (hr : ∀ b, ro b → ro' b) : PRep W' ro' p v := by
  induction h with
  | v h => exact .v h
  | sl hn hc hnil ha hl hz hz' hx ih =>
    refine .sl hn hc hnil (fun hne => ?_) hl hz hz' (fun i j e vs p v h1 h2 h3 h4 => ih i j e vs p v h1 h2 h3 h4)
    obtain ⟨b, off, h1, h2, h3⟩ := ha hne
    exact ⟨b, off, h1, hr b h2, fun i vs hv => (h3 i vs hv).frame (hs b h2)⟩
theorem PRep.one {W : World} {ro : Nat → Prop} {p : PV} {v : Value} (h : PRep W ro p v) : v.oneCell' = true := by
  cases h with
  | v h => exact h
  | sl => rfl
theorem PRep.nil (W : World) (ro : Nat → Prop) (z : Nat) : PRep W ro (.sl z []) (.slice none 0 0) :=
  .sl (es := []) (vss := []) (by simp) (by omega) (fun _ => rfl) (fun h => absurd rfl h) rfl (by simp) (by simp) (by simp)
def q3z (W : World) (ro : Nat → Prop) (ps : List PV) (vs : List Value) : Prop := vs.length = ps.length ∧ ∀ (j : Nat) (p : PV) (v : Value), ps[j]? = some p → vs[j]? = some v → PRep W ro p v
theorem q3z.map {W W' : World} {ro ro' : Nat → Prop} {p : List PV} {v : List Value} (h : q3z W ro p v) (hs : ∀ b, ro b → W'.heap[b]? = W.heap[b]?) (hr : ∀ b, ro b → ro' b) : q3z W' ro' p v :=
  ⟨h.1, fun j p v h1 h2 => (h.2 j p v h1 h2).map hs hr⟩

inductive AV where
  | any
  | c (p : PV)
  | ref (j n i off : Nat)
  | row (j n : Nat)
  | pp (cells : List PV)
  | agg (l : List AV)
  | tup (l : List AV)
  | opt (b : Bool) (x : AV)
  | fn (f : Fn) (fs cs : List AV)
structure Blkd where
  row : Bool
  T : TypeId
  z : Nat
  elems : List (List AV)
def Blkd.len (B : Blkd) : Nat := B.elems.length
def q0y : Value → Option Nat
  | .pointer (some a) => some a.block
  | .slice (some a) _ _ => some a.block
  | _ => none
inductive Rep (W : World) (ro : Nat → Prop) (φ : Nat → Value) (h : Nat → Option Blkd) : AV → Value → Prop
  | any (v : Value) : Rep W ro φ h .any v
  | c {p : PV} {v : Value} (hp : PRep W ro p v) : Rep W ro φ h (.c p) v
  | ref {j n i off : Nat} {v : Value} (h1 : v.oneCell' = true) (hv : ∀ B, h j = some B → B.len = n → ∃ b, q0y (φ j) = some b ∧ v = .pointer (some ⟨b, i * B.z + off, none⟩)) : Rep W ro φ h (.ref j n i off) v
  | row {j n : Nat} {v : Value} (h1 : v.oneCell' = true) (hv : ∀ B, h j = some B → B.len = n → v = φ j) : Rep W ro φ h (.row j n) v
  | pp {cells : List PV} {b off : Nat} {vs : List Value} (hb : ro b) (hc : q34 W b off vs) (hp : q3z W ro cells vs) : Rep W ro φ h (.pp cells) (.pointer (some ⟨b, off, none⟩))
  | agg {l : List AV} {vs : List Value} (hl : vs.length = l.length) (hx : ∀ (j : Nat) (x : AV) (v : Value), l[j]? = some x → vs[j]? = some v → Rep W ro φ h x v) : Rep W ro φ h (.agg l) (.agg vs.toArray)
  | tup {l : List AV} {vs : List Value} (hl : vs.length = l.length) (hx : ∀ (j : Nat) (x : AV) (v : Value), l[j]? = some x → vs[j]? = some v → Rep W ro φ h x v) : Rep W ro φ h (.tup l) (.tuple vs.toArray)
  | opt {b : Bool} {x : AV} {v : Value} (hx : b = true → Rep W ro φ h x v) (hu : b = false → v = undef) : Rep W ro φ h (.opt b x) v
  | fn {f : Fn} {fs cs : List AV} {us vs : List Value} (hl : us.length = fs.length) (hx : ∀ (j : Nat) (x : AV) (v : Value), fs[j]? = some x → us[j]? = some v → Rep W ro φ h x v)
      (hl' : vs.length = cs.length) (hx' : ∀ (j : Nat) (x : AV) (v : Value), cs[j]? = some x → vs[j]? = some v → Rep W ro φ h x v) : Rep W ro φ h (.fn f fs cs) (.func f us.toArray vs.toArray)
inductive Sc (used : Nat → Prop) (h : Nat → Option Blkd) : AV → Prop
  | any : Sc used h .any
  | c {p : PV} : Sc used h (.c p)
  | ref {j n i off : Nat} (hu : used j) (hn : ∀ B, h j = some B → n ≤ B.len) : Sc used h (.ref j n i off)
  | row {j n : Nat} (hu : used j) (hn : ∀ B, h j = some B → n ≤ B.len) : Sc used h (.row j n)
  | pp {cells : List PV} : Sc used h (.pp cells)
  | agg {l : List AV} (hx : ∀ x ∈ l, Sc used h x) : Sc used h (.agg l)
  | tup {l : List AV} (hx : ∀ x ∈ l, Sc used h x) : Sc used h (.tup l)
  | opt {b : Bool} {x : AV} (hx : b = true → Sc used h x) : Sc used h (.opt b x)
  | fn {f : Fn} {fs cs : List AV} (hx : ∀ x ∈ fs, Sc used h x) (hx' : ∀ x ∈ cs, Sc used h x) : Sc used h (.fn f fs cs)
def Goes (used : Nat → Prop) (φ φ' : Nat → Value) (h h' : Nat → Option Blkd) : Prop :=
  ∀ j B', used j → h' j = some B' → ∃ B, h j = some B ∧ (B.len < B'.len ∨ (B.len = B'.len ∧ B.z = B'.z ∧ φ' j = φ j))
theorem Rep.map {W W' : World} {ro ro' : Nat → Prop} {φ φ' : Nat → Value} {h h' : Nat → Option Blkd} {used : Nat → Prop} {x : AV} {v : Value} (hr : Rep W ro φ h x v) (hs : Sc used h x)
    (hw : ∀ b, ro b → W'.heap[b]? = W.heap[b]?) (hro : ∀ b, ro b → ro' b) (hg : Goes used φ φ' h h') : Rep W' ro' φ' h' x v := by
  induction hr with
  | any v => exact .any v
  | c hp => exact .c (hp.map hw hro)
  | @ref j n i off v h1 hv =>
    refine .ref h1 fun B' hB' hn => ?_
    cases hs with
    | ref hu hle =>
    obtain ⟨B, hB, h2 | ⟨h2, h3, h4⟩⟩ := hg j B' hu hB'
    · have := hle B hB
      omega
    · rw [h4, ← h3]
      exact hv B hB (by omega)
  | @row j n v h1 hv =>
    refine .row h1 fun B' hB' hn => ?_
    cases hs with
    | row hu hle =>
    obtain ⟨B, hB, h2 | ⟨h2, h3, h4⟩⟩ := hg j B' hu hB'
    · have := hle B hB
      omega
    · rw [h4]
      exact hv B hB (by omega)
  | pp hb hc hp => exact .pp (hro _ hb) (hc.frame (hw _ hb)) (hp.map hw hro)
  | agg hl hx ih =>
    cases hs with
    | agg hs => exact .agg hl fun j x v h1 h2 => ih j x v h1 h2 (hs x (List.mem_of_getElem? h1))
  | tup hl hx ih =>
    cases hs with
    | tup hs => exact .tup hl fun j x v h1 h2 => ih j x v h1 h2 (hs x (List.mem_of_getElem? h1))
  | opt hx hu ih =>
    cases hs with
    | opt hs => exact .opt (fun hb => ih hb (hs hb)) hu
  | fn hl hx hl' hx' ih ih' =>
    cases hs with
    | fn hs hs' => exact .fn hl (fun j x v h1 h2 => ih j x v h1 h2 (hs x (List.mem_of_getElem? h1))) hl' (fun j x v h1 h2 => ih' j x v h1 h2 (hs' x (List.mem_of_getElem? h1)))
theorem Sc.map {used used' : Nat → Prop} {h h' : Nat → Option Blkd} {x : AV} (hs : Sc used h x) (hu : ∀ j, used j → used' j) (hg : ∀ j B', used j → h' j = some B' → ∃ B, h j = some B ∧ B.len ≤ B'.len) : Sc used' h' x := by
  induction hs with
  | any => exact .any
  | c => exact .c
  | ref hj hn => exact .ref (hu _ hj) fun B' hB' => by obtain ⟨B, h1, h2⟩ := hg _ B' hj hB'; exact Nat.le_trans (hn B h1) h2
  | row hj hn => exact .row (hu _ hj) fun B' hB' => by obtain ⟨B, h1, h2⟩ := hg _ B' hj hB'; exact Nat.le_trans (hn B h1) h2
  | pp => exact .pp
  | agg hx ih => exact .agg ih
  | tup hx ih => exact .tup ih
  | opt hx ih => exact .opt ih
  | fn hx hx' ih ih' => exact .fn ih ih'
def RepL (W : World) (ro : Nat → Prop) (φ : Nat → Value) (h : Nat → Option Blkd) (l : List AV) (vs : List Value) : Prop := vs.length = l.length ∧ ∀ (j : Nat) (x : AV) (v : Value), l[j]? = some x → vs[j]? = some v → Rep W ro φ h x v
def ScL (used : Nat → Prop) (h : Nat → Option Blkd) (l : List AV) : Prop := ∀ x ∈ l, Sc used h x
theorem RepL.map {W W' : World} {ro ro' : Nat → Prop} {φ φ' : Nat → Value} {h h' : Nat → Option Blkd} {used : Nat → Prop} {l : List AV} {vs : List Value} (hr : RepL W ro φ h l vs) (hs : ScL used h l)
    (hw : ∀ b, ro b → W'.heap[b]? = W.heap[b]?) (hro : ∀ b, ro b → ro' b) (hg : Goes used φ φ' h h') : RepL W' ro' φ' h' l vs :=
  ⟨hr.1, fun j x v h1 h2 => (hr.2 j x v h1 h2).map (hs x (List.mem_of_getElem? h1)) hw hro hg⟩
def AV.cellish : AV → Bool
  | .c _ | .ref .. | .row .. | .pp _ | .fn .. => true
  | _ => false
theorem Rep.one {W : World} {ro : Nat → Prop} {φ : Nat → Value} {h : Nat → Option Blkd} {x : AV} {v : Value} (hr : Rep W ro φ h x v) (hx : x.cellish = true) : v.oneCell' = true := by
  cases hr with
  | c hp => exact hp.one
  | ref h1 _ => exact h1
  | row h1 _ => exact h1
  | pp => rfl
  | fn => rfl
  | _ => simp [AV.cellish] at hx
def BRep (W : World) (ro : Nat → Prop) (φ : Nat → Value) (h : Nat → Option Blkd) (j : Nat) (B : Blkd) : Prop :=
  (∀ (i : Nat) (e : List AV), B.elems[i]? = some e → e.length = B.z) ∧ (∀ e ∈ B.elems, ∀ x ∈ e, x.cellish = true) ∧
  ∃ vs, RepL W ro φ h B.elems.flatten vs ∧ if B.row = true then W.ownsRow 0 B.T B.z (φ j) B.len vs else ∃ b, φ j = .pointer (some ⟨b, 0, none⟩) ∧ W.heap[b]? = some (.cells vs.toArray B.T (0, 0))

end Go.Proofs.YthkofkaocipomaaGreatDoor

namespace Go.Proofs.YthkofkaocipomaaGreatDoor
open Go.RowKit
set_option linter.unusedVariables false
set_option linter.unusedSimpArgs false

def upd {α : Type} (f : Nat → α) (k : Nat) (x : α) : Nat → α := fun m => if m = k then x else f m
def putd {α : Type} (d : Option Nat) (x : α) (f : Nat → α) : Nat → α := match d with | some k => upd f k x | none => f
theorem q1a {α : Type} (f : Nat → α) (k : Nat) (x : α) : upd f k x k = x := if_pos rfl
theorem q1p {α : Type} (f : Nat → α) {k m : Nat} (x : α) (h : m ≠ k) : upd f k x m = f m := if_neg h

def L0 : Nat := 1000000
def strG (l : List Nat) : PV := .v (.string ⟨(l.map fun n => n.toUInt8).toArray⟩)
def globN (s : String) : Option (List PV) :=
  if s = "avocet/naming.words" then some ([[], [110, 117, 108, 108], [98, 111, 111, 108, 101, 97, 110], [105, 110, 116], [108, 111, 110, 103], [102, 108, 111, 97, 116], [100, 111, 117, 98, 108, 101], [98, 121, 116, 101, 115], [115, 116, 114, 105, 110, 103], [114, 101, 99, 111, 114, 100], [101, 110, 117, 109], [97, 114, 114, 97, 121], [109, 97, 112], [], [102, 105, 120, 101, 100]].map strG) else none
def glob (P : Program) (g : Nat) : Option (List PV) := (P.globals[g]?).bind fun x => globN x.name
structure Ctx (P : Program) where
  W0 : World
  md : Nat → Prop
  ro0 : Nat → Prop
  /-- Blocks that were lent: how many elements they had, and where they lay. -/
  len0 : Nat → Option Nat
  φi : Nat → Value
structure Keeps (md : Nat → Prop) (w w' : World) : Prop where
  os : w'.os = w.os
  tape : w'.tape = w.tape
  output : w'.output = w.output
  size : w.heap.size ≤ w'.heap.size
  block : ∀ k, k < w.heap.size → ¬ md k → w'.heap[k]? = w.heap[k]?
theorem Keeps.refl (md : Nat → Prop) (w : World) : Keeps md w w := ⟨rfl, rfl, rfl, Nat.le_refl _, fun _ _ _ => rfl⟩
def GOk (P : Program) (W : World) (ro : Nat → Prop) : Prop := ∀ g cells, glob P g = some cells → ro g ∧ ∃ vs, q34 W g 0 vs ∧ q3z W ro cells vs
def GlobOk {P : Program} (C : Ctx P) : Prop := (∀ b, C.ro0 b → b < C.W0.heap.size ∧ ¬ C.md b) ∧ GOk P C.W0 C.ro0
structure Rel {P : Program} (C : Ctx P) (used : Nat → Prop) (N : Nat) (t : Nat → AV) (h : Nat → Option Blkd) (ro : Nat → Prop) (φ : Nat → Value) (a : Act) (W : World) : Prop where
  keep : Keeps C.md C.W0 W
  defers : a.defers = []
  size : a.tmps.size = N
  tm : ∀ k, Rep W ro φ h (t k) (a.tmps.getD k undef)
  hp : ∀ j B, h j = some B → BRep W ro φ h j B
  inj : ∀ j k B B' b, h j = some B → h k = some B' → j ≠ k → q0y (φ j) = some b → q0y (φ k) ≠ some b
  own : ∀ j B b, h j = some B → q0y (φ j) = some b → ¬ ro b ∧ (b < C.W0.heap.size → C.md b)
  rolt : ∀ b, ro b → b < W.heap.size
  ro0 : ∀ b, C.ro0 b → ro b
  ronew : ∀ b, ro b → C.ro0 b ∨ C.W0.heap.size ≤ b ∨ C.md b
  scT : ∀ k, Sc used h (t k)
  scH : ∀ j B, h j = some B → used j ∧ ∀ e ∈ B.elems, ScL used h e
  lent : ∀ j n, C.len0 j = some n → L0 ≤ j ∧ used j ∧ ∀ B, h j = some B → n ≤ B.len ∧ (B.len = n → φ j = C.φi j)
  glob : GlobOk C

section
variable {P : Program} {C : Ctx P} {used : Nat → Prop} {N : Nat} {t : Nat → AV} {h : Nat → Option Blkd} {ro : Nat → Prop} {φ : Nat → Value} {a : Act} {W : World}
theorem GOk.mono {W W' : World} {ro ro' : Nat → Prop} (hg : GOk P W ro) (hw : ∀ b, ro b → W'.heap[b]? = W.heap[b]?) (hr : ∀ b, ro b → ro' b) : GOk P W' ro' := by
  intro g cells hc
  obtain ⟨h1, vs, h2, h3⟩ := hg g cells hc
  exact ⟨hr g h1, vs, h2.frame (hw g h1), h3.map hw hr⟩
theorem Rel.gok (r : Rel C used N t h ro φ a W) : GOk P W ro := r.glob.2.mono (fun b hb => r.keep.block b (r.glob.1 b hb).1 (r.glob.1 b hb).2) r.ro0
theorem Rel.world (r : Rel C used N t h ro φ a W) {W' : World} (hh : W'.heap = W.heap) (ho : W'.os = W.os) (ht : W'.tape = W.tape) (hu : W'.output = W.output) : Rel C used N t h ro φ a W' := by
  have hw : ∀ b, ro b → W'.heap[b]? = W.heap[b]? := fun b _ => by rw [hh]
  have hg : Goes used φ φ h h := fun j B' hu hB => ⟨B', hB, .inr ⟨rfl, rfl, rfl⟩⟩
  refine ⟨⟨ho.trans r.keep.os, ht.trans r.keep.tape, hu.trans r.keep.output, by rw [hh]; exact r.keep.size, fun k hk hm => by rw [hh]; exact r.keep.block k hk hm⟩, r.defers, r.size,
    fun k => (r.tm k).map (r.scT k) hw (fun _ h => h) hg, fun j B hB => ?_, r.inj, r.own, fun b hb => by rw [hh]; exact r.rolt b hb, r.ro0, r.ronew, r.scT, r.scH, r.lent, r.glob⟩
  obtain ⟨h1, h2, vs, h3, h4⟩ := r.hp j B hB
  refine ⟨h1, h2, vs, h3.map (fun x hx => ?_) hw (fun _ h => h) hg, ?_⟩
  · obtain ⟨e, he, hx⟩ := List.mem_flatten.1 hx
    exact (r.scH j B hB).2 e he x hx
  · split
    · rename_i hr
      rw [if_pos hr] at h4
      exact ⟨h4.1, by rw [hh]; exact h4.2⟩
    · rename_i hr
      rw [if_neg hr] at h4
      rw [hh]
      exact h4
theorem Rel.put (r : Rel C used N t h ro φ a W) {d : Option Nat} {x : AV} {v : Value} (hv : Rep W ro φ h x v) (hs : Sc used h x) (hd : ∀ k, d = some k → k < N) : Rel C used N (putd d x t) h ro φ (a.put d v) W := by
  cases d with
  | none => exact r
  | some k =>
    have hk := hd k rfl
    refine ⟨r.keep, r.defers, by simp [Act.put, r.size], fun m => ?_, r.hp, r.inj, r.own, r.rolt, r.ro0, r.ronew, fun m => ?_, r.scH, r.lent, r.glob⟩
    · show Rep W ro φ h (upd t k x m) ((a.tmps.setIfInBounds k v).getD m undef)
      by_cases hm : m = k
      · subst hm
        rw [q1a]
        simpa [Array.getD, hk, r.size] using hv
      · rw [q1p _ _ hm]
        have := r.tm m
        have e : (a.tmps.setIfInBounds k v).getD m undef = a.tmps.getD m undef := by
          simp [Array.getElem?_setIfInBounds_ne (fun e => hm e.symm)]
        rw [e]
        exact this
    · show Sc used h (upd t k x m)
      by_cases hm : m = k
      · rw [hm, q1a]; exact hs
      · rw [q1p _ _ hm]; exact r.scT m
theorem Rel.any (r : Rel C used N t h ro φ a W) (d : Option Nat) (v : Value) (hd : ∀ k, d = some k → k < N) : Rel C used N (putd d .any t) h ro φ (a.put d v) W := r.put (.any v) .any hd
theorem Rel.take (r : Rel C used N t h ro φ a W) {used' : Nat → Prop} (hu : ∀ j, used j → used' j) : Rel C used' N t h ro φ a W :=
  ⟨r.keep, r.defers, r.size, r.tm, r.hp, r.inj, r.own, r.rolt, r.ro0, r.ronew, fun k => (r.scT k).map hu (fun j B' _ h => ⟨B', h, Nat.le_refl _⟩),
    fun j B hB => ⟨hu j (r.scH j B hB).1, fun e he x hx => ((r.scH j B hB).2 e he x hx).map hu (fun j B' _ h => ⟨B', h, Nat.le_refl _⟩)⟩, fun j n hn => ⟨(r.lent j n hn).1, hu j (r.lent j n hn).2.1, (r.lent j n hn).2.2⟩, r.glob⟩
theorem Rel.blk_lt (r : Rel C used N t h ro φ a W) {j b : Nat} {B : Blkd} (hB : h j = some B) (hb : q0y (φ j) = some b) : b < W.heap.size := by
  obtain ⟨h1, h2, vs, h3, h4⟩ := r.hp j B hB
  split at h4
  · rcases h4.2 with ⟨h5, _⟩ | ⟨g, cap, cur, h5, _, h6, _⟩
    · rw [h5] at hb; simp [q0y] at hb
    · rw [h5] at hb
      simp [q0y] at hb
      subst hb
      exact (Array.getElem?_eq_some_iff.1 h6).1
  · obtain ⟨g, h5, h6⟩ := h4
    rw [h5] at hb
    simp [q0y] at hb
    subst hb
    exact (Array.getElem?_eq_some_iff.1 h6).1
theorem BRep.map {W' : World} {ro' : Nat → Prop} {φ' : Nat → Value} {h' : Nat → Option Blkd} {j : Nat} {B : Blkd} (hr : BRep W ro φ h j B) (hs : ∀ e ∈ B.elems, ScL used h e)
    (hw : ∀ b, ro b → W'.heap[b]? = W.heap[b]?) (hro : ∀ b, ro b → ro' b) (hg : Goes used φ φ' h h') (hφ : φ' j = φ j) (hb : ∀ b, q0y (φ j) = some b → W'.heap[b]? = W.heap[b]?) : BRep W' ro' φ' h' j B := by
  obtain ⟨h1, h2, vs, h3, h4⟩ := hr
  refine ⟨h1, h2, vs, h3.map (fun x hx => ?_) hw hro hg, ?_⟩
  · obtain ⟨e, he, hx⟩ := List.mem_flatten.1 hx
    exact hs e he x hx
  · rw [hφ]
    split
    · rename_i hr
      rw [if_pos hr] at h4
      refine ⟨h4.1, ?_⟩
      rcases h4.2 with h5 | ⟨g, cap, cur, h5, h6, h7, h8⟩
      · exact .inl h5
      · exact .inr ⟨g, cap, cur, h5, h6, by rw [hb g (by rw [h5]; rfl)]; exact h7, h8⟩
    · rename_i hr
      rw [if_neg hr] at h4
      obtain ⟨g, h5, h6⟩ := h4
      exact ⟨g, h5, by rw [hb g (by rw [h5]; rfl)]; exact h6⟩
theorem Rel.block (r : Rel C used N t h ro φ a W) {W' : World} {ℓ : Nat} {B : Blkd} {v : Value}
    (hk : Keeps (fun b => q0y v = some b ∨ (∃ B0, h ℓ = some B0 ∧ q0y (φ ℓ) = some b)) W W')
    (hnew : ∀ b, q0y v = some b → W.heap.size ≤ b ∨ (∃ B0, h ℓ = some B0 ∧ q0y (φ ℓ) = some b))
    (hlen : (∃ B0, h ℓ = some B0 ∧ (B0.len < B.len ∨ (B0.len = B.len ∧ B0.z = B.z ∧ v = φ ℓ))) ∨ ¬ used ℓ)
    (hBl : BRep W' ro (upd φ ℓ v) (upd h ℓ (some B)) ℓ B)
    (hsc : ∀ e ∈ B.elems, ScL (fun j => used j ∨ j = ℓ) (upd h ℓ (some B)) e) :
    Rel C (fun j => used j ∨ j = ℓ) N t (upd h ℓ (some B)) ro (upd φ ℓ v) a W' := by
  have hfar : ∀ b, b < W.heap.size → (∀ B0, h ℓ = some B0 → q0y (φ ℓ) ≠ some b) → W'.heap[b]? = W.heap[b]? := by
    intro b hb hne
    refine hk.block b hb fun hm => ?_
    rcases hm with h1 | ⟨B0, h1, h2⟩
    · rcases hnew b h1 with h3 | ⟨B0, h3, h4⟩
      · omega
      · exact hne B0 h3 h4
    · exact hne B0 h1 h2
  have hw : ∀ b, ro b → W'.heap[b]? = W.heap[b]? := fun b hb => hfar b (r.rolt b hb) fun B0 h1 h2 => (r.own ℓ B0 b h1 h2).1 hb
  have hg : Goes used φ (upd φ ℓ v) h (upd h ℓ (some B)) := by
    intro j B' hu hB'
    by_cases hj : j = ℓ
    · subst hj
      rw [q1a] at hB'
      obtain rfl := Option.some.inj hB'
      rcases hlen with ⟨B0, h1, h2⟩ | h2
      · exact ⟨B0, h1, by rw [q1a]; exact h2⟩
      · exact absurd hu h2
    · rw [q1p _ _ hj] at hB'
      exact ⟨B', hB', .inr ⟨rfl, rfl, q1p _ _ hj⟩⟩
  have hsg : ∀ j B', used j → upd h ℓ (some B) j = some B' → ∃ B0, h j = some B0 ∧ B0.len ≤ B'.len := by
    intro j B' hu hB'
    obtain ⟨B0, h1, h2⟩ := hg j B' hu hB'
    exact ⟨B0, h1, by rcases h2 with h2 | h2 <;> omega⟩
  refine ⟨⟨hk.os.trans r.keep.os, hk.tape.trans r.keep.tape, hk.output.trans r.keep.output, Nat.le_trans r.keep.size hk.size, fun b hb hm => ?_⟩, r.defers, r.size,
    fun k => (r.tm k).map (r.scT k) hw (fun _ h => h) hg, fun j B' hB' => ?_, fun j k B1 B2 b h1 h2 hne hb1 hb2 => ?_, fun j B1 b h1 hb1 => ?_, fun b hb => Nat.lt_of_lt_of_le (r.rolt b hb) hk.size, r.ro0, r.ronew,
    fun k => (r.scT k).map (fun j hj => .inl hj) hsg, fun j B' hB' => ?_, fun j n hn => ⟨(r.lent j n hn).1, .inl (r.lent j n hn).2.1, fun B' hB' => ?_⟩, r.glob⟩
  · rw [hfar b (Nat.lt_of_lt_of_le hb r.keep.size) (fun B0 h1 h2 => hm ((r.own ℓ B0 b h1 h2).2 hb))]
    exact r.keep.block b hb hm
  · by_cases hj : j = ℓ
    · subst hj
      rw [q1a] at hB'
      obtain rfl := Option.some.inj hB'
      exact hBl
    · rw [q1p _ _ hj] at hB'
      refine (r.hp j B' hB').map (r.scH j B' hB').2 hw (fun _ h => h) hg (q1p _ _ hj) fun b hb => ?_
      exact hfar b (r.blk_lt hB' hb) fun B0 h1 h2 => r.inj ℓ j B0 B' b h1 hB' (fun e => hj e.symm) h2 hb
  · by_cases hj : j = ℓ
    · subst hj
      rw [q1a] at hb1
      rw [q1p _ _ (fun e => hne e.symm)] at h2 hb2
      rcases hnew b hb1 with h3 | ⟨B0, h3, h4⟩
      · have := r.blk_lt h2 hb2
        omega
      · exact r.inj j k B0 B2 b h3 h2 hne h4 hb2
    · rw [q1p _ _ hj] at h1 hb1
      by_cases hk' : k = ℓ
      · subst hk'
        rw [q1a] at hb2
        rcases hnew b hb2 with h3 | ⟨B0, h3, h4⟩
        · have := r.blk_lt h1 hb1
          omega
        · exact r.inj k j B0 B1 b h3 h1 (fun e => hj e.symm) h4 hb1
      · rw [q1p _ _ hk'] at h2 hb2
        exact r.inj j k B1 B2 b h1 h2 hne hb1 hb2
  · by_cases hj : j = ℓ
    · subst hj
      rw [q1a] at hb1
      rcases hnew b hb1 with h3 | ⟨B0, h3, h4⟩
      · refine ⟨fun hr => ?_, fun hlt => ?_⟩
        · have := r.rolt b hr
          omega
        · have := r.keep.size
          omega
      · exact r.own j B0 b h3 h4
    · rw [q1p _ _ hj] at h1 hb1
      exact r.own j B1 b h1 hb1
  · by_cases hj : j = ℓ
    · subst hj
      rw [q1a] at hB'
      obtain rfl := Option.some.inj hB'
      exact ⟨.inr rfl, hsc⟩
    · rw [q1p _ _ hj] at hB'
      exact ⟨.inl (r.scH j B' hB').1, fun e he x hx => ((r.scH j B' hB').2 e he x hx).map (fun j hj => .inl hj) hsg⟩
  · obtain ⟨_, hu, hl⟩ := r.lent j n hn
    by_cases hj : j = ℓ
    · subst hj
      rw [q1a] at hB' ⊢
      obtain rfl := Option.some.inj hB'
      rcases hlen with ⟨B0, h1, h2⟩ | h2
      · obtain ⟨h3, h4⟩ := hl B0 h1
        rcases h2 with h2 | ⟨h2, _, rfl⟩
        · exact ⟨by omega, fun h => by omega⟩
        · exact ⟨by omega, fun h => h4 (by omega)⟩
      · exact absurd hu h2
    · rw [q1p _ _ hj] at hB' ⊢
      exact hl B' hB'
end

end Go.Proofs.YthkofkaocipomaaGreatDoor

namespace Go.Proofs.YthkofkaocipomaaGreatDoor
open Go.RowKit
set_option linter.unusedVariables false
set_option linter.unusedSimpArgs false

structure TyA where
  row : Bool
  size : Nat
  bytes : Nat
  zero : List Value
  elem : TypeId
  flds : List (Nat × TypeId)
  kind : Nat
  pls : List (Nat × Nat)
def j57 : TypeDesc → Bool | .struct _ | .array _ _ => true | _ => false
def q4l : TypeDesc → TypeId | .slice e | .array _ e | .pointer e => e | _ => 0
def j13 : TypeDesc → List (Nat × TypeId) | .struct fs => fs.toList.map fun f => (f.offset, f.type) | .array n e => [(n, e)] | _ => []
def q2m : TypeDesc → Nat
  | .slice _ => 1 | .string => 2 | .struct _ => 3 | .bool => 4 | .array _ _ => 6 | .pointer _ => 7 | .unsafePointer => 8
  | .int .i8 => 10 | .int .i16 => 11 | .int .i32 => 12 | .int .i64 => 13 | .int .u8 => 14 | .int .u16 => 15 | .int .u32 => 16 | .int .u64 => 17
  | _ => 0
def j4b (P : Program) : TypeDesc → List (Nat × Nat) | .struct fs => (fs.toList.mapM fun f => (P.info? f.type).map fun i => (f.offset, i.size)).getD [] | _ => []
def tyA (P : Program) (t : TypeId) : Option TyA :=
  match P.underlying t, P.info? t with
  | some d, some i => some ⟨j57 d, i.size, i.bytes, ((i.zero.map fun z => z.cells.toList).getD []), q4l d, j13 d, q2m d, j4b P d⟩
  | _, _ => none
theorem q1v {P : Program} {t : TypeId} {T : TyA} (h : tyA P t = some T) :
    ∃ d i, P.underlying t = some d ∧ P.info? t = some i ∧ T = ⟨j57 d, i.size, i.bytes, ((i.zero.map fun z => z.cells.toList).getD []), q4l d, j13 d, q2m d, j4b P d⟩ := by
  unfold tyA at h
  cases hu : P.underlying t with
  | none => rw [hu] at h; simp at h
  | some d =>
    cases hi : P.info? t with
    | none => rw [hu, hi] at h; simp at h
    | some i =>
      rw [hu, hi] at h
      exact ⟨d, i, rfl, rfl, (Option.some.inj h).symm⟩
theorem q57 {d : TypeDesc} (h : q2m d = 1) : ∃ e, d = .slice e := by
  cases d with
  | slice e => exact ⟨e, rfl⟩
  | int k => cases k <;> simp [q2m] at h
  | _ => simp [q2m] at h
theorem q8t {d : TypeDesc} (h : q2m d = 2) : d = .string := by
  cases d with
  | string => rfl
  | int k => cases k <;> simp [q2m] at h
  | _ => simp [q2m] at h
theorem j62 {d : TypeDesc} (h : q2m d = 3) : ∃ fs, d = .struct fs := by
  cases d with
  | struct e => exact ⟨e, rfl⟩
  | int k => cases k <;> simp [q2m] at h
  | _ => simp [q2m] at h
theorem kind_bool {d : TypeDesc} (h : q2m d = 4) : d = .bool := by
  cases d with
  | bool => rfl
  | int k => cases k <;> simp [q2m] at h
  | _ => simp [q2m] at h
theorem j2o {d : TypeDesc} (h : q2m d = 7) : ∃ e, d = .pointer e := by
  cases d with
  | pointer e => exact ⟨e, rfl⟩
  | int k => cases k <;> simp [q2m] at h
  | _ => simp [q2m] at h
theorem z0r {d : TypeDesc} (h : q2m d = 8) : d = .unsafePointer := by
  cases d with
  | unsafePointer => rfl
  | int k => cases k <;> simp [q2m] at h
  | _ => simp [q2m] at h
theorem j4v {d : TypeDesc} {k : IntKind} (h : q2m d = q2m (.int k)) : d = .int k := by
  cases d with
  | int k' => cases k <;> cases k' <;> first | rfl | (simp [q2m] at h)
  | _ => cases k <;> simp [q2m] at h

section
variable {P : Program} {W : World}
theorem q8g (b o j : Nat) : (⟨b, o, none⟩ : Addr).add j = ⟨b, o + j, none⟩ := by unfold Addr.add; split <;> simp_all
theorem j7x {t : TypeId} {i : TypeInfo} (h : P.info? t = some i) : (typeInfo t).run P W = .ok i W := by simp [typeInfo, h]
theorem j2w {t : TypeId} {T : TyA} (h : tyA P t = some T) : (sizeOf t).run P W = .ok T.size W := by
  obtain ⟨d, i, h1, h2, rfl⟩ := q1v h
  simp [sizeOf, j7x h2]
theorem j7w {t : TypeId} {T : TyA} (h : tyA P t = some T) : (isAgg t).run P W = .ok T.row W := by
  obtain ⟨d, i, h1, h2, rfl⟩ := q1v h
  unfold isAgg
  rw [Sem.run_bind, run_underlying h1]
  cases d <;> rfl
theorem q34.sub {b o : Nat} {vs : List Value} (h : q34 W b o vs) (k n : Nat) : q34 W b (o + k) ((vs.drop k).take n) := by
  intro j hj
  simp at hj
  rw [Nat.add_assoc, h (k + j) (by omega), List.getElem?_take_of_lt (by omega), List.getElem?_drop]
theorem j5j {t : TypeId} {T : TyA} (h : tyA P t = some T) (hr : T.row = true) {b o : Nat} {vs : List Value} (hv : q34 W b o vs) (hs : vs.length = T.size) :
    (Instr.loadAt t (.pointer (some ⟨b, o, none⟩))).run P W = .ok (.agg vs.toArray) W := by
  have := hv.load (P := P)
  rw [hs] at this
  simp [Instr.loadAt, Instr.sureAddr, loadVar, j7w h, hr, j2w h, this]
theorem j5i {t : TypeId} {T : TyA} (h : tyA P t = some T) (hr : T.row = false) {b o : Nat} {v : Value} (hv : W.cell? ⟨b, o, none⟩ = some v) :
    (Instr.loadAt t (.pointer (some ⟨b, o, none⟩))).run P W = .ok v W := by
  simp [Instr.loadAt, Instr.sureAddr, loadVar, j7w h, hr, hv]
theorem q6k {α : Type} : ∀ {l : List (List α)} {z i : Nat} {e : List α}, (∀ (i : Nat) (e : List α), l[i]? = some e → e.length = z) → l[i]? = some e → (l.flatten.drop (i * z)).take z = e := by
  intro l
  induction l with
  | nil => intro z i e _ h; simp at h
  | cons a l ih =>
    intro z i e hz h
    have ha := hz 0 a rfl
    cases i with
    | zero =>
      simp at h
      subst h
      simp [ha]
    | succ i =>
      have := ih (z := z) (i := i) (e := e) (fun i e h => hz (i + 1) e (by simpa using h)) (by simpa using h)
      rw [List.flatten_cons, show (i + 1) * z = a.length + i * z from by rw [ha, Nat.add_mul, Nat.one_mul, Nat.add_comm], List.drop_append, List.drop_eq_nil_of_le (show a.length ≤ a.length + i * z from by omega)]
      simpa using this
theorem q42 {α : Type} : ∀ {l : List (List α)} {z : Nat}, (∀ (i : Nat) (e : List α), l[i]? = some e → e.length = z) → l.flatten.length = l.length * z := by
  intro l
  induction l with
  | nil => intro z _; simp
  | cons a l ih =>
    intro z hz
    rw [List.flatten_cons, List.length_append, ih (fun i e h => hz (i + 1) e (by simpa using h)), hz 0 a rfl, List.length_cons, Nat.add_mul, Nat.one_mul, Nat.add_comm]
theorem flatSet {α : Type} : ∀ {l : List (List α)} {z i : Nat} {e e' : List α}, (∀ (i : Nat) (e : List α), l[i]? = some e → e.length = z) → l[i]? = some e →
    (l.set i e').flatten = l.flatten.take (i * z) ++ e' ++ l.flatten.drop (i * z + z) := by
  intro l
  induction l with
  | nil => intro z i e e' _ h; simp at h
  | cons a l ih =>
    intro z i e e' hz h
    have ha := hz 0 a rfl
    cases i with
    | zero =>
      simp [ha.symm]
    | succ i =>
      have := ih (z := z) (i := i) (e := e) (e' := e') (fun i e h => hz (i + 1) e (by simpa using h)) (by simpa using h)
      rw [List.set_cons_succ, List.flatten_cons, this, List.flatten_cons, show (i + 1) * z = a.length + i * z from by rw [ha, Nat.add_mul, Nat.one_mul, Nat.add_comm], Nat.add_assoc, List.drop_append, List.take_append, List.drop_eq_nil_of_le (show a.length ≤ a.length + (i * z + z) from by omega), List.take_of_length_le (show a.length ≤ a.length + i * z from by omega)]
      simp
theorem RepL.sub {ro : Nat → Prop} {φ : Nat → Value} {h : Nat → Option Blkd} {l : List AV} {vs : List Value} (r : RepL W ro φ h l vs) (k n : Nat) : RepL W ro φ h ((l.drop k).take n) ((vs.drop k).take n) := by
  refine ⟨by simp [r.1], fun j x v h1 h2 => ?_⟩
  rcases Nat.lt_or_ge j n with hj | hj
  · rw [List.getElem?_take_of_lt hj, List.getElem?_drop] at h1 h2
    exact r.2 (k + j) x v h1 h2
  · rw [List.getElem?_take_eq_none hj] at h1
    simp at h1
theorem q3z.sub {ro : Nat → Prop} {l : List PV} {vs : List Value} (r : q3z W ro l vs) (k n : Nat) : q3z W ro ((l.drop k).take n) ((vs.drop k).take n) := by
  refine ⟨by simp [r.1], fun j x v h1 h2 => ?_⟩
  rcases Nat.lt_or_ge j n with hj | hj
  · rw [List.getElem?_take_of_lt hj, List.getElem?_drop] at h1 h2
    exact r.2 (k + j) x v h1 h2
  · rw [List.getElem?_take_eq_none hj] at h1
    simp at h1
theorem BRep.mem {ro : Nat → Prop} {φ : Nat → Value} {h : Nat → Option Blkd} {j i : Nat} {B : Blkd} {e : List AV} (hB : BRep W ro φ h j B) (he : B.elems[i]? = some e) :
    ∃ b cur, q0y (φ j) = some b ∧ W.heap[b]? = some (.cells cur B.T (0, 0)) ∧ (B.row = false → φ j = .pointer (some ⟨b, 0, none⟩) ∧ cur.size = B.len * B.z) ∧
      (B.row = true → ∃ cap, φ j = .slice (some ⟨b, 0, none⟩) B.len cap ∧ B.len ≤ cap ∧ cap ≤ maxLen ∧ cur.size = cap * B.z) ∧ B.len * B.z ≤ cur.size ∧ RepL W ro φ h B.elems.flatten (cur.toList.take (B.len * B.z)) := by
  obtain ⟨h1, h2, vs, h3, h4⟩ := hB
  have hlen := q42 h1
  have hlt : i < B.len := (List.getElem?_eq_some_iff.1 he).1
  cases hr : B.row with
  | true =>
    rw [if_pos hr] at h4
    rcases h4.2 with ⟨_, h5⟩ | ⟨g, cap, cur, h5, _, h6, h7, h8, h9, h10⟩
    · omega
    · refine ⟨g, cur, by rw [h5]; rfl, h6, fun h => by simp at h, fun _ => ⟨cap, h5, h7, h8, h9⟩, by rw [h9]; exact Nat.mul_le_mul_right _ h7, ?_⟩
      rw [h10]
      exact h3
  | false =>
    rw [if_neg (by simp [hr])] at h4
    obtain ⟨b, h5, h6⟩ := h4
    have hvl : vs.length = B.len * B.z := by rw [h3.1, hlen]; rfl
    refine ⟨b, vs.toArray, by rw [h5]; rfl, h6, fun _ => ⟨h5, by simpa using hvl⟩, fun h => by simp at h, by simpa using Nat.le_of_eq hvl.symm, ?_⟩
    simp only []
    rw [← hvl, List.take_length]
    exact h3
theorem j12 {b : Nat} {cur : Array Value} {T : TypeId} {fr : Nat × Nat} (h : W.heap[b]? = some (.cells cur T fr)) (n : Nat) : q34 W b 0 (cur.toList.take n) := by
  intro j hj
  simp at hj
  rw [Nat.zero_add, List.getElem?_take_of_lt (by omega)]
  simp [World.cell?, h]
theorem BRep.read {ro : Nat → Prop} {φ : Nat → Value} {h : Nat → Option Blkd} {j i : Nat} {B : Blkd} {e : List AV} (hB : BRep W ro φ h j B) (he : B.elems[i]? = some e) :
    ∃ b vs, q0y (φ j) = some b ∧ q34 W b (i * B.z) vs ∧ RepL W ro φ h e vs := by
  obtain ⟨b, cur, h1, h2, _, _, h3, h4⟩ := hB.mem he
  have h5 := ((j12 h2 (B.len * B.z)).sub (i * B.z) B.z)
  have h6 := h4.sub (i * B.z) B.z
  rw [q6k hB.1 he] at h6
  rw [Nat.zero_add] at h5
  exact ⟨b, _, h1, h5, h6⟩
end

end Go.Proofs.YthkofkaocipomaaGreatDoor

namespace Go.Proofs.YthkofkaocipomaaGreatDoor
open Go.RowKit
set_option linter.unusedVariables false
set_option linter.unusedSimpArgs false

def AV.get : AV → AV | .opt _ x => x | x => x
def AV.okb : AV → Prop | .opt b _ => b = true | _ => True
def cAV : Value → AV | .agg _ => .any | .tuple _ => .any | v => .c (.v v)
def ev (t : Nat → AV) : Operand → AV
  | .tmp k => (t k).get
  | .const v => cAV v
  | .global g => .c (.v (.pointer (some ⟨g, 0, none⟩)))
  | .func f => .fn (.func f) [] []
def okx (t : Nat → AV) : Operand → Prop
  | .tmp k => (t k).okb
  | _ => True
structure Eff where
  val : AV
  rd : List Nat
  wr : List (Nat × Option Blkd)
def wrs (l : List (Nat × Option Blkd)) (h : Nat → Option Blkd) : Nat → Option Blkd := l.foldl (fun h x => upd h x.1 x.2) h
def lab (ℓ j : Nat) : Prop := ℓ ≤ j ∧ j < ℓ + 8
def J (P : Program) (o : Oper) (ℓ : Nat) (t : Nat → AV) (h : Nat → Option Blkd) (e : Eff) : Prop :=
  ∀ (C : Ctx P) (used : Nat → Prop) (N : Nat) (t1 : Nat → AV) (h1 : Nat → Option Blkd) (ro : Nat → Prop) (φ : Nat → Value) (a : Act) (W : World),
    (∀ k, Operand.tmp k ∈ o.op.operands → t1 k = t k) → (∀ j ∈ e.rd, h1 j = h j) → (∀ j, lab ℓ j → ¬ used j) → (∀ d, o.dst = some d → d < N) → Rel C used N t1 h1 ro φ a W →
    ∀ (K : Act → World → Prop) (Q : Exit → Act → World → Prop),
      (∀ a' W' ro' φ', Rel C (fun j => used j ∨ lab ℓ j) N (putd o.dst e.val t1) (wrs e.wr h1) ro' φ' a' W' → K a' W') → o.wp P a W K Q

section
variable {P : Program} {o : Oper} {ℓ : Nat} {t : Nat → AV} {h : Nat → Option Blkd}
theorem Rep.get {W : World} {ro : Nat → Prop} {φ : Nat → Value} {x : AV} {v : Value} (hr : Rep W ro φ h x v) (hx : x.okb) : Rep W ro φ h x.get v := by
  cases x with
  | opt b x => cases hr with | opt hr _ => exact hr hx
  | _ => exact hr
theorem Sc.get {used : Nat → Prop} {x : AV} (hs : Sc used h x) (hx : x.okb) : Sc used h x.get := by
  cases x with
  | opt b x => cases hs with | opt hs => exact hs hx
  | _ => exact hs
theorem q1c {C : Ctx P} {used : Nat → Prop} {N : Nat} {ro : Nat → Prop} {φ : Nat → Value} {a : Act} {W : World} (r : Rel C used N t h ro φ a W) (x : Operand) (hx : okx t x) : Rep W ro φ h (ev t x) (a.eval x) := by
  cases x with
  | tmp k => exact (r.tm k).get hx
  | const v => cases v <;> first | exact .any _ | exact .c (.v rfl)
  | global g => exact .c (.v rfl)
  | func f => exact .fn (us := []) (vs := []) rfl (by simp) rfl (by simp)
theorem q3j {C : Ctx P} {used : Nat → Prop} {N : Nat} {ro : Nat → Prop} {φ : Nat → Value} {a : Act} {W : World} (r : Rel C used N t h ro φ a W) (x : Operand) (hx : okx t x) : Sc used h (ev t x) := by
  cases x with
  | tmp k => exact (r.scT k).get hx
  | const v => cases v <;> first | exact .any | exact .c
  | global g => exact .c
  | func f => exact .fn (by simp) (by simp)
theorem q22 {t1 : Nat → AV} {l : Array Operand} (ht : ∀ k, Operand.tmp k ∈ l → t1 k = t k) {x : Operand} (hx : x ∈ l) : ev t1 x = ev t x ∧ (okx t1 x = okx t x) := by
  cases x with
  | tmp k => simp [ev, okx, ht k hx]
  | _ => exact ⟨rfl, rfl⟩
theorem J.val {e : AV} {rd : List Nat} (hex : ∀ (C : Ctx P) (used : Nat → Prop) (N : Nat) (t1 : Nat → AV) (h1 : Nat → Option Blkd) (ro : Nat → Prop) (φ : Nat → Value) (a : Act) (W : World),
    (∀ x, x ∈ o.op.operands → ev t1 x = ev t x ∧ okx t1 x = okx t x) → (∀ j ∈ rd, h1 j = h j) → Rel C used N t1 h1 ro φ a W → ∃ v, (execOp a.eval o).run P W = .ok (.value v) W ∧ Rep W ro φ h1 e v ∧ Sc used h1 e) : J P o ℓ t h ⟨e, rd, []⟩ := by
  intro C used N t1 h1 ro φ a W ht hh hu hd r K Q hK
  obtain ⟨v, h2, h3, h4⟩ := hex C used N t1 h1 ro φ a W (fun x hx => q22 ht hx) hh r
  unfold Oper.wp
  rw [h2]
  exact hK _ _ ro φ ((r.put h3 h4 hd).take fun j hj => .inl hj)
theorem q13 {W : World} {ro : Nat → Prop} {φ : Nat → Value} {x v : Value} (hr : Rep W ro φ h (.c (.v x)) v) : v = x := by
  cases hr with | c hr => cases hr with | v => rfl
theorem j3w (x : Operand) (ho : o.op = .move x ∨ o.op = .assign x) (hx : okx t x) : J P o ℓ t h ⟨ev t x, [], []⟩ := by
  refine J.val fun C used N t1 h1 ro φ a W ht hh r => ⟨a.eval x, ?_, ?_, ?_⟩
  · rcases ho with ho | ho <;> simp [execOp, ho]
  all_goals
    have hm : x ∈ o.op.operands := by rcases ho with ho | ho <;> simp [ho, Op.operands]
    obtain ⟨h2, h3⟩ := ht x hm
    rw [← h2]
  · exact q1c r x (h3 ▸ hx)
  · exact q3j r x (h3 ▸ hx)
theorem j5y (x : Operand) (u : Value) (v : Value) (hm : x ∈ o.op.operands) (hx : okx t x) (he : ev t x = .c (.v u)) (hone : v.oneCell' = true)
    (hex : ∀ (a : Act) (W : World), a.eval x = u → (execOp a.eval o).run P W = .ok (.value v) W) : J P o ℓ t h ⟨.c (.v v), [], []⟩ := by
  refine J.val fun C used N t1 h1 ro φ a W ht hh r => ⟨v, ?_, .c (.v hone), .c⟩
  obtain ⟨h2, h3⟩ := ht x hm
  exact hex a W (q13 (h := h1) (by rw [← he, ← h2]; exact q1c r x (h3 ▸ hx)))
theorem j3y (x y : Operand) (u u' : Value) (v : Value) (hm : x ∈ o.op.operands) (hm' : y ∈ o.op.operands) (hx : okx t x) (hy : okx t y) (he : ev t x = .c (.v u)) (he' : ev t y = .c (.v u')) (hone : v.oneCell' = true)
    (hex : ∀ (a : Act) (W : World), a.eval x = u → a.eval y = u' → (execOp a.eval o).run P W = .ok (.value v) W) : J P o ℓ t h ⟨.c (.v v), [], []⟩ := by
  refine J.val fun C used N t1 h1 ro φ a W ht hh r => ⟨v, ?_, .c (.v hone), .c⟩
  obtain ⟨h2, h3⟩ := ht x hm
  obtain ⟨h4, h5⟩ := ht y hm'
  exact hex a W (q13 (h := h1) (by rw [← he, ← h2]; exact q1c r x (h3 ▸ hx))) (q13 (h := h1) (by rw [← he', ← h4]; exact q1c r y (h5 ▸ hy)))
def q5z (b p q : Bool) : Bool := if b = true then p else q
theorem J_pick (c x y : Operand) (b p q : Bool) (ho : o.op = .pick c x y) (hc : okx t c) (hx : b = true → okx t x) (hy : b = false → okx t y)
    (ec : ev t c = .c (.v (.bool b))) (ex : ev t x = .c (.v (.bool p))) (ey : ev t y = .c (.v (.bool q))) : J P o ℓ t h ⟨.c (.v (.bool (q5z b p q))), [], []⟩ := by
  refine J.val fun C used N t1 h1 ro φ a W ht hh r => ⟨.bool (q5z b p q), ?_, .c (.v rfl), .c⟩
  obtain ⟨c2, c3⟩ := ht c (by simp [ho, Op.operands])
  obtain ⟨x2, x3⟩ := ht x (by simp [ho, Op.operands])
  obtain ⟨y2, y3⟩ := ht y (by simp [ho, Op.operands])
  have e1 := q13 (h := h1) (by rw [← ec, ← c2]; exact q1c r c (c3 ▸ hc))
  cases b with
  | true =>
    have e2 := q13 (h := h1) (by rw [← ex, ← x2]; exact q1c r x (x3 ▸ hx rfl))
    simp [execOp, ho, e1, asBool, e2, q5z]
  | false =>
    have e2 := q13 (h := h1) (by rw [← ey, ← y2]; exact q1c r y (y3 ▸ hy rfl))
    simp [execOp, ho, e1, asBool, e2, q5z]
theorem j3x (c x y : Operand) (b : Bool) (ho : o.op = .pick c x y) (hc : okx t c) (hx : okx t (if b = true then x else y)) (ec : ev t c = .c (.v (.bool b))) : J P o ℓ t h ⟨ev t (if b = true then x else y), [], []⟩ := by
  refine J.val fun C used N t1 h1 ro φ a W ht hh r => ⟨a.eval (if b = true then x else y), ?_, ?_, ?_⟩
  · obtain ⟨c2, c3⟩ := ht c (by simp [ho, Op.operands])
    have e1 := q13 (h := h1) (by rw [← ec, ← c2]; exact q1c r c (c3 ▸ hc))
    cases b <;> simp [execOp, ho, e1, asBool]
  all_goals
    have hm : (if b = true then x else y) ∈ o.op.operands := by cases b <;> simp [ho, Op.operands]
    obtain ⟨h2, h3⟩ := ht _ hm
    rw [← h2]
  · exact q1c r _ (h3 ▸ hx)
  · exact q3j r _ (h3 ▸ hx)

def binI (op : BinOp) (k : IntKind) (a b : Int) : Value :=
  match op with
  | .add => .int k (k.wrap (a + b)) | .sub => .int k (k.wrap (a - b)) | .mul => .int k (k.wrap (a * b))
  | .quo => .int k (k.wrap (a.tdiv b)) | .rem => .int k (a.tmod b)
  | .and => .int k (k.wrap ((BitVec.ofInt k.bits a &&& BitVec.ofInt k.bits b).toNat)) | .or => .int k (k.wrap ((BitVec.ofInt k.bits a ||| BitVec.ofInt k.bits b).toNat))
  | .xor => .int k (k.wrap ((BitVec.ofInt k.bits a ^^^ BitVec.ofInt k.bits b).toNat)) | .andNot => .int k (k.wrap ((BitVec.ofInt k.bits a &&& ~~~(BitVec.ofInt k.bits b)).toNat))
  | .shl => .int k (k.wrap (a * 2 ^ (min b.toNat k.bits))) | .shr => .int k (a.fdiv (2 ^ (min b.toNat k.bits)))
  | .eql => .bool (a == b) | .neq => .bool (a != b) | .lss => .bool (a < b) | .leq => .bool (a ≤ b) | .gtr => .bool (a > b) | .geq => .bool (a ≥ b)
def q5j (op : BinOp) (b : Int) : Prop := match op with | .quo | .rem => b ≠ 0 | .shl | .shr => 0 ≤ b | _ => True
def q5b (op : BinOp) : Bool := match op with | .shl | .shr => true | _ => false
theorem run_binI (op : BinOp) (ty : TypeId) (k k' : IntKind) (a b : Int) (hk : k = k' ∨ q5b op = true) (hok : q5j op b) (W : World) : (binOp op ty (.int k a) (.int k' b)).run P W = .ok (binI op k a b) W := by
  cases hs : q5b op with
  | true =>
    cases op <;> first
      | (simp [q5b] at hs; done)
      | (have : ¬ b < 0 := by simp only [q5j] at hok; omega
         simp [binOp, Op.shift, binI, this])
  | false =>
    obtain rfl : k = k' := by
      rcases hk with hk | hk
      · exact hk
      · rw [hs] at hk; simp at hk
    cases op <;> first
      | (simp [q5b] at hs; done)
      | (simp [binOp, binI, Op.intArith, Op.intBits, Op.intCmp]; done)
      | (simp only [q5j] at hok; simp [binOp, binI, Op.intDiv, hok])
def binS (op : BinOp) (a b : ByteArray) : Value :=
  match op with
  | .add => .string (a ++ b)
  | .eql => .bool (a.toList == b.toList) | .neq => .bool (!(a.toList == b.toList))
  | .lss => .bool (Op.bytesLess a.toList b.toList) | .leq => .bool (Op.bytesLess a.toList b.toList || a.toList == b.toList)
  | .gtr => .bool !(Op.bytesLess a.toList b.toList || a.toList == b.toList) | _ => .bool (!Op.bytesLess a.toList b.toList)
def q5k (op : BinOp) (a b : ByteArray) : Prop := match op with | .add => a.size + b.size ≤ 9223372036854775807 | .eql | .neq | .lss | .leq | .gtr | .geq => True | _ => False
theorem run_binS (op : BinOp) (ty : TypeId) (a b : ByteArray) (hok : q5k op a b) (W : World) : (binOp op ty (.string a) (.string b)).run P W = .ok (binS op a b) W := by
  cases op <;> first
    | (simp [q5k] at hok; done)
    | (simp [binOp, Op.stringOp, binS]; done)
    | (have : ¬ ((a.size : Int) + (b.size : Int) > IntKind.i64.max) := by
         simp only [q5k] at hok
         have : IntKind.i64.max = 9223372036854775807 := by decide
         omega
       simp only [binOp, Op.stringOp, binS, Int.natCast_add]
       rw [if_neg this]
       rfl)
def binV (op : BinOp) (x y : Value) : Value :=
  match x, y with
  | .int k a, .int _ b => binI op k a b
  | .string a, .string b => binS op a b
  | .bool a, .bool b => match op with | .eql => .bool (a == b) | _ => .bool (!(a == b))
  | .pointer none, .pointer none => match op with | .eql => .bool true | _ => .bool false
  | _, _ => .bool false
def q4s (P : Program) (op : BinOp) (ty : TypeId) (x y : Value) : Prop :=
  match x, y with
  | .int k _, .int k' b => (k = k' ∨ q5b op = true) ∧ q5j op b
  | .string a, .string b => q5k op a b
  | .bool _, .bool _ => (op = .eql ∨ op = .neq) ∧ (∃ T, tyA P ty = some T ∧ T.kind = 4)
  | .pointer none, .pointer none => (op = .eql ∨ op = .neq) ∧ (∃ T, tyA P ty = some T ∧ T.kind = 7)
  | _, _ => False
theorem run_binV (op : BinOp) (ty : TypeId) (x y : Value) (hok : q4s P op ty x y) (W : World) : (binOp op ty x y).run P W = .ok (binV op x y) W := by
  unfold q4s at hok
  split at hok
  · exact run_binI _ _ _ _ _ _ hok.1 hok.2 W
  · exact run_binS _ _ _ _ hok W
  · rename_i a b
    obtain ⟨h1, T, h2, h3⟩ := hok
    obtain ⟨d, i, h4, h5, rfl⟩ := q1v h2
    obtain rfl := kind_bool h3
    have he : (Op.equal ty (.bool a) (.bool b)).run P W = .ok (a == b) W := by
      show (Op.equalIn (9999 + 1) ty (.bool a) (.bool b)).run P W = _
      rw [Op.equalIn]
      simp [run_underlying h4]
    rcases h1 with rfl | rfl <;> simp [binOp, he, binV]
  · obtain ⟨h1, T, h2, h3⟩ := hok
    obtain ⟨d, i, h4, h5, rfl⟩ := q1v h2
    obtain ⟨e, rfl⟩ := j2o h3
    have he : (Op.equal ty (.pointer none) (.pointer none)).run P W = .ok true W := by
      show (Op.equalIn (9999 + 1) ty (.pointer none) (.pointer none)).run P W = _
      rw [Op.equalIn]
      simp [run_underlying h4]
    rcases h1 with rfl | rfl <;> simp [binOp, he, binV]
  · exact hok.elim
theorem z6t (op : BinOp) (ty : TypeId) (x y : Operand) (u v : Value) (hok : q4s P op ty u v) (W : World) : (eqGuard op ty x y u v).run P W = .ok () W := by
  unfold q4s at hok
  split at hok
  · cases op <;> simp [eqGuard]
  · cases op <;> simp [eqGuard]
  · cases op <;> simp [eqGuard]
  · cases op <;> simp [eqGuard]
  · exact hok.elim
theorem binV_one (op : BinOp) (x y : Value) : (binV op x y).oneCell' = true := by
  unfold binV
  split
  · cases op <;> rfl
  · cases op <;> rfl
  · split <;> rfl
  · split <;> rfl
  · rfl
theorem J_bin (op : BinOp) (ty ty' : TypeId) (x y : Operand) (u u' : Value) (ho : o.op = .binOp op ty x y ty') (hx : okx t x) (hy : okx t y) (ex : ev t x = .c (.v u)) (ey : ev t y = .c (.v u')) (hok : q4s P op ty u u') :
    J P o ℓ t h ⟨.c (.v (binV op u u')), [], []⟩ :=
  j3y x y u u' _ (by simp [ho, Op.operands]) (by simp [ho, Op.operands]) hx hy ex ey (binV_one _ _ _) fun a W h1 h2 => by
    simp [execOp, ho, h1, h2, z6t op ty x y u u' hok, run_binV op ty u u' hok]
def unV (op : UnOp) (x : Value) : Value :=
  match op, x with
  | .not, .bool b => .bool (!b)
  | .neg, .int k n => .int k (k.wrap (0 - n))
  | .xor, .int k n => .int k (k.wrap ((BitVec.ofInt k.bits (if k.signed then -1 else k.max) ^^^ BitVec.ofInt k.bits n).toNat))
  | _, _ => .bool false
def q5w (op : UnOp) (x : Value) : Prop :=
  match op, x with
  | .not, .bool _ | .neg, .int _ _ | .xor, .int _ _ => True
  | _, _ => False
theorem J_un (op : UnOp) (ty : TypeId) (x : Operand) (u : Value) (ho : o.op = .unOp op ty x) (hx : okx t x) (ex : ev t x = .c (.v u)) (hok : q5w op u) : J P o ℓ t h ⟨.c (.v (unV op u)), [], []⟩ := by
  refine j5y x u _ (by simp [ho, Op.operands]) hx ex ?_ fun a W h1 => ?_
  · cases op <;> cases u <;> rfl
  · cases op <;> cases u <;> first
      | (simp [q5w] at hok; done)
      | simp [execOp, ho, h1, Op.unary, unV, Op.intArith, Op.intBits]

theorem j8o (x : Operand) (i : Nat) (l : List AV) (y : AV) (ho : o.op = .extract x i) (hx : okx t x) (ex : ev t x = .tup l) (hi : l[i]? = some y) : J P o ℓ t h ⟨y, [], []⟩ := by
  refine J.val fun C used N t1 h1 ro φ a W ht hh r => ?_
  obtain ⟨h2, h3⟩ := ht x (by simp [ho, Op.operands])
  have hr := q1c r x (h3 ▸ hx)
  have hs := q3j r x (h3 ▸ hx)
  rw [h2, ex] at hr hs
  generalize hv : a.eval x = v at hr
  cases hr with
  | @tup _ vs hl hxx =>
    obtain ⟨u, hu⟩ : ∃ u, vs[i]? = some u := by
      have := (List.getElem?_eq_some_iff.1 hi).1
      exact ⟨vs[i]'(by omega), List.getElem?_eq_getElem _⟩
    refine ⟨u, ?_, hxx i y u hi hu, ?_⟩
    · simp [execOp, ho, hv, Instr.extract, hu]
    · cases hs with
      | tup hs => exact hs y (List.mem_of_getElem? hi)

def q4a (T : TyA) (e : List AV) (off : Nat) : AV := if T.row = true then .agg ((e.drop off).take T.size) else (e[off]?).getD .any
theorem J_load (ty : TypeId) (x : Operand) (T : TyA) (j n i off : Nat) (B : Blkd) (e : List AV) (ho : o.op = .load ty x) (hx : okx t x) (ex : ev t x = .ref j n i off) (hT : tyA P ty = some T) (hB : h j = some B) (hn : B.len = n) (he : B.elems[i]? = some e)
    (hs : off + T.size ≤ e.length) (h1 : T.row = false → T.size = 1) : J P o ℓ t h ⟨q4a T e off, [j], []⟩ := by
  refine J.val fun C used N t1 h1' ro φ a W ht hh r => ?_
  obtain ⟨h2, h3⟩ := ht x (by simp [ho, Op.operands])
  have hr := q1c r x (h3 ▸ hx)
  rw [h2, ex] at hr
  have hB1 : h1' j = some B := (hh j (by simp)).trans hB
  obtain ⟨b, vs, hb, hc, hl⟩ := (r.hp j B hB1).read he
  have hsc := (r.scH j B hB1).2 e (List.mem_of_getElem? he)
  generalize hv : a.eval x = v at hr
  cases hr with
  | ref _ hr =>
    obtain ⟨b', hb', rfl⟩ := hr B hB1 hn
    rw [hb] at hb'
    obtain rfl := Option.some.inj hb'
    have hvl := hl.1
    cases hrow : T.row with
    | true =>
      refine ⟨.agg ((vs.drop off).take T.size).toArray, ?_, ?_, ?_⟩
      · have := j5j (P := P) hT hrow (hc.sub off T.size) (by simp; omega)
        simp [execOp, ho, hv, this]
      · have := hl.sub off T.size
        simp only [q4a, hrow, if_true]
        exact .agg this.1 this.2
      · simp only [q4a, hrow, if_true]
        exact .agg fun x hx => hsc x (List.mem_of_mem_drop (List.mem_of_mem_take hx))
    | false =>
      have := h1 hrow
      have hlt : off < vs.length := by omega
      have hlt' : off < e.length := by omega
      have hcell := hc off hlt
      rw [List.getElem?_eq_getElem hlt] at hcell
      refine ⟨vs[off], ?_, ?_, ?_⟩
      · have := j5i (P := P) hT hrow hcell
        simp [execOp, ho, hv, this]
      · simp only [q4a, hrow, Bool.false_eq_true, if_false]
        rw [List.getElem?_eq_getElem hlt']
        exact hl.2 off _ _ (List.getElem?_eq_getElem hlt') (List.getElem?_eq_getElem hlt)
      · simp only [q4a, hrow, Bool.false_eq_true, if_false]
        rw [List.getElem?_eq_getElem hlt']
        exact hsc _ (List.getElem_mem _)
def q3m (T : TyA) (e : List PV) : AV := if T.row = true then .agg ((e.take T.size).map .c) else ((e[0]?).map .c).getD .any
theorem J_loadP (ty : TypeId) (x : Operand) (T : TyA) (e : List PV) (ho : o.op = .load ty x) (hx : okx t x) (ex : ev t x = .pp e) (hT : tyA P ty = some T) (hs : T.size ≤ e.length) (h1 : T.row = false → T.size = 1) : J P o ℓ t h ⟨q3m T e, [], []⟩ := by
  refine J.val fun C used N t1 h1' ro φ a W ht hh r => ?_
  obtain ⟨h2, h3⟩ := ht x (by simp [ho, Op.operands])
  have hr := q1c r x (h3 ▸ hx)
  rw [h2, ex] at hr
  generalize hv : a.eval x = v at hr
  cases hr with
  | @pp _ b off vs hb hc hl =>
    have hvl := hl.1
    cases hrow : T.row with
    | true =>
      refine ⟨.agg (vs.take T.size).toArray, ?_, ?_, ?_⟩
      · have := j5j (P := P) hT hrow (hc.sub 0 T.size) (by simp; omega)
        simp only [Nat.add_zero, List.drop_zero] at this
        simp [execOp, ho, hv, this]
      · have := hl.sub 0 T.size
        simp only [List.drop_zero] at this
        simp only [q3m, hrow, if_true]
        refine .agg (by simpa using this.1) fun j x v h1 h2 => ?_
        rw [List.getElem?_map] at h1
        cases hp : (e.take T.size)[j]? with
        | none => rw [hp] at h1; simp at h1
        | some p =>
          rw [hp] at h1
          obtain rfl := (Option.some.inj h1).symm
          exact .c (this.2 j p v hp h2)
      · simp only [q3m, hrow, if_true]
        refine .agg fun x hx => ?_
        obtain ⟨p, _, rfl⟩ := List.mem_map.1 hx
        exact .c
    | false =>
      have := h1 hrow
      have hlt : 0 < vs.length := by omega
      have hlt' : 0 < e.length := by omega
      have hcell := hc 0 hlt
      rw [List.getElem?_eq_getElem hlt, Nat.add_zero] at hcell
      refine ⟨vs[0], ?_, ?_, ?_⟩
      · have := j5i (P := P) hT hrow hcell
        simp [execOp, ho, hv, this]
      · simp only [q3m, hrow, Bool.false_eq_true, if_false]
        rw [List.getElem?_eq_getElem hlt']
        exact .c (hl.2 0 _ _ (List.getElem?_eq_getElem hlt') (List.getElem?_eq_getElem hlt))
      · simp only [q3m, hrow, Bool.false_eq_true, if_false]
        rw [List.getElem?_eq_getElem hlt']
        exact .c

theorem z2g {s : TypeId} {T F : TyA} (hT : tyA P s = some T) (hk : T.kind = 3) (f : Nat) (off : Nat) (ft : TypeId) (hf : T.flds[f]? = some (off, ft)) (hF : tyA P ft = some F) (hs : F.size ≠ 0) (b k : Nat) (W : World) :
    (Instr.fieldAt s (.pointer (some ⟨b, k, none⟩)) f).run P W = .ok (.pointer (some ⟨b, k + off, none⟩)) W := by
  obtain ⟨d, i, h1, h2, rfl⟩ := q1v hT
  obtain ⟨fs, rfl⟩ := j62 hk
  simp only [j13, List.getElem?_map] at hf
  cases hq : fs.toList[f]? with
  | none => rw [hq] at hf; simp at hf
  | some g =>
    rw [hq] at hf
    obtain ⟨rfl, rfl⟩ := Prod.mk.inj (Option.some.inj hf)
    have hq' : fs[f]? = some g := by simpa using hq
    simp [Instr.fieldAt, run_underlying h1, hq', Instr.sureAddr, fieldPlace, j2w hF, hs, q8g]
theorem J_field (s : TypeId) (x : Operand) (f : Nat) (T F : TyA) (j n i off o' : Nat) (ft : TypeId) (ho : o.op = .fieldAddr s x f) (hx : okx t x) (ex : ev t x = .ref j n i off) (hT : tyA P s = some T) (hk : T.kind = 3) (hf : T.flds[f]? = some (o', ft)) (hF : tyA P ft = some F) (hs : F.size ≠ 0)
    {B : Blkd} (hB : h j = some B) (hn : B.len = n) : J P o ℓ t h ⟨.ref j n i (off + o'), [j], []⟩ := by
  refine J.val fun C used N t1 h1 ro φ a W ht hh r => ?_
  obtain ⟨h2, h3⟩ := ht x (by simp [ho, Op.operands])
  have hr := q1c r x (h3 ▸ hx)
  have hsc := q3j r x (h3 ▸ hx)
  rw [h2, ex] at hr hsc
  have hB1 : h1 j = some B := (hh j (by simp)).trans hB
  generalize hv : a.eval x = v at hr
  cases hr with
  | ref _ hr =>
    obtain ⟨b', hb', rfl⟩ := hr B hB1 hn
    refine ⟨.pointer (some ⟨b', i * B.z + off + o', none⟩), by simp [execOp, ho, hv, z2g hT hk f o' ft hf hF hs], .ref rfl fun B' hB' hn' => ?_, ?_⟩
    · obtain rfl := Option.some.inj (hB1.symm.trans hB')
      exact ⟨b', hb', by rw [Nat.add_assoc]⟩
    · cases hsc with | ref hu hle => exact .ref hu hle
theorem j8p (s : TypeId) (x : Operand) (f : Nat) (T F : TyA) (e : List PV) (o' : Nat) (ft : TypeId) (ho : o.op = .fieldAddr s x f) (hx : okx t x) (ex : ev t x = .pp e) (hT : tyA P s = some T) (hk : T.kind = 3) (hf : T.flds[f]? = some (o', ft)) (hF : tyA P ft = some F) (hs : F.size ≠ 0) :
    J P o ℓ t h ⟨.pp (e.drop o'), [], []⟩ := by
  refine J.val fun C used N t1 h1 ro φ a W ht hh r => ?_
  obtain ⟨h2, h3⟩ := ht x (by simp [ho, Op.operands])
  have hr := q1c r x (h3 ▸ hx)
  rw [h2, ex] at hr
  generalize hv : a.eval x = v at hr
  cases hr with
  | @pp _ b off vs hb hc hl =>
    refine ⟨.pointer (some ⟨b, off + o', none⟩), by simp [execOp, ho, hv, z2g hT hk f o' ft hf hF hs], ?_, .pp⟩
    have h1 := hc.sub o' (vs.length - o')
    have h2 := hl.sub o' (vs.length - o')
    rw [List.take_of_length_le (by simp)] at h1
    rw [List.take_of_length_le (by simp [hl.1]), List.take_of_length_le (by simp)] at h2
    exact .pp hb h1 h2
theorem z2h {s : TypeId} {T E : TyA} (hT : tyA P s = some T) (hk : T.kind = 1) (hE : tyA P T.elem = some E) (b off len cap : Nat) (k : IntKind) (i : Int) (h0 : 0 ≤ i) (h1 : i < (len : Int)) (W : World) :
    (Instr.indexAt s (.slice (some ⟨b, off, none⟩) len cap) (.int k i)).run P W = .ok (.pointer (some ⟨b, off + i.toNat * E.size, none⟩)) W := by
  obtain ⟨d, ii, h2, h3, rfl⟩ := q1v hT
  obtain ⟨e, rfl⟩ := q57 hk
  simp only [q4l] at hE
  simp [Instr.indexAt, asIntOf, run_underlying h2, h0, h1, j2w hE, q8g]
theorem j8r (s : TypeId) (x y : Operand) (T E : TyA) (z : Nat) (es : List (List PV)) (k : IntKind) (i : Int) (ho : o.op = .indexAddr s x y) (hx : okx t x) (hy : okx t y) (ex : ev t x = .c (.sl z es)) (ey : ev t y = .c (.v (.int k i)))
    (hT : tyA P s = some T) (hk : T.kind = 1) (hE : tyA P T.elem = some E) (hz : E.size = z) (h0 : 0 ≤ i) (h1 : i < (es.length : Int)) : J P o ℓ t h ⟨.pp ((es[i.toNat]?).getD []), [], []⟩ := by
  refine J.val fun C used N t1 h1' ro φ a W ht hh r => ?_
  obtain ⟨h2, h3⟩ := ht x (by simp [ho, Op.operands])
  obtain ⟨h4, h5⟩ := ht y (by simp [ho, Op.operands])
  have hr := q1c r x (h3 ▸ hx)
  have ey' := q13 (h := h1') (by rw [← ey, ← h4]; exact q1c r y (h5 ▸ hy))
  rw [h2, ex] at hr
  generalize hv : a.eval x = v at hr
  cases hr with
  | c hp =>
    cases hp with
    | @sl _ _ aa c vss hn hc hnil ha hl hz1 hz2 hxx =>
      have hlt : i.toNat < es.length := by omega
      obtain ⟨b, off, rfl, hb, hcell⟩ := ha (by intro e; rw [e] at hlt; simp at hlt)
      have he : es[i.toNat]? = some es[i.toNat] := List.getElem?_eq_getElem hlt
      have hvs : vss[i.toNat]? = some (vss[i.toNat]'(by omega)) := List.getElem?_eq_getElem _
      refine ⟨.pointer (some ⟨b, off + i.toNat * z, none⟩), ?_, ?_, .pp⟩
      · simp [execOp, ho, hv, ey', z2h hT hk hE b off es.length c k i h0 h1, hz]
      · rw [he]
        refine .pp hb (hcell _ _ hvs) ⟨?_, fun j p v h1 h2 => hxx _ j _ _ p v he hvs h1 h2⟩
        rw [hz2 _ _ hvs]
        exact (hz1 _ _ he).symm
theorem j8s (s : TypeId) (x y : Operand) (T E : TyA) (j n : Nat) (B : Blkd) (k : IntKind) (i : Int) (ho : o.op = .indexAddr s x y) (hx : okx t x) (hy : okx t y) (ex : ev t x = .row j n) (ey : ev t y = .c (.v (.int k i)))
    (hT : tyA P s = some T) (hk : T.kind = 1) (hE : tyA P T.elem = some E) (hB : h j = some B) (hrow : B.row = true) (hn : B.len = n) (hz : E.size = B.z) (h0 : 0 ≤ i) (h1 : i < (n : Int)) : J P o ℓ t h ⟨.ref j n i.toNat 0, [j], []⟩ := by
  refine J.val fun C used N t1 h1' ro φ a W ht hh r => ?_
  obtain ⟨h2, h3⟩ := ht x (by simp [ho, Op.operands])
  obtain ⟨h4, h5⟩ := ht y (by simp [ho, Op.operands])
  have hr := q1c r x (h3 ▸ hx)
  have hsc := q3j r x (h3 ▸ hx)
  have ey' := q13 (h := h1') (by rw [← ey, ← h4]; exact q1c r y (h5 ▸ hy))
  rw [h2, ex] at hr hsc
  have hB1 : h1' j = some B := (hh j (by simp)).trans hB
  generalize hv : a.eval x = v at hr
  cases hr with
  | row _ hr =>
    obtain rfl := hr B hB1 hn
    have hlt : i.toNat < B.elems.length := by unfold Blkd.len at hn; omega
    obtain ⟨b, cur, hb, _, _, h6, _⟩ := (r.hp j B hB1).mem (List.getElem?_eq_getElem hlt)
    obtain ⟨cap, hφ, _⟩ := h6 hrow
    refine ⟨.pointer (some ⟨b, i.toNat * B.z, none⟩), ?_, .ref rfl fun B' hB' hn' => ?_, ?_⟩
    · have h1' : i < (B.len : Int) := by omega
      simp [execOp, ho, hv, ey', hφ, z2h hT hk hE b 0 B.len cap k i h0 h1', hz]
    · obtain rfl := Option.some.inj (hB1.symm.trans hB')
      exact ⟨b, hb, by simp⟩
    · cases hsc with | row hu hle => exact .ref hu hle
theorem q7j (ty tt : TypeId) (x : Operand) (T : TyA) (ho : o.op = .call { callee := .builtin .len, args := #[x], argTypes := #[ty] }) (hx : okx t x) (hT : tyA P ty = some T) (v : Int)
    (hv : (T.kind = 1 ∧ ((∃ z es, ev t x = .c (.sl z es) ∧ v = es.length) ∨ (∃ a n c, ev t x = .c (.v (.slice a n c)) ∧ v = n) ∨ (∃ j n B, ev t x = .row j n ∧ h j = some B ∧ B.len = n ∧ B.row = true ∧ v = n))) ∨ (T.kind = 2 ∧ ∃ s, ev t x = .c (.v (.string s)) ∧ v = s.size)) :
    J P o ℓ t h ⟨.c (.v (.int .i64 v)), (match ev t x with | .row j _ => [j] | _ => []), []⟩ := by
  refine J.val fun C used N t1 h1' ro φ a W ht hh r => ⟨.int .i64 v, ?_, .c (.v rfl), .c⟩
  obtain ⟨h2, h3⟩ := ht x (by simp [ho, Op.operands, Call.operands])
  have hr := q1c r x (h3 ▸ hx)
  obtain ⟨d, ii, h4, h5, rfl⟩ := q1v hT
  rw [h2] at hr
  generalize hq : a.eval x = u at hr
  rcases hv with ⟨hk, hv⟩ | ⟨hk, s, hv, hs⟩
  · obtain ⟨e, rfl⟩ := q57 hk
    have hu : ∃ aa n c, u = .slice aa n c ∧ v = (n : Int) := by
      rcases hv with ⟨z, es, he, hv⟩ | ⟨aa, n, c, he, hv⟩ | ⟨j, n, B, he, hB, hn, hrow, hv⟩
      · rw [he] at hr
        cases hr with | c hp => cases hp with | sl => exact ⟨_, _, _, rfl, hv⟩
      · rw [he] at hr
        exact ⟨aa, n, c, q13 hr, hv⟩
      · rw [he] at hr hh
        have hB1 : h1' j = some B := (hh j (by simp)).trans hB
        cases hr with
        | row _ hr =>
          have := hr B hB1 hn
          obtain ⟨_, _, vs, _, h7⟩ := r.hp j B hB1
          rw [if_pos hrow] at h7
          rcases h7.2 with ⟨h8, h9⟩ | ⟨g, cap, cur, h8, _⟩
          · exact ⟨none, 0, 0, by rw [this, h8], by omega⟩
          · exact ⟨_, _, _, by rw [this, h8], by omega⟩
    obtain ⟨aa, n, c, rfl, rfl⟩ := hu
    simp [execOp, ho, resolve, invoke, builtin, hq, Builtin.len_, run_underlying h4, goInt]
  · obtain rfl := q8t hk
    rw [hv] at hr
    obtain rfl := q13 hr
    simp [execOp, ho, resolve, invoke, builtin, hq, Builtin.len_, run_underlying h4, goInt, hs]
end

end Go.Proofs.YthkofkaocipomaaGreatDoor

namespace Go.Proofs.YthkofkaocipomaaGreatDoor
open Go.RowKit
set_option linter.unusedVariables false
set_option linter.unusedSimpArgs false

section
variable {P : Program} {o : Oper} {ℓ : Nat} {t : Nat → AV} {h : Nat → Option Blkd}
theorem j2p (ℓ : Nat) : lab ℓ ℓ := ⟨Nat.le_refl _, by omega⟩
theorem Keeps.alloc (md : Nat → Prop) (W : World) (o : Obj) : Keeps md W (W.alloc o) := ⟨rfl, rfl, rfl, by simp, fun k hk _ => heap_alloc_old W o hk⟩
theorem RepL.nest {W : World} {ro : Nat → Prop} {φ : Nat → Value} {cells : List AV} {vs : List Value} (r : RepL W ro φ h cells vs) : RepL W ro φ h [cells].flatten vs := by simpa using r
theorem J.var {cells : List AV} {T : TypeId} {rd : List Nat} (hc : ∀ x ∈ cells, x.cellish = true)
    (hex : ∀ (C : Ctx P) (used : Nat → Prop) (N : Nat) (t1 : Nat → AV) (h1 : Nat → Option Blkd) (ro : Nat → Prop) (φ : Nat → Value) (a : Act) (W : World),
      (∀ x, x ∈ o.op.operands → ev t1 x = ev t x ∧ okx t1 x = okx t x) → (∀ j ∈ rd, h1 j = h j) → Rel C used N t1 h1 ro φ a W →
      ∃ vs : List Value, (execOp a.eval o).run P W = .ok (.value (.pointer (some ⟨W.heap.size, 0, none⟩))) (W.alloc (.cells vs.toArray T)) ∧ RepL W ro φ h1 cells vs ∧ ScL used h1 cells) :
    J P o ℓ t h ⟨.ref ℓ 1 0 0, rd, [(ℓ, some ⟨false, T, cells.length, [cells]⟩)]⟩ := by
  intro C used N t1 h1 ro φ a W ht hh hu hd r K Q hK
  obtain ⟨vs, h2, h3, h4⟩ := hex C used N t1 h1 ro φ a W (fun x hx => q22 ht hx) hh r
  unfold Oper.wp
  rw [h2]
  have hnu := hu ℓ (j2p ℓ)
  have hno : ∀ B0, h1 ℓ ≠ some B0 := fun B0 hB => hnu (r.scH ℓ B0 hB).1
  have hg : Goes used φ (upd φ ℓ (.pointer (some ⟨W.heap.size, 0, none⟩))) h1 (upd h1 ℓ (some ⟨false, T, cells.length, [cells]⟩)) := by
    intro j B' hj hB'
    by_cases he : j = ℓ
    · exact absurd (he ▸ hj) hnu
    · rw [q1p _ _ he] at hB'
      exact ⟨B', hB', .inr ⟨rfl, rfl, q1p _ _ he⟩⟩
  have hsg : ∀ j B', used j → upd h1 ℓ (some ⟨false, T, cells.length, [cells]⟩) j = some B' → ∃ B0, h1 j = some B0 ∧ B0.len ≤ B'.len := fun j B' hj hB' => by
    obtain ⟨B0, h5, h6⟩ := hg j B' hj hB'
    exact ⟨B0, h5, by rcases h6 with h6 | h6 <;> omega⟩
  have hwo : ∀ b, ro b → (W.alloc (.cells vs.toArray T)).heap[b]? = W.heap[b]? := fun b hb => heap_alloc_old W _ (r.rolt b hb)
  have r2 := r.block (W' := W.alloc (.cells vs.toArray T)) (ℓ := ℓ) (B := ⟨false, T, cells.length, [cells]⟩) (v := .pointer (some ⟨W.heap.size, 0, none⟩))
    (Keeps.alloc _ _ _) (fun b hb => .inl (by simp [q0y] at hb; omega)) (.inr hnu)
    ⟨fun i e he => by cases i with | zero => simp at he; simp [← he] | succ i => simp at he,
      fun e he x hx => by simp at he; subst he; exact hc x hx,
      vs, (h3.map h4 hwo (fun _ h => h) hg).nest, by
        rw [if_neg (by simp)]
        exact ⟨W.heap.size, by rw [q1a], heap_alloc_new W _⟩⟩
    (fun e he x hx => by simp at he; subst he; exact (h4 x hx).map (fun j hj => .inl hj) hsg)
  have r3 := r2.put (d := o.dst) (x := .ref ℓ 1 0 0) (v := .pointer (some ⟨W.heap.size, 0, none⟩))
    (.ref rfl fun B hB hn => by
      rw [q1a] at hB
      obtain rfl := Option.some.inj hB
      exact ⟨W.heap.size, by rw [q1a]; rfl, by simp⟩)
    (.ref (.inr rfl) fun B hB => by
      rw [q1a] at hB
      obtain rfl := Option.some.inj hB
      simp [Blkd.len]) hd
  exact hK _ _ ro _ (r3.take fun j hj => by
    rcases hj with hj | rfl
    · exact .inl hj
    · exact .inr (j2p _))
theorem j3v {i : TypeInfo} (hs : ((i.zero.map fun z => z.cells.toList).getD []) ≠ []) : ∃ z, i.zero = some z ∧ ((i.zero.map fun z => z.cells.toList).getD []) = z.cells.toList := by
  cases hz : i.zero with
  | none => rw [hz] at hs; simp at hs
  | some z => exact ⟨z, rfl, rfl⟩
def q2d (T : TyA) : List AV := T.zero.map fun v => .c (.v v)
theorem j44 {W : World} {ro : Nat → Prop} {φ : Nat → Value} {l : List Value} (hl : l.all (·.oneCell') = true) : RepL W ro φ h (l.map fun v => .c (.v v)) l := by
  refine ⟨by simp, fun j x v h1 h2 => ?_⟩
  rw [List.getElem?_map, h2] at h1
  obtain rfl := Option.some.inj h1
  exact .c (.v (List.all_eq_true.1 hl v (List.mem_of_getElem? h2)))
theorem j53 (l : List Value) : ∀ x ∈ l.map (fun v => AV.c (.v v)), x.cellish = true := by
  intro x hx
  obtain ⟨v, _, rfl⟩ := List.mem_map.1 hx
  rfl
theorem J_alloc (ty : TypeId) (T : TyA) (ho : o.op = .alloc ty) (hT : tyA P ty = some T) (hz : T.zero ≠ []) (hone : T.zero.all (·.oneCell') = true) :
    J P o ℓ t h ⟨.ref ℓ 1 0 0, [], [(ℓ, some ⟨false, ty, (q2d T).length, [q2d T]⟩)]⟩ := by
  refine J.var (j53 _) fun C used N t1 h1 ro φ a W ht hh r => ⟨T.zero, ?_, j44 hone, fun x hx => ?_⟩
  · obtain ⟨d, i, h2, h3, rfl⟩ := q1v hT
    obtain ⟨z, h4, h5⟩ := j3v hz
    simp only [] at h5 ⊢
    rw [h5]
    simp [execOp, ho, Instr.alloc, zeroValue, j7x h3, h4, newVar, newRow]
  · obtain ⟨v, _, rfl⟩ := List.mem_map.1 hx
    exact .c
def q00 : AV → List AV | .agg l => l | x => [x]
theorem cells_one {v : Value} (hv : v.oneCell' = true) : v.cells.toList = [v] := by cases v <;> first | rfl | (simp [Value.oneCell'] at hv)
theorem RepL.single {W : World} {ro : Nat → Prop} {φ : Nat → Value} {x : AV} {v : Value} (hr : Rep W ro φ h x v) : RepL W ro φ h [x] [v] :=
  ⟨rfl, fun j y u h1 h2 => by
    cases j with
    | zero => simp at h1 h2; subst h1 h2; exact hr
    | succ j => simp at h1⟩
theorem RepL.ones {W : World} {ro : Nat → Prop} {φ : Nat → Value} {l : List AV} {vs : List Value} (hl : RepL W ro φ h l vs) (hc : ∀ y ∈ l, y.cellish = true) : ∀ u ∈ vs, u.oneCell' = true := by
  intro u hu
  obtain ⟨j, hj, hju⟩ := List.getElem_of_mem hu
  have hjl : j < l.length := by rw [← hl.1]; exact hj
  exact (hl.2 j _ u (List.getElem?_eq_getElem hjl) (by rw [List.getElem?_eq_getElem hj, hju])).one (hc _ (List.getElem_mem _))
theorem j54 {W : World} {ro : Nat → Prop} {φ : Nat → Value} {x : AV} {v : Value} (hr : Rep W ro φ h x v) (hc : ∀ y ∈ q00 x, y.cellish = true) : RepL W ro φ h (q00 x) v.cells.toList := by
  by_cases hx : x.cellish = true
  · have he : q00 x = [x] := by cases x <;> first | rfl | (simp [AV.cellish] at hx)
    rw [he, cells_one (hr.one hx)]
    exact RepL.single hr
  · cases hr with
    | agg hl hxx => exact ⟨by simpa [q00, Value.cells] using hl, fun j x v h1 h2 => hxx j x v h1 (by simpa [Value.cells] using h2)⟩
    | any => exact absurd (hc _ (by simp [q00])) hx
    | tup => exact absurd (hc _ (by simp [q00])) hx
    | opt => exact absurd (hc _ (by simp [q00])) hx
    | _ => simp [AV.cellish] at hx
theorem j39 {used : Nat → Prop} {x : AV} (hs : Sc used h x) : ScL used h (q00 x) := by
  cases hs with
  | agg hx => exact hx
  | any => intro y hy; simp [q00] at hy; subst hy; exact .any
  | c => intro y hy; simp [q00] at hy; subst hy; exact .c
  | ref a b => intro y hy; simp [q00] at hy; subst hy; exact .ref a b
  | row a b => intro y hy; simp [q00] at hy; subst hy; exact .row a b
  | pp => intro y hy; simp [q00] at hy; subst hy; exact .pp
  | tup a => intro y hy; simp [q00] at hy; subst hy; exact .tup a
  | opt a => intro y hy; simp [q00] at hy; subst hy; exact .opt a
  | fn a b => intro y hy; simp [q00] at hy; subst hy; exact .fn a b
theorem J_box (ty : TypeId) (x : Operand) (ho : o.op = .box ty x) (hx : okx t x) (hc : ∀ y ∈ q00 (ev t x), y.cellish = true) :
    J P o ℓ t h ⟨.ref ℓ 1 0 0, [], [(ℓ, some ⟨false, ty, (q00 (ev t x)).length, [q00 (ev t x)]⟩)]⟩ := by
  refine J.var hc fun C used N t1 h1 ro φ a W ht hh r => ⟨(a.eval x).cells.toList, ?_, ?_, ?_⟩
  · simp [execOp, ho, Instr.box, newVar, newRow]
  all_goals obtain ⟨h2, h3⟩ := ht x (by simp [ho, Op.operands])
  · rw [← h2] at hc ⊢
    exact j54 (q1c r x (h3 ▸ hx)) hc
  · rw [← h2]
    exact j39 (q3j r x (h3 ▸ hx))

theorem z62 {α : Type} (l u : List α) (o n : Nat) (h1 : o + u.length ≤ n) (h2 : n ≤ l.length) : (l.take o ++ u ++ l.drop (o + u.length)).take n = (l.take n).take o ++ u ++ (l.take n).drop (o + u.length) := by
  rw [List.take_take, show min o n = o from by omega, List.take_append]
  congr 1
  · rw [List.take_of_length_le]
    simp
    omega
  · simp only [List.length_append, List.length_take]
    rw [List.drop_take]
    congr 1
    omega
theorem RepL.app {W : World} {ro : Nat → Prop} {φ : Nat → Value} {l m : List AV} {vs us : List Value} (r : RepL W ro φ h l vs) (s : RepL W ro φ h m us) : RepL W ro φ h (l ++ m) (vs ++ us) := by
  refine ⟨by simp [r.1, s.1], fun j x v h1 h2 => ?_⟩
  rcases Nat.lt_or_ge j l.length with hj | hj
  · rw [List.getElem?_append_left hj] at h1
    rw [List.getElem?_append_left (by rw [r.1]; exact hj)] at h2
    exact r.2 j x v h1 h2
  · rw [List.getElem?_append_right hj] at h1
    rw [List.getElem?_append_right (by rw [r.1]; exact hj), r.1] at h2
    exact s.2 _ x v h1 h2
theorem RepL.take {W : World} {ro : Nat → Prop} {φ : Nat → Value} {l : List AV} {vs : List Value} (r : RepL W ro φ h l vs) (n : Nat) : RepL W ro φ h (l.take n) (vs.take n) := by simpa using r.sub 0 n
theorem RepL.drop {W : World} {ro : Nat → Prop} {φ : Nat → Value} {l : List AV} {vs : List Value} (r : RepL W ro φ h l vs) (n : Nat) : RepL W ro φ h (l.drop n) (vs.drop n) := by
  have := r.sub n l.length
  rwa [List.take_of_length_le (by simp), List.take_of_length_le (by simp [r.1])] at this
def setE (B : Blkd) (i : Nat) (e : List AV) (off : Nat) (cs : List AV) : Blkd := ⟨B.row, B.T, B.z, B.elems.set i (e.take off ++ cs ++ e.drop (off + cs.length))⟩
theorem Keeps.setRow {md : Nat → Prop} (W : World) (g : Nat) (cs : Array Value) (hm : md g) : Keeps md W (W.setRow g cs) :=
  ⟨rfl, rfl, rfl, by simp, fun k hk hn => setRow_other W g k cs (fun e => hn (e ▸ hm))⟩
theorem J_store (ty : TypeId) (x y : Operand) (T : TyA) (j n i off : Nat) (B : Blkd) (e : List AV) (ho : o.op = .store ty x y) (hx : okx t x) (hy : okx t y) (ex : ev t x = .ref j n i off) (hT : tyA P ty = some T) (hB : h j = some B) (hn : B.len = n) (he : B.elems[i]? = some e)
    (hc : ∀ c ∈ q00 (ev t y), c.cellish = true) (hs : (q00 (ev t y)).length = T.size) (hfit : off + T.size ≤ e.length) : J P o ℓ t h ⟨.any, [j], [(j, some (setE B i e off (q00 (ev t y))))]⟩ := by
  intro C used N t1 h1 ro φ a W ht hh hu hd r K Q hK
  obtain ⟨h2, h3⟩ := q22 ht (x := x) (by simp [ho, Op.operands])
  obtain ⟨h4, h5⟩ := q22 ht (x := y) (by simp [ho, Op.operands])
  have hr := q1c r x (h3 ▸ hx)
  rw [h2, ex] at hr
  have hry := j54 (q1c r y (h5 ▸ hy)) (by rw [h4]; exact hc)
  have hsy := j39 (q3j r y (h5 ▸ hy))
  rw [h4] at hry hsy
  have hB1 : h1 j = some B := (hh j (by simp)).trans hB
  have hBr := r.hp j B hB1
  obtain ⟨b, cur, hb, hcur, hbox, hrow, hle, hl⟩ := hBr.mem he
  generalize hv : a.eval x = v at hr
  generalize hw : a.eval y = w at hry
  generalize hcs : q00 (ev t y) = cs at hc hs hry hsy hK
  have hel : e.length = B.z := hBr.1 i e he
  have hi : i < B.len := (List.getElem?_eq_some_iff.1 he).1
  have hiz : i * B.z + B.z ≤ B.len * B.z := by
    have := Nat.mul_le_mul_right B.z (show i + 1 ≤ B.len from hi)
    rw [Nat.add_mul, Nat.one_mul] at this
    exact this
  have hvl : w.cells.toList.length = T.size := by rw [hry.1, hs]
  have hvl' : w.cells.size = T.size := by simpa using hvl
  cases hr with
  | ref _ hr =>
    obtain ⟨b', hb', rfl⟩ := hr B hB1 hn
    rw [hb] at hb'
    obtain rfl := Option.some.inj hb'
    have hst := run_storeCells_at P b (i * B.z + off) B.T w.cells.toList 0 cur W hcur (by rw [hvl]; omega) (hry.ones hc)
    simp only [Nat.add_zero] at hst
    generalize hL : (cur.toList.take (i * B.z + off) ++ w.cells.toList ++ cur.toList.drop (i * B.z + off + w.cells.toList.length)) = L at hst
    unfold Oper.wp
    have hex : (execOp a.eval o).run P W = .ok .skip (W.setRow b L.toArray) := by
      simp [execOp, ho, hv, hw, Instr.storeAt, Instr.sureAddr, storeVar, j2w hT, hvl', hst]
    rw [hex]
    generalize hW' : W.setRow b L.toArray = W'
    have hheap : W'.heap[b]? = some (.cells L.toArray B.T (0, 0)) := by
      rw [← hW']; exact setRow_heap W b cur _ B.T (0, 0) hcur
    have hsize : L.length = cur.size := by
      rw [← hL]
      simp only [List.length_append, List.length_take, List.length_drop, Array.length_toList, hvl]
      omega
    have hnro : ∀ b', ro b' → b' ≠ b := fun b' hb' e => (r.own j B b hB1 hb).1 (e ▸ hb')
    have hwo : ∀ b', ro b' → W'.heap[b']? = W.heap[b']? := fun b' hb' => by rw [← hW']; exact setRow_other W b b' _ (hnro b' hb')
    have hg : Goes used φ (upd φ j (φ j)) h1 (upd h1 j (some (setE B i e off cs))) := by
      intro k B' hk hB'
      by_cases hkj : k = j
      · subst hkj
        rw [q1a] at hB'
        obtain rfl := Option.some.inj hB'
        exact ⟨B, hB1, .inr ⟨by simp [setE, Blkd.len], rfl, q1a _ _ _⟩⟩
      · rw [q1p _ _ hkj] at hB'
        exact ⟨B', hB', .inr ⟨rfl, rfl, q1p _ _ hkj⟩⟩
    have hsg : ∀ k B', used k → upd h1 j (some (setE B i e off cs)) k = some B' → ∃ B0, h1 k = some B0 ∧ B0.len ≤ B'.len := fun k B' hk hB' => by
      obtain ⟨B0, h5, h6⟩ := hg k B' hk hB'
      exact ⟨B0, h5, by rcases h6 with h6 | h6 <;> omega⟩
    have hmem : ∀ e' ∈ (setE B i e off cs).elems, e' ∈ B.elems ∨ e' = e.take off ++ cs ++ e.drop (off + cs.length) := fun e' he' => List.mem_or_eq_of_mem_set he'
    have hee := List.mem_of_getElem? he
    have hnewflat : (setE B i e off cs).elems.flatten = (B.elems.flatten).take (i * B.z + off) ++ cs ++ (B.elems.flatten).drop (i * B.z + off + cs.length) := by
      have h10 := flatSet (e' := e.take off ++ cs ++ e.drop (off + cs.length)) hBr.1 he
      have h11 := q6k hBr.1 he
      simp only [setE]
      rw [h10, ← h11]
      have e1 : (List.take (i * B.z + off) B.elems.flatten) = List.take (i * B.z) B.elems.flatten ++ List.take off (List.take B.z (List.drop (i * B.z) B.elems.flatten)) := by
        rw [List.take_take, show min off B.z = off from by omega, ← List.take_add]
      have e2 : List.drop (i * B.z + off + cs.length) B.elems.flatten = List.drop (off + cs.length) (List.take B.z (List.drop (i * B.z) B.elems.flatten)) ++ List.drop (i * B.z + B.z) B.elems.flatten := by
        rw [List.drop_take, List.drop_drop]
        have := List.take_append_drop (B.z - (off + cs.length)) (List.drop (i * B.z + (off + cs.length)) B.elems.flatten)
        rw [List.drop_drop, show i * B.z + (off + cs.length) + (B.z - (off + cs.length)) = i * B.z + B.z from by omega] at this
        rw [Nat.add_assoc]
        exact this.symm
      rw [e1, e2]
      simp only [List.append_assoc]
    have hrepl : RepL W ro φ h1 (setE B i e off cs).elems.flatten (L.take (B.len * B.z)) := by
      rw [← hL, z62 _ _ _ _ (by rw [hvl]; omega) (by simpa using hle), hnewflat, hs, hvl]
      exact ((hl.take _).app hry).app (hl.drop _)
    have r2 := r.block (W' := W') (ℓ := j) (B := setE B i e off cs) (v := φ j)
      (by rw [← hW']; exact Keeps.setRow W b _ (.inl hb)) (fun b' hb' => .inr ⟨B, hB1, hb'⟩) (.inl ⟨B, hB1, .inr ⟨by simp [setE, Blkd.len], rfl, rfl⟩⟩)
      ⟨fun i' e' he' => ?_, fun e' he' x hx => ?_, _, hrepl.map (fun x hx => ?_) hwo (fun _ h => h) hg, ?_⟩ (fun e' he' x hx => ?_)
    · have r3 := r2.any o.dst undef hd
      rw [show upd φ j (φ j) = φ from funext fun k => by unfold upd; split <;> simp_all] at r3
      exact hK _ _ ro _ (r3.take fun k hk => by
        rcases hk with hk | rfl
        · exact .inl hk
        · exact .inl (r.scH _ B hB1).1)
    · rcases hmem e' (List.mem_of_getElem? he') with h6 | h6
      · obtain ⟨k, hk, hke⟩ := List.getElem_of_mem h6
        exact hBr.1 k e' (by rw [List.getElem?_eq_getElem hk, hke])
      · subst h6
        simp only [setE, List.length_append, List.length_take, List.length_drop]
        omega
    · rcases hmem e' he' with h6 | h6
      · exact hBr.2.1 e' h6 x hx
      · subst h6
        simp only [List.mem_append] at hx
        rcases hx with (hx | hx) | hx
        · exact hBr.2.1 e hee x (List.mem_of_mem_take hx)
        · exact hc x hx
        · exact hBr.2.1 e hee x (List.mem_of_mem_drop hx)
    · obtain ⟨e', he', hx⟩ := List.mem_flatten.1 hx
      rcases hmem e' he' with h6 | h6
      · exact (r.scH j B hB1).2 e' h6 x hx
      · subst h6
        simp only [List.mem_append] at hx
        rcases hx with (hx | hx) | hx
        · exact (r.scH j B hB1).2 e hee x (List.mem_of_mem_take hx)
        · exact hsy x hx
        · exact (r.scH j B hB1).2 e hee x (List.mem_of_mem_drop hx)
    · rw [q1a]
      cases hrw : B.row with
      | true =>
        rw [if_pos (show (setE B i e off cs).row = true from hrw)]
        obtain ⟨cap, h6, h7, h8, h9⟩ := hrow hrw
        rw [h6]
        refine ⟨?_, .inr ⟨b, cap, _, by simp [setE, Blkd.len], Nat.zero_le _, hheap, by simpa [setE, Blkd.len] using h7, h8, by simpa [setE, h9] using hsize, ?_⟩⟩
        · rw [List.length_take, hsize]
          simp only [setE, Blkd.len, List.length_set] at hle ⊢
          omega
        · simp [setE, Blkd.len]
      | false =>
        rw [if_neg (by simp [setE, hrw])]
        obtain ⟨h6, h7⟩ := hbox hrw
        refine ⟨b, h6, ?_⟩
        rw [hheap, List.take_of_length_le (by rw [hsize, h7]; exact Nat.le_refl _)]
        rfl
    · rcases hmem e' he' with h6 | h6
      · exact ((r.scH j B hB1).2 e' h6 x hx).map (fun k hk => .inl hk) hsg
      · subst h6
        simp only [List.mem_append] at hx
        rcases hx with (hx | hx) | hx
        · exact ((r.scH j B hB1).2 e hee x (List.mem_of_mem_take hx)).map (fun k hk => .inl hk) hsg
        · exact (hsy x hx).map (fun k hk => .inl hk) hsg
        · exact ((r.scH j B hB1).2 e hee x (List.mem_of_mem_drop hx)).map (fun k hk => .inl hk) hsg
end

end Go.Proofs.YthkofkaocipomaaGreatDoor

namespace Go.Proofs.YthkofkaocipomaaGreatDoor
open Go.RowKit
set_option linter.unusedVariables false
set_option linter.unusedSimpArgs false

section
variable {P : Program} {o : Oper} {ℓ : Nat} {t : Nat → AV} {h : Nat → Option Blkd}
def q4o {α : Type} (l : List α) (off : Nat) (cs : List α) : List α := l.take off ++ cs ++ l.drop (off + cs.length)
theorem seg_fold (off : Nat) (us : Array Value) (cells : Array Value) (hf : off + us.size ≤ cells.size) :
    us.zipIdx.foldl (fun cs (x : Value × Nat) => cs.setIfInBounds (off + x.2) x.1) cells = (q4o cells.toList off us.toList).toArray := by
  have h := Great.foldl_set off us.toList 0 cells
  have e : us.zipIdx.foldl (fun cs (x : Value × Nat) => cs.setIfInBounds (off + x.2) x.1) cells = (us.toList.zipIdx 0).foldl (fun cs (x : Value × Nat) => cs.setIfInBounds (off + x.2) x.1) cells := by
    rw [← Array.foldl_toList, Array.toList_zipIdx]
  rw [e]
  apply Array.ext_getElem?
  intro k
  rw [h.2 k]
  simp only [q4o, List.getElem?_toArray, List.getElem?_append, List.length_take, List.length_append, Array.length_toList, List.getElem?_take, List.getElem?_drop, Nat.add_zero]
  have hm : min off cells.size = off := by omega
  rw [hm]
  by_cases h1 : k < off
  · rw [if_neg (by omega), if_pos (by omega), if_pos h1, if_pos h1]
    simp
  · by_cases h2 : k < off + us.size
    · rw [if_pos (by omega), if_pos h2, if_neg h1]
    · rw [if_neg (by omega), if_neg h2]
      simp
      congr 1
      omega
def q41 (place : Nat → Nat) (l : List AV) (ps : List (Nat × AV)) : List AV := ps.foldl (fun l p => q4o l (place p.1) (q00 p.2)) l
theorem j6h {W : World} {ro : Nat → Prop} {φ : Nat → Value} (place : Nat → Option (Nat × Nat)) (pl : Nat → Nat) : ∀ (ps : List (Nat × AV)) (vs : List (Nat × Value)) (l : List AV) (cells : Array Value),
    RepL W ro φ h l cells.toList → ps.map (·.1) = vs.map (·.1) → (∀ (j : Nat) (p : Nat × AV) (v : Nat × Value), ps[j]? = some p → vs[j]? = some v → Rep W ro φ h p.2 v.2) → (∀ p ∈ ps, (∀ c ∈ q00 p.2, c.cellish = true) ∧ place p.1 = some (pl p.1, (q00 p.2).length) ∧ pl p.1 + (q00 p.2).length ≤ l.length) →
    ∃ r, Instr.fill place cells vs = some r ∧ RepL W ro φ h (q41 pl l ps) r.toList
  | [], [], l, cells, hl, _, _, _ => ⟨cells, rfl, hl⟩
  | [], _ :: _, _, _, _, he, _, _ => by simp at he
  | _ :: _, [], _, _, _, he, _, _ => by simp at he
  | p :: ps, v :: vs, l, cells, hl, he, hr, hc => by
    simp only [List.map_cons, List.cons.injEq] at he
    obtain ⟨hc1, hc2, hc3⟩ := hc p (by simp)
    have h1 := j54 (hr 0 p v rfl rfl) hc1
    have hlen : cells.size = l.length := by simpa using hl.1
    have hvl : v.2.cells.size = (q00 p.2).length := by simpa using h1.1
    have hseg := seg_fold (pl p.1) v.2.cells cells (by omega)
    obtain ⟨r, h2, h3⟩ := j6h place pl ps vs (q4o l (pl p.1) (q00 p.2)) (q4o cells.toList (pl p.1) v.2.cells.toList).toArray
      (by
        simp only [q4o]
        rw [show v.2.cells.toList.length = (q00 p.2).length from h1.1]
        exact ((hl.take _).app h1).app (hl.drop _)) he.2 (fun j q u h4 h5 => hr (j + 1) q u (by simpa using h4) (by simpa using h5))
      (fun q hq => by
        obtain ⟨a1, a2, a3⟩ := hc q (by simp [hq])
        refine ⟨a1, a2, ?_⟩
        simp only [q4o, List.length_append, List.length_take, List.length_drop]
        omega)
    refine ⟨r, ?_, h3⟩
    obtain ⟨v1, v2⟩ := v
    simp only at he hvl hseg h2 ⊢
    unfold Instr.fill
    rw [← he.1, hc2]
    simp only []
    rw [if_neg (by simp; omega)]
    exact (congrArg (fun x => Instr.fill place x vs) hseg).trans h2
def pv (t : Nat → AV) (parts : Array (Nat × Operand)) : List (Nat × AV) := parts.toList.map fun p => (p.1, ev t p.2)
theorem pv_ops {parts : Array (Nat × Operand)} {t1 : Nat → AV} (hh : ∀ x, x ∈ (parts.toList.map (·.2)) → ev t1 x = ev t x ∧ okx t1 x = okx t x) : pv t1 parts = pv t parts := by
  unfold pv
  apply List.map_congr_left
  intro p hp
  rw [(hh p.2 (List.mem_map.2 ⟨p, hp, rfl⟩)).1]
theorem J_build (ty : TypeId) (parts : Array (Nat × Operand)) (T : TyA) (ho : o.op = .build ty parts) (hT : tyA P ty = some T) (hk : T.kind = 3) (hx : ∀ p ∈ parts.toList, okx t p.2) (hz : T.zero ≠ []) (hone : T.zero.all (·.oneCell') = true) (hpl : T.pls ≠ [])
    (hp : ∀ p ∈ pv t parts, (∀ c ∈ q00 p.2, c.cellish = true) ∧ T.pls[p.1]? = some ((((T.pls[p.1]?).map (·.1)).getD 0), (q00 p.2).length) ∧ ((T.pls[p.1]?).map (·.1)).getD 0 + (q00 p.2).length ≤ T.zero.length) :
    J P o ℓ t h ⟨.agg (q41 (fun i => ((T.pls[i]?).map (·.1)).getD 0) (q2d T) (pv t parts)), [], []⟩ := by
  refine J.val fun C used N t1 h1 ro φ a W ht hh r => ?_
  have hops : ∀ x, x ∈ (parts.toList.map (·.2)) → ev t1 x = ev t x ∧ okx t1 x = okx t x := fun x hx => ht x (by simpa [ho, Op.operands] using hx)
  have hpv := pv_ops (t := t) hops
  obtain ⟨d, i, h2, h3, rfl⟩ := q1v hT
  obtain ⟨fs, rfl⟩ := j62 hk
  obtain ⟨z, h4, h5⟩ := j3v hz
  simp only [j4b] at hpl hp ⊢
  cases hm : fs.toList.mapM (fun f => (P.info? f.type).map fun i => (f.offset, i.size)) with
  | none => rw [hm] at hpl; simp at hpl
  | some places =>
    rw [hm] at hpl hp
    simp only [Option.getD_some] at hpl hp ⊢
    have hz0 : RepL W ro φ h1 (z.cells.toList.map fun v => .c (.v v)) z.cells.toList := j44 (by rw [← h5]; exact hone)
    obtain ⟨c, h6, h7⟩ := j6h (h := h1) (W := W) (ro := ro) (φ := φ) (places.toArray[·]?) (fun i => ((places[i]?).map (·.1)).getD 0) (pv t parts) (parts.toList.map fun p => (p.1, a.eval p.2)) _ z.cells hz0 (by simp [pv])
      (fun j p v hj hj' => by
        rw [← hpv] at hj
        simp only [pv, List.getElem?_map] at hj hj'
        cases hq : parts.toList[j]? with
        | none => rw [hq] at hj; simp at hj
        | some q =>
          rw [hq] at hj hj'
          obtain rfl := Option.some.inj hj
          obtain rfl := Option.some.inj hj'
          have hmem := List.mem_of_getElem? hq
          exact q1c r q.2 ((hops q.2 (List.mem_map.2 ⟨q, hmem, rfl⟩)).2 ▸ hx q hmem))
      (fun p hpm => by
        obtain ⟨a1, a2, a3⟩ := hp p hpm
        refine ⟨a1, by simpa using a2, ?_⟩
        rw [h5] at a3
        simpa using a3)
    have hb : P.built ty (parts.toList.map fun p => (p.1, a.eval p.2)) = some c := by
      simp only [Program.built, h3, h2, h4, hm]
      exact h6
    refine ⟨.agg c, ?_, ?_, ?_⟩
    · have := run_build (P := P) W ty (parts.map fun (i, x) => (i, a.eval x)) c (by simpa using hb)
      simp [execOp, ho, this]
    · have e : c = c.toList.toArray := by simp
      rw [e]
      unfold q2d
      simp only []
      rw [h5]
      exact .agg h7.1 h7.2
    · refine .agg ?_
      have hsc : ∀ (ps : List (Nat × AV)) (l : List AV), (∀ x ∈ l, Sc used h1 x) → (∀ p ∈ ps, Sc used h1 p.2) → ∀ x ∈ q41 (fun i => ((places[i]?).map (·.1)).getD 0) l ps, Sc used h1 x := by
        intro ps
        induction ps with
        | nil => intro l hl _; exact hl
        | cons p ps ih =>
          intro l hl hps
          refine ih _ (fun x hx => ?_) (fun q hq => hps q (by simp [hq]))
          simp only [q4o, List.mem_append] at hx
          rcases hx with (hx | hx) | hx
          · exact hl x (List.mem_of_mem_take hx)
          · exact j39 (hps p (by simp)) x hx
          · exact hl x (List.mem_of_mem_drop hx)
      refine hsc _ _ (fun x hx => ?_) fun p hpm => ?_
      · obtain ⟨v, _, rfl⟩ := List.mem_map.1 hx
        exact .c
      · rw [← hpv] at hpm
        obtain ⟨q, hq, rfl⟩ := List.mem_map.1 hpm
        exact q3j r q.2 ((hops q.2 (List.mem_map.2 ⟨q, hq, rfl⟩)).2 ▸ hx q hq)
theorem J.rowNew {elems : List (List AV)} {T : TypeId} {z : Nat} {rd : List Nat} (hz : ∀ (i : Nat) (e : List AV), elems[i]? = some e → e.length = z) (hc : ∀ e ∈ elems, ∀ x ∈ e, x.cellish = true) (hmax : elems.length ≤ 4294967296)
    (hex : ∀ (C : Ctx P) (used : Nat → Prop) (N : Nat) (t1 : Nat → AV) (h1 : Nat → Option Blkd) (ro : Nat → Prop) (φ : Nat → Value) (a : Act) (W : World),
      (∀ x, x ∈ o.op.operands → ev t1 x = ev t x ∧ okx t1 x = okx t x) → (∀ j ∈ rd, h1 j = h j) → Rel C used N t1 h1 ro φ a W →
      ∃ vs : List Value, (execOp a.eval o).run P W = .ok (.value (.slice (some ⟨W.heap.size, 0, none⟩) elems.length elems.length)) (W.alloc (.cells vs.toArray T)) ∧ RepL W ro φ h1 elems.flatten vs ∧ ∀ e ∈ elems, ScL used h1 e) :
    J P o ℓ t h ⟨.row ℓ elems.length, rd, [(ℓ, some ⟨true, T, z, elems⟩)]⟩ := by
  intro C used N t1 h1 ro φ a W ht hh hu hd r K Q hK
  obtain ⟨vs, h2, h3, h4⟩ := hex C used N t1 h1 ro φ a W (fun x hx => q22 ht hx) hh r
  unfold Oper.wp
  rw [h2]
  have hnu := hu ℓ (j2p ℓ)
  have hno : ∀ B0, h1 ℓ ≠ some B0 := fun B0 hB => hnu (r.scH ℓ B0 hB).1
  have hg : Goes used φ (upd φ ℓ (.slice (some ⟨W.heap.size, 0, none⟩) elems.length elems.length)) h1 (upd h1 ℓ (some ⟨true, T, z, elems⟩)) := by
    intro j B' hj hB'
    by_cases he : j = ℓ
    · exact absurd (he ▸ hj) hnu
    · rw [q1p _ _ he] at hB'
      exact ⟨B', hB', .inr ⟨rfl, rfl, q1p _ _ he⟩⟩
  have hsg : ∀ j B', used j → upd h1 ℓ (some ⟨true, T, z, elems⟩) j = some B' → ∃ B0, h1 j = some B0 ∧ B0.len ≤ B'.len := fun j B' hj hB' => by
    obtain ⟨B0, h5, h6⟩ := hg j B' hj hB'
    exact ⟨B0, h5, by rcases h6 with h6 | h6 <;> omega⟩
  have hwo : ∀ b, ro b → (W.alloc (.cells vs.toArray T)).heap[b]? = W.heap[b]? := fun b hb => heap_alloc_old W _ (r.rolt b hb)
  have hvl : vs.length = elems.length * z := by rw [h3.1, q42 hz]
  have r2 := r.block (W' := W.alloc (.cells vs.toArray T)) (ℓ := ℓ) (B := ⟨true, T, z, elems⟩) (v := .slice (some ⟨W.heap.size, 0, none⟩) elems.length elems.length)
    (Keeps.alloc _ _ _) (fun b hb => .inl (by simp [q0y] at hb; omega)) (.inr hnu)
    ⟨hz, hc, vs, h3.map (fun x hx => by obtain ⟨e, he, hx⟩ := List.mem_flatten.1 hx; exact h4 e he x hx) hwo (fun _ h => h) hg, by
        rw [if_pos (by rfl), q1a]
        exact ⟨hvl, .inr ⟨W.heap.size, elems.length, vs.toArray, rfl, Nat.zero_le _, heap_alloc_new W _, Nat.le_refl _, by unfold maxLen; omega, by simpa using hvl, by show List.take (elems.length * z) vs = vs; rw [← hvl, List.take_length]⟩⟩⟩
    (fun e he x hx => (h4 e he x hx).map (fun j hj => .inl hj) hsg)
  have r3 := r2.put (d := o.dst) (x := .row ℓ elems.length) (v := .slice (some ⟨W.heap.size, 0, none⟩) elems.length elems.length)
    (.row rfl fun B hB hn => by rw [q1a])
    (.row (.inr rfl) fun B hB => by
      rw [q1a] at hB
      obtain rfl := Option.some.inj hB
      exact Nat.le_refl _) hd
  exact hK _ _ ro _ (r3.take fun j hj => by
    rcases hj with hj | rfl
    · exact .inl hj
    · exact .inr (j2p _))
def q3t (l : List (List AV)) (ps : List (Nat × AV)) : List (List AV) := ps.foldl (fun l p => l.set p.1 (q00 p.2)) l
theorem j95 {z : Nat} : ∀ (ps : List (Nat × AV)) (l : List (List AV)), (∀ (i : Nat) (e : List AV), l[i]? = some e → e.length = z) → (∀ p ∈ ps, p.1 < l.length ∧ (q00 p.2).length = z) →
    (q3t l ps).flatten = q41 (fun i => i * z) l.flatten ps ∧ (∀ (i : Nat) (e : List AV), (q3t l ps)[i]? = some e → e.length = z) ∧ (q3t l ps).length = l.length
  | [], l, hz, _ => ⟨rfl, hz, rfl⟩
  | p :: ps, l, hz, hp => by
    obtain ⟨h1, h2⟩ := hp p (by simp)
    have hz' : ∀ (i : Nat) (e : List AV), (l.set p.1 (q00 p.2))[i]? = some e → e.length = z := by
      intro i e he
      by_cases hi : p.1 = i
      · subst hi
        rw [List.getElem?_set_self h1] at he
        rw [← Option.some.inj he, h2]
      · rw [List.getElem?_set_ne hi] at he
        exact hz i e he
    obtain ⟨h3, h4, h5⟩ := j95 ps (l.set p.1 (q00 p.2)) hz' (fun q hq => by simpa using hp q (by simp [hq]))
    refine ⟨?_, h4, by show (q3t (l.set p.1 (q00 p.2)) ps).length = l.length; rw [h5]; simp⟩
    show (q3t (l.set p.1 (q00 p.2)) ps).flatten = _
    rw [h3, flatSet hz (List.getElem?_eq_getElem h1)]
    simp only [q41, List.foldl_cons, q4o, h2]
theorem z3x (z : Array Value) (n : Nat) : ((Array.range (n * z.size)).map (z[· % z.size]!)).toList = (List.replicate n z.toList).flatten := by
  induction n with
  | zero => simp
  | succ n ih =>
    simp only [Array.toList_map, Array.toList_range] at ih ⊢
    rw [Nat.add_mul, Nat.one_mul, List.range_add, List.map_append, ih, List.replicate_succ', List.flatten_append]
    congr 1
    simp only [List.map_map, List.flatten_cons, List.flatten_nil, List.append_nil]
    apply List.ext_getElem?
    intro k
    by_cases hk : k < z.size
    · simp [hk, Nat.mod_eq_of_lt hk, Nat.mul_add_mod]
    · simp [hk]
theorem j8k (ty : TypeId) (len : Nat) (parts : Array (Nat × Operand)) (T E : TyA) (ho : o.op = .buildSlice ty len parts) (hT : tyA P ty = some T) (hk : T.kind = 1) (hE : tyA P T.elem = some E) (hx : ∀ p ∈ parts.toList, okx t p.2)
    (hz : E.zero.length = E.size) (h0 : 0 < E.size) (hone : E.zero.all (·.oneCell') = true) (hlen : len * E.size ≤ 16777216) (hp : ∀ p ∈ pv t parts, (∀ c ∈ q00 p.2, c.cellish = true) ∧ p.1 < len ∧ (q00 p.2).length = E.size) :
    J P o ℓ t h ⟨.row ℓ (q3t (List.replicate len (q2d E)) (pv t parts)).length, [], [(ℓ, some ⟨true, T.elem, E.size, q3t (List.replicate len (q2d E)) (pv t parts)⟩)]⟩ := by
  have hzl : ∀ (i : Nat) (e : List AV), (List.replicate len (q2d E))[i]? = some e → e.length = E.size := by
    intro i e he
    have := List.mem_of_getElem? he
    rw [(List.mem_replicate.1 this).2]
    simp [q2d, hz]
  obtain ⟨hfl, hzz, hll⟩ := j95 (z := E.size) (pv t parts) (List.replicate len (q2d E)) hzl (fun p hp' => by simpa using (hp p hp').2)
  have hll' : (q3t (List.replicate len (q2d E)) (pv t parts)).length = len := by rw [hll]; simp
  have hcc : ∀ (ps : List (Nat × AV)) (l : List (List AV)) (q : AV → Prop), (∀ e ∈ l, ∀ x ∈ e, q x) → (∀ p ∈ ps, ∀ x ∈ q00 p.2, q x) → ∀ e ∈ q3t l ps, ∀ x ∈ e, q x := by
    intro ps
    induction ps with
    | nil => intro l q hl _; exact hl
    | cons p ps ih =>
      intro l q hl hps
      refine ih _ q (fun e he x hx => ?_) (fun q' hq => hps q' (by simp [hq]))
      rcases List.mem_or_eq_of_mem_set he with he | he
      · exact hl e he x hx
      · subst he
        exact hps p (by simp) x hx
  refine J.rowNew hzz (hcc _ _ _ (fun e he x hx => ?_) (fun p hp' => (hp p hp').1)) (by rw [hll']; have := Nat.le_mul_of_pos_right len h0; omega) fun C used N t1 h1 ro φ a W ht hh r => ?_
  · rw [(List.mem_replicate.1 he).2] at hx
    exact j53 _ x hx
  · have hops : ∀ x, x ∈ (parts.toList.map (·.2)) → ev t1 x = ev t x ∧ okx t1 x = okx t x := fun x hx => ht x (by simpa [ho, Op.operands] using hx)
    have hpv := pv_ops (t := t) hops
    obtain ⟨d, i, h2, h3, rfl⟩ := q1v hT
    obtain ⟨e, rfl⟩ := q57 hk
    simp only [q4l] at hE ⊢
    obtain ⟨de, ie, h4, h5, rfl⟩ := q1v hE
    simp only [] at hz h0 hone hlen hp hfl hll'
    obtain ⟨z, h6, h7⟩ := j3v (i := ie) (by intro e0; rw [e0] at hz; simp at hz; omega)
    rw [h7] at hz hone
    have hsz : z.cells.size = ie.size := by simpa using hz
    have hz0 : RepL W ro φ h1 (List.replicate len (q2d ⟨j57 de, ie.size, ie.bytes, ((ie.zero.map fun z => z.cells.toList).getD []), q4l de, j13 de, q2m de, j4b P de⟩)).flatten ((Array.range (len * ie.size)).map (z.cells[· % z.cells.size]!)).toList := by
      rw [← hsz, z3x]
      unfold q2d
      simp only []
      rw [h7]
      have := j44 (h := h1) (W := W) (ro := ro) (φ := φ) (l := (List.replicate len z.cells.toList).flatten) (by
        rw [List.all_eq_true]
        intro x hx
        obtain ⟨e', he', hx⟩ := List.mem_flatten.1 hx
        rw [(List.mem_replicate.1 he').2] at hx
        exact List.all_eq_true.1 hone x hx)
      rwa [List.map_flatten, List.map_replicate] at this
    obtain ⟨c, h8, h9⟩ := j6h (h := h1) (W := W) (ro := ro) (φ := φ) (fun i => some (i * ie.size, ie.size)) (fun i => i * ie.size) (pv t parts) (parts.toList.map fun p => (p.1, a.eval p.2)) _ _ hz0 (by simp [pv])
      (fun j p v hj hj' => by
        rw [← hpv] at hj
        simp only [pv, List.getElem?_map] at hj hj'
        cases hq : parts.toList[j]? with
        | none => rw [hq] at hj; simp at hj
        | some q =>
          rw [hq] at hj hj'
          obtain rfl := Option.some.inj hj
          obtain rfl := Option.some.inj hj'
          have hmem := List.mem_of_getElem? hq
          exact q1c r q.2 ((hops q.2 (List.mem_map.2 ⟨q, hmem, rfl⟩)).2 ▸ hx q hmem))
      (fun p hpm => by
        obtain ⟨a1, a2, a3⟩ := hp p hpm
        refine ⟨a1, by rw [a3], ?_⟩
        rw [a3, q42 hzl]
        simp only [List.length_replicate]
        have := Nat.mul_le_mul_right ie.size (show p.1 + 1 ≤ len from a2)
        rw [Nat.add_mul, Nat.one_mul] at this
        exact this)
    rw [hll']
    refine ⟨c.toList, ?_, by rw [hfl]; exact h9, ?_⟩
    · rcases Nat.eq_zero_or_pos len with hl0 | hl0
      · subst hl0
        have hpe : parts = #[] := by
          apply Array.toList_inj.1
          rw [List.eq_nil_iff_forall_not_mem]
          intro p hp'
          have := (hp (p.1, ev t p.2) (List.mem_map.2 ⟨p, hp', rfl⟩)).2.1
          omega
        subst hpe
        have hr0 : (Array.range 0) = #[] := rfl
        rw [Nat.zero_mul, hr0] at h8
        simp [Instr.fill] at h8
        subst h8
        simp [execOp, ho, Instr.buildSlice, run_underlying h2, sizeOf, j7x h5, newRow, hr0, Instr.fill]
      · have := run_buildSlice (P := P) W ty e len (parts.map fun (i, x) => (i, a.eval x)) c ie z h2 h5 h6 (by omega) (by have := Nat.mul_pos hl0 h0; omega) (by simpa using h8)
        simp [execOp, ho, this]
    · refine hcc _ _ _ (fun e' he' x hx' => ?_) (fun p hpm => ?_)
      · rw [(List.mem_replicate.1 he').2] at hx'
        obtain ⟨v, _, rfl⟩ := List.mem_map.1 hx'
        exact .c
      · rw [← hpv] at hpm
        obtain ⟨q, hq, rfl⟩ := List.mem_map.1 hpm
        exact j39 (q3j r q.2 ((hops q.2 (List.mem_map.2 ⟨q, hq, rfl⟩)).2 ▸ hx q hq))
end

end Go.Proofs.YthkofkaocipomaaGreatDoor

namespace Go.Proofs.YthkofkaocipomaaGreatDoor
open Go.RowKit
set_option linter.unusedVariables false
set_option linter.unusedSimpArgs false

section
variable {P : Program} {o : Oper} {ℓ : Nat} {t : Nat → AV} {h : Nat → Option Blkd}
theorem Keeps.grown {W W' : World} {v v' : Value} (hg : W.grownBy W' v.ownBlock) : Keeps (fun b => q0y v' = some b ∨ v.ownBlock = some b) W W' :=
  ⟨hg.os, hg.tape, hg.output, hg.size, fun k hk hn => hg.block k hk fun e => hn (.inr e.symm)⟩
theorem q6q {W : World} {base : Nat} {e : TypeId} {z n : Nat} {v : Value} {cs : List Value} (h : W.ownsRow base e z v n cs) : q0y v = v.ownBlock := by
  rcases h.2 with ⟨rfl, _⟩ | ⟨g, cap, cur, rfl, _⟩ <;> rfl
theorem z2e {t e : TypeId} {T E : TyA} (hT : tyA P t = some T) (hk : T.kind = 1) (hE : tyA P T.elem = some E) (hE0 : 0 < E.size) (hEz : E.zero.length = E.size) {W : World} {v : Value} {n m c : Nat} {xs news : List Value} (hown : W.ownsRow 0 T.elem E.size v n xs) {y : Option Addr}
    (hy : m ≠ 0 → ∃ b off, y = some ⟨b, off, none⟩ ∧ q34 W b off news) (hyn : y = none → c = 0) (hl : news.length = m * E.size) (h1 : ∀ u ∈ news, u.oneCell' = true) (hb : (n + m) * E.bytes ≤ 140737488355328) (hn : n + m ≤ 1099511627776) :
    ∃ v' W', (Builtin.append_ #[t, t] t #[v, .slice y m c]).run P W = .ok v' W' ∧ W'.ownsRow 0 T.elem E.size v' (n + m) (xs ++ news) ∧ W.grownBy W' v.ownBlock ∧ (v'.ownBlock = v.ownBlock ∨ v'.ownBlock = some W.heap.size) ∧ (m = 0 → v' = v) := by
  obtain ⟨d, i, h2, h3, rfl⟩ := q1v hT
  obtain ⟨e', rfl⟩ := q57 hk
  simp only [q4l] at hE hown ⊢
  obtain ⟨de, ie, h4, h5, rfl⟩ := q1v hE
  simp only [] at hE0 hEz hown hl hb ⊢
  obtain ⟨z, h6, h7⟩ := j3v (i := ie) (by intro e0; rw [e0] at hEz; simp at hEz; omega)
  rw [h7] at hEz
  rcases Nat.eq_zero_or_pos m with hm | hm
  · subst hm
    have hnil : news = [] := List.eq_nil_of_length_eq_zero (by omega)
    subst hnil
    refine ⟨v, W, ?_, by simpa using hown, World.grownBy.refl _ _, .inl rfl, fun _ => rfl⟩
    rcases hown.2 with ⟨rfl, rfl⟩ | ⟨g, cap, cur, rfl, _, _, hnc, _⟩
    · cases y <;> simp [Builtin.append_, run_underlying h2, sizeOf, typeInfo, h5, Builtin.lenOf, Builtin.firstCells, loadCells, loadCellsFrom]
    · cases y <;> simp [Builtin.append_, run_underlying h2, sizeOf, typeInfo, h5, Builtin.lenOf, Builtin.firstCells, hnc, storeCells, loadCells, loadCellsFrom]
  · obtain ⟨b, off, rfl, hc⟩ := hy (by omega)
    obtain ⟨v', W', r1, r2, r3, _, r5⟩ := run_append_own_at (P := P) W 0 t t e' ie z ie.size ie.bytes h2 h5 h6 rfl rfl (by simpa using hEz) hE0 v n xs hown ⟨b, off, none⟩ m c news hl
      (fun j u hj => by rw [q8g, hc j (List.getElem?_eq_some_iff.1 hj).1, hj]) h1 (by unfold maxLen; omega) hb (Nat.zero_le _)
    exact ⟨v', W', r1, r2, r3, r5, fun h0 => by omega⟩
def grown (B : Blkd) (es : List (List AV)) : Blkd := ⟨B.row, B.T, B.z, B.elems ++ es⟩
def q1r (h : Nat → Option Blkd) : AV → List (List AV)
  | .row j _ => ((h j).map (·.elems)).getD []
  | .c (.sl _ es) => es.map fun e => e.map .c
  | _ => []
def q4x : AV → List Nat
  | .row j _ => [j]
  | _ => []
def q3n (h : Nat → Option Blkd) (z : Nat) : AV → Prop
  | .row j n => ∃ B, h j = some B ∧ B.row = true ∧ B.len = n ∧ B.z = z
  | .c (.sl z' _) => z' = z
  | .c (.v (.slice none 0 0)) => True
  | _ => False
theorem z1a {C : Ctx P} {used : Nat → Prop} {N : Nat} {ro : Nat → Prop} {φ : Nat → Value} {a : Act} {W : World} (r : Rel C used N t h ro φ a W) {z : Nat} {x : AV} {v : Value} (hr : Rep W ro φ h x v) (hs : Sc used h x) (hok : q3n h z x) :
    ∃ y m c vs, v = .slice y m c ∧ m = (q1r h x).length ∧ (m ≠ 0 → ∃ b off, y = some ⟨b, off, none⟩ ∧ q34 W b off vs) ∧ (y = none → c = 0) ∧ RepL W ro φ h (q1r h x).flatten vs ∧ (∀ e ∈ q1r h x, e.length = z ∧ ScL used h e ∧ ∀ q ∈ e, q.cellish = true) := by
  cases hr with
  | c hp =>
    cases hp with
    | @v u h1 =>
      have : v = .slice none 0 0 := by
        simp only [q3n] at hok
        split at hok <;> first | rfl | (simp_all; done) | exact hok.elim
      subst this
      exact ⟨none, 0, 0, [], rfl, rfl, fun h => absurd rfl h, fun _ => rfl, ⟨rfl, by simp [q1r]⟩, by simp [q1r]⟩
    | @sl z' es aa c vss hn hc hnil ha hl hz1 hz2 hxx =>
      obtain rfl : z' = z := hok
      refine ⟨aa, es.length, c, vss.flatten, rfl, by simp [q1r], fun hm => ?_, hnil, ?_, fun e he => ?_⟩
      · obtain ⟨b, off, h1, h2, h3⟩ := ha (by intro e; rw [e] at hm; simp at hm)
        refine ⟨b, off, h1, fun j hj => ?_⟩
        rw [q42 hz2] at hj
        have hz0 : 0 < z' := by
          rcases Nat.eq_zero_or_pos z' with h | h
          · subst h; simp at hj
          · exact h
        have hjd : j / z' < vss.length := (Nat.div_lt_iff_lt_mul hz0).2 hj
        have hv := List.getElem?_eq_getElem hjd
        have hf := q6k hz2 hv
        have hjm := Nat.mod_lt j hz0
        have hcell := h3 _ _ hv (j % z') (by rw [hz2 _ _ hv]; exact hjm)
        have hdm : j / z' * z' + j % z' = j := by rw [Nat.mul_comm]; exact Nat.div_add_mod j z'
        rw [Nat.add_assoc, hdm] at hcell
        rw [hcell, ← hf, List.getElem?_take_of_lt hjm, List.getElem?_drop, hdm]
      · refine ⟨?_, fun j x v h1 h2 => ?_⟩
        · have hz3 : ∀ (i : Nat) (e : List AV), (es.map fun e => e.map AV.c)[i]? = some e → e.length = z' := by
            intro i e he
            rw [List.getElem?_map] at he
            cases hq : es[i]? with
            | none => rw [hq] at he; simp at he
            | some q => rw [hq] at he; obtain rfl := Option.some.inj he; simpa using hz1 i q hq
          simp only [q1r]
          rw [q42 hz2, q42 hz3, hl]
          simp
        · have hj : j < vss.length * z' := by rw [← q42 hz2]; exact (List.getElem?_eq_some_iff.1 h2).1
          have hz0 : 0 < z' := by
            rcases Nat.eq_zero_or_pos z' with h | h
            · subst h; simp at hj
            · exact h
          have hjd : j / z' < vss.length := (Nat.div_lt_iff_lt_mul hz0).2 hj
          have hv := List.getElem?_eq_getElem hjd
          have he := List.getElem?_eq_getElem (show j / z' < es.length by omega)
          have hf := q6k hz2 hv
          have hjm := Nat.mod_lt j hz0
          have hdm : j / z' * z' + j % z' = j := by rw [Nat.mul_comm]; exact Nat.div_add_mod j z'
          have h2' : (vss[j / z'])[j % z']? = some v := by
            rw [← hf, List.getElem?_take_of_lt hjm, List.getElem?_drop, hdm, h2]
          have hz3 : ∀ (i : Nat) (e : List AV), (es.map fun e => e.map AV.c)[i]? = some e → e.length = z' := by
            intro i e he
            rw [List.getElem?_map] at he
            cases hq : es[i]? with
            | none => rw [hq] at he; simp at he
            | some q => rw [hq] at he; obtain rfl := Option.some.inj he; simpa using hz1 i q hq
          have he' : (es.map fun e => e.map AV.c)[j / z']? = some (es[j / z'].map AV.c) := by rw [List.getElem?_map, he]; rfl
          have hf' := q6k hz3 he'
          have h1' : (es[j / z'].map AV.c)[j % z']? = some x := by
            rw [← hf', List.getElem?_take_of_lt hjm, List.getElem?_drop, hdm]
            exact h1
          rw [List.getElem?_map] at h1'
          cases hq : (es[j / z'])[j % z']? with
          | none => rw [hq] at h1'; simp at h1'
          | some q =>
            rw [hq] at h1'
            obtain rfl := (Option.some.inj h1').symm
            exact .c (hxx _ _ _ _ _ _ he hv hq h2')
      · obtain ⟨q, hq, rfl⟩ := List.mem_map.1 he
        obtain ⟨k, hk, hkq⟩ := List.getElem_of_mem hq
        refine ⟨by simpa using hz1 k q (by rw [List.getElem?_eq_getElem hk, hkq]), fun x hx => ?_, fun x hx => ?_⟩
        · obtain ⟨_, _, rfl⟩ := List.mem_map.1 hx
          exact .c
        · obtain ⟨_, _, rfl⟩ := List.mem_map.1 hx
          rfl
  | @row j n v _ hv =>
    obtain ⟨B, hB, hrow, hn, hz⟩ := hok
    obtain rfl := hv B hB hn
    have hBr := r.hp j B hB
    have hm : q1r h (.row j n) = B.elems := by simp [q1r, hB]
    rw [hm]
    have helem : ∀ e ∈ B.elems, e.length = z ∧ ScL used h e ∧ ∀ q ∈ e, q.cellish = true := by
      intro e he
      obtain ⟨k, hk, hke⟩ := List.getElem_of_mem he
      exact ⟨by rw [← hz]; exact hBr.1 k e (by rw [List.getElem?_eq_getElem hk, hke]), (r.scH j B hB).2 e he, hBr.2.1 e he⟩
    obtain ⟨_, _, vs, hl, hown⟩ := hBr
    rw [if_pos hrow] at hown
    rcases hown.2 with ⟨h8, h9⟩ | ⟨g, cap, cur, h8, _, h10, h11, h12, h13, h14⟩
    · refine ⟨none, 0, 0, vs, h8, ?_, fun h => absurd rfl h, fun _ => rfl, hl, helem⟩
      unfold Blkd.len at h9
      exact h9.symm
    · refine ⟨_, _, _, vs, h8, rfl, fun _ => ⟨g, 0, rfl, ?_⟩, fun h => by simp at h, hl, helem⟩
      rw [← h14]
      exact j12 h10 _
  | _ => exact hok.elim
theorem j8i (ty tr : TypeId) (x y : Operand) (T E : TyA) (j n : Nat) (B : Blkd) (ho : o.op = .call { callee := .builtin .append, args := #[x, y], argTypes := #[ty, ty] }) (hty : o.type = ty) (hx : okx t x) (hy : okx t y) (ex : ev t x = .row j n)
    (hT : tyA P ty = some T) (hk : T.kind = 1) (hE : tyA P T.elem = some E) (hE0 : 0 < E.size) (hEz : E.zero.length = E.size) (hB : h j = some B) (hrow : B.row = true) (hn : B.len = n) (hBT : B.T = T.elem) (hBz : B.z = E.size) (hm : q3n h E.size (ev t y))
    (hb : (n + (q1r h (ev t y)).length) * E.bytes ≤ 140737488355328) (hnm : n + (q1r h (ev t y)).length ≤ 1099511627776) :
    J P o ℓ t h ⟨.row j (n + (q1r h (ev t y)).length), j :: q4x (ev t y), [(j, some (grown B (q1r h (ev t y))))]⟩ := by
  intro C used N t1 h1 ro φ a W ht hh hu hd r K Q hK
  obtain ⟨x2, x3⟩ := q22 ht (x := x) (by simp [ho, Op.operands, Call.operands])
  obtain ⟨y2, y3⟩ := q22 ht (x := y) (by simp [ho, Op.operands, Call.operands])
  have hrx := q1c r x (x3 ▸ hx)
  have hry := q1c r y (y3 ▸ hy)
  have hsy := q3j r y (y3 ▸ hy)
  rw [x2, ex] at hrx
  rw [y2] at hry hsy
  have hB1 : h1 j = some B := (hh j (by simp)).trans hB
  have hmo : q1r h (ev t y) = q1r h1 (ev t y) ∧ q3n h1 E.size (ev t y) := by
    generalize ev t y = q at hh hm ⊢
    cases q with
    | row k m =>
      have hk' := hh k (by simp [q4x])
      simp only [q1r, q3n, hk'] at hm ⊢
      exact ⟨trivial, hm⟩
    | c p =>
      cases p with
      | sl => exact ⟨rfl, hm⟩
      | v u =>
        have : u = .slice none 0 0 := by
          simp only [q3n] at hm
          split at hm <;> first | rfl | (simp_all; done) | exact hm.elim
        subst this
        exact ⟨rfl, trivial⟩
    | _ => exact ⟨rfl, hm⟩
  rw [hmo.1] at hb hnm hK
  obtain ⟨yy, m, c, news, hyv, hml, hyc, hyn, hnl, hne⟩ := z1a r hry hsy hmo.2
  rw [← hml] at hb hnm hK
  generalize hes : q1r h1 (ev t y) = es at hml hnl hne hK
  generalize hvx : a.eval x = vx at hrx
  have hBr := r.hp j B hB1
  obtain ⟨hb1, hb2, vs, hb3, hb4⟩ := hBr
  rw [if_pos hrow, hBT, hBz, hn] at hb4
  cases hrx with
  | row _ hrx =>
    obtain rfl := hrx B hB1 hn
    have hnel : ∀ (i : Nat) (e : List AV), es[i]? = some e → e.length = E.size := fun i e he => (hne e (List.mem_of_getElem? he)).1
    have hnews : news.length = m * E.size := by rw [hnl.1, q42 hnel, hml]
    have hones := hnl.ones fun q hq => by
      obtain ⟨e, he, hq⟩ := List.mem_flatten.1 hq
      exact (hne e he).2.2 q hq
    obtain ⟨v', W', g1, g2, g3, g4, g5⟩ := z2e (e := 0) hT hk hE hE0 hEz hb4 hyc hyn hnews hones hb hnm
    have hex : (execOp a.eval o).run P W = .ok (.value v') W' := by
      simp [execOp, ho, resolve, invoke, builtin, hvx, hyv, hty, g1]
    unfold Oper.wp
    rw [hex]
    have hbv : q0y v' = v'.ownBlock := q6q g2
    have hbφ : q0y (φ j) = (φ j).ownBlock := q6q hb4
    have hkeep : Keeps (fun b => q0y v' = some b ∨ (∃ B0, h1 j = some B0 ∧ q0y (φ j) = some b)) W W' :=
      ⟨g3.os, g3.tape, g3.output, g3.size, fun k hk hn => g3.block k hk fun e => hn (.inr ⟨B, hB1, by rw [hbφ]; exact e.symm⟩)⟩
    have hwo : ∀ b', ro b' → W'.heap[b']? = W.heap[b']? := fun b' hb' => g3.block b' (r.rolt b' hb') fun e => (r.own j B b' hB1 (by rw [hbφ]; exact e.symm)).1 hb'
    have hlen : (grown B es).len = n + m := by
      show (B.elems ++ es).length = n + m
      rw [List.length_append, hml, ← hn]
      rfl
    have hlen2 : (∃ B0, h1 j = some B0 ∧ (B0.len < (grown B es).len ∨ (B0.len = (grown B es).len ∧ B0.z = (grown B es).z ∧ v' = φ j))) ∨ ¬ used j := by
      refine .inl ⟨B, hB1, ?_⟩
      rw [hlen, hn]
      rcases Nat.eq_zero_or_pos m with h0 | h0
      · exact .inr ⟨by omega, rfl, g5 h0⟩
      · exact .inl (by omega)
    have hg : Goes used φ (upd φ j v') h1 (upd h1 j (some (grown B es))) := by
      intro k B' hk' hB'
      by_cases hkj : k = j
      · subst hkj
        rw [q1a] at hB'
        obtain rfl := Option.some.inj hB'
        rcases hlen2 with ⟨B0, h5, h6⟩ | h6
        · exact ⟨B0, h5, by rw [q1a]; exact h6⟩
        · exact absurd hk' h6
      · rw [q1p _ _ hkj] at hB'
        exact ⟨B', hB', .inr ⟨rfl, rfl, q1p _ _ hkj⟩⟩
    have hsg : ∀ k B', used k → upd h1 j (some (grown B es)) k = some B' → ∃ B0, h1 k = some B0 ∧ B0.len ≤ B'.len := fun k B' hk' hB' => by
      obtain ⟨B0, h5, h6⟩ := hg k B' hk' hB'
      exact ⟨B0, h5, by rcases h6 with h6 | h6 <;> omega⟩
    have hscB : ∀ e ∈ (grown B es).elems, ScL used h1 e := fun e he => by
      rcases List.mem_append.1 he with he | he
      · exact (r.scH j B hB1).2 e he
      · exact (hne e he).2.1
    have r2 := r.block (W' := W') (ℓ := j) (B := grown B es) (v := v') hkeep
      (fun b' hb' => by
        rw [hbv] at hb'
        rcases g4 with g4 | g4
        · exact .inr ⟨B, hB1, by rw [hbφ, ← g4, hb']⟩
        · rw [g4] at hb'
          exact .inl (by have := Option.some.inj hb'; omega)) hlen2
      ⟨fun i e he => by
          obtain ⟨k, hk', hke⟩ := List.getElem_of_mem (List.mem_of_getElem? he)
          rcases List.mem_append.1 (List.mem_of_getElem? he) with he' | he'
          · obtain ⟨q, hq, hqe⟩ := List.getElem_of_mem he'
            exact hb1 q e (by rw [List.getElem?_eq_getElem hq, hqe])
          · show e.length = B.z
            rw [hBz]; exact (hne e he').1,
        fun e he x hx => by
          rcases List.mem_append.1 he with he | he
          · exact hb2 e he x hx
          · exact (hne e he).2.2 x hx,
        vs ++ news, by
          have : RepL W ro φ h1 (grown B es).elems.flatten (vs ++ news) := by
            simp only [grown, List.flatten_append]
            exact hb3.app hnl
          exact this.map (fun x hx => by obtain ⟨e, he, hx⟩ := List.mem_flatten.1 hx; exact hscB e he x hx) hwo (fun _ h => h) hg, by
          rw [if_pos (show (grown B es).row = true from hrow), q1a, hlen]
          show W'.ownsRow 0 B.T B.z v' (n + m) (vs ++ news)
          rw [hBT, hBz]
          exact g2⟩
      (fun e he x hx => (hscB e he x hx).map (fun k hk => .inl hk) hsg)
    have r3 := r2.put (d := o.dst) (x := .row j (n + m)) (v := v')
      (.row (by rcases g2.2 with ⟨q, _⟩ | ⟨_, _, _, q, _⟩ <;> rw [q] <;> rfl) fun B' hB' hn' => by rw [q1a])
      (.row (.inr rfl) fun B' hB' => by
        rw [q1a] at hB'
        obtain rfl := Option.some.inj hB'
        omega) hd
    exact hK _ _ ro _ (r3.take fun k hk' => by
      rcases hk' with hk' | rfl
      · exact .inl hk'
      · exact .inl (r.scH _ B hB1).1)
end

end Go.Proofs.YthkofkaocipomaaGreatDoor

namespace Go.Proofs.YthkofkaocipomaaGreatDoor
open Go.RowKit
set_option linter.unusedVariables false
set_option linter.unusedSimpArgs false

section
variable {P : Program} {o : Oper} {ℓ : Nat} {t : Nat → AV} {h : Nat → Option Blkd}
theorem j8j (ty : TypeId) (x y : Operand) (T E : TyA) (ho : o.op = .call { callee := .builtin .append, args := #[x, y], argTypes := #[ty, ty] }) (hty : o.type = ty) (hx : okx t x) (hy : okx t y) (ex : ev t x = .c (.v (.slice none 0 0)))
    (hT : tyA P ty = some T) (hk : T.kind = 1) (hE : tyA P T.elem = some E) (hE0 : 0 < E.size) (hEz : E.zero.length = E.size) (hm : q3n h E.size (ev t y))
    (hb : (q1r h (ev t y)).length * E.bytes ≤ 140737488355328) (hnm : (q1r h (ev t y)).length ≤ 1099511627776) :
    J P o ℓ t h ⟨.row ℓ (q1r h (ev t y)).length, q4x (ev t y), [(ℓ, some ⟨true, T.elem, E.size, q1r h (ev t y)⟩)]⟩ := by
  intro C used N t1 h1 ro φ a W ht hh hu hd r K Q hK
  obtain ⟨x2, x3⟩ := q22 ht (x := x) (by simp [ho, Op.operands, Call.operands])
  obtain ⟨y2, y3⟩ := q22 ht (x := y) (by simp [ho, Op.operands, Call.operands])
  have hrx := q1c r x (x3 ▸ hx)
  have hry := q1c r y (y3 ▸ hy)
  have hsy := q3j r y (y3 ▸ hy)
  rw [x2, ex] at hrx
  have hvx := q13 hrx
  rw [y2] at hry hsy
  have hmo : q1r h (ev t y) = q1r h1 (ev t y) ∧ q3n h1 E.size (ev t y) := by
    generalize ev t y = q at hh hm ⊢
    cases q with
    | row k m =>
      have hk' := hh k (by simp [q4x])
      simp only [q1r, q3n, hk'] at hm ⊢
      exact ⟨trivial, hm⟩
    | c p =>
      cases p with
      | sl => exact ⟨rfl, hm⟩
      | v u =>
        have : u = .slice none 0 0 := by
          simp only [q3n] at hm
          split at hm <;> first | rfl | (simp_all; done) | exact hm.elim
        subst this
        exact ⟨rfl, trivial⟩
    | _ => exact ⟨rfl, hm⟩
  rw [hmo.1] at hb hnm hK
  obtain ⟨yy, m, c, news, hyv, hml, hyc, hyn, hnl, hne⟩ := z1a r hry hsy hmo.2
  rw [← hml] at hb hnm hK
  generalize hes : q1r h1 (ev t y) = es at hml hnl hne hK
  have hnel : ∀ (i : Nat) (e : List AV), es[i]? = some e → e.length = E.size := fun i e he => (hne e (List.mem_of_getElem? he)).1
  have hnews : news.length = m * E.size := by rw [hnl.1, q42 hnel, hml]
  have hones := hnl.ones fun q hq => by
    obtain ⟨e, he, hq⟩ := List.mem_flatten.1 hq
    exact (hne e he).2.2 q hq
  obtain ⟨v', W', g1, g2, g3, g4, g5⟩ := z2e (e := 0) hT hk hE hE0 hEz (World.ownsRow_nil W 0 T.elem E.size) hyc hyn hnews hones (by simpa using hb) (by simpa using hnm)
  rw [Nat.zero_add, List.nil_append] at g2
  have hex : (execOp a.eval o).run P W = .ok (.value v') W' := by
    simp [execOp, ho, resolve, invoke, builtin, hvx, hyv, hty, g1]
  unfold Oper.wp
  rw [hex]
  have hnu := hu ℓ (j2p ℓ)
  have hno : ∀ B0, h1 ℓ ≠ some B0 := fun B0 hB => hnu (r.scH ℓ B0 hB).1
  have hbv : q0y v' = v'.ownBlock := q6q g2
  have hwo : ∀ b', ro b' → W'.heap[b']? = W.heap[b']? := fun b' hb' => g3.block b' (r.rolt b' hb') (by simp [Value.ownBlock])
  have hg : Goes used φ (upd φ ℓ v') h1 (upd h1 ℓ (some ⟨true, T.elem, E.size, es⟩)) := by
    intro k B' hk' hB'
    by_cases hkj : k = ℓ
    · exact absurd (hkj ▸ hk') hnu
    · rw [q1p _ _ hkj] at hB'
      exact ⟨B', hB', .inr ⟨rfl, rfl, q1p _ _ hkj⟩⟩
  have hsg : ∀ k B', used k → upd h1 ℓ (some ⟨true, T.elem, E.size, es⟩) k = some B' → ∃ B0, h1 k = some B0 ∧ B0.len ≤ B'.len := fun k B' hk' hB' => by
    obtain ⟨B0, h5, h6⟩ := hg k B' hk' hB'
    exact ⟨B0, h5, by rcases h6 with h6 | h6 <;> omega⟩
  have r2 := r.block (W' := W') (ℓ := ℓ) (B := ⟨true, T.elem, E.size, es⟩) (v := v')
    ⟨g3.os, g3.tape, g3.output, g3.size, fun k hk _ => g3.block k hk (by simp [Value.ownBlock])⟩
    (fun b' hb' => by
      rw [hbv] at hb'
      rcases g4 with g4 | g4
      · rw [g4] at hb'; simp [Value.ownBlock] at hb'
      · rw [g4] at hb'
        exact .inl (by have := Option.some.inj hb'; omega)) (.inr hnu)
    ⟨fun i e he => hnel i e he, fun e he x hx => (hne e he).2.2 x hx, news,
      hnl.map (fun x hx => by obtain ⟨e, he, hx⟩ := List.mem_flatten.1 hx; exact (hne e he).2.1 x hx) hwo (fun _ h => h) hg, by
        rw [if_pos (by rfl), q1a]
        show W'.ownsRow 0 T.elem E.size v' es.length news
        rw [← hml]
        exact g2⟩
    (fun e he x hx => ((hne e he).2.1 x hx).map (fun k hk => .inl hk) hsg)
  have r3 := r2.put (d := o.dst) (x := .row ℓ m) (v := v')
    (.row (by rcases g2.2 with ⟨q, _⟩ | ⟨_, _, _, q, _⟩ <;> rw [q] <;> rfl) fun B' hB' hn' => by rw [q1a])
    (.row (.inr rfl) fun B' hB' => by
      rw [q1a] at hB'
      obtain rfl := Option.some.inj hB'
      show m ≤ es.length
      omega) hd
  exact hK _ _ ro _ (r3.take fun k hk' => by
    rcases hk' with hk' | rfl
    · exact .inl hk'
    · exact .inr (j2p _))

inductive Pure : AV → Prop
  | any : Pure .any
  | c (p : PV) : Pure (.c p)
  | pp (l : List PV) : Pure (.pp l)
  | agg {l : List AV} (hl : ∀ x ∈ l, Pure x) : Pure (.agg l)
  | tup {l : List AV} (hl : ∀ x ∈ l, Pure x) : Pure (.tup l)
  | fn {f : Fn} {l m : List AV} (hl : ∀ x ∈ l, Pure x) (hm : ∀ x ∈ m, Pure x) : Pure (.fn f l m)
theorem Rep.pure {W : World} {ro : Nat → Prop} {φ φ' : Nat → Value} {h' : Nat → Option Blkd} {x : AV} {v : Value} (hr : Rep W ro φ h x v) (hp : Pure x) : Rep W ro φ' h' x v := by
  induction hr with
  | any v => exact .any v
  | c hq => exact .c hq
  | ref => cases hp
  | row => cases hp
  | pp hb hc hq => exact .pp hb hc hq
  | agg hl hx ih => cases hp with | agg hp => exact .agg hl fun j x v h1 h2 => ih j x v h1 h2 (hp x (List.mem_of_getElem? h1))
  | tup hl hx ih => cases hp with | tup hp => exact .tup hl fun j x v h1 h2 => ih j x v h1 h2 (hp x (List.mem_of_getElem? h1))
  | opt => cases hp
  | fn hl hx hl' hx' ih ih' => cases hp with | fn hp hp' => exact .fn hl (fun j x v h1 h2 => ih j x v h1 h2 (hp x (List.mem_of_getElem? h1))) hl' fun j x v h1 h2 => ih' j x v h1 h2 (hp' x (List.mem_of_getElem? h1))
theorem Pure.sc {used : Nat → Prop} {x : AV} (hp : Pure x) : Sc used h x := by
  induction hp with
  | any => exact .any
  | c => exact .c
  | pp => exact .pp
  | agg _ ih => exact .agg ih
  | tup _ ih => exact .tup ih
  | fn _ _ ih ih' => exact .fn ih ih'
mutual
def AV.pureB : AV → Bool
  | .any => true | .c _ => true | .pp _ => true | .ref .. => false | .row .. => false | .opt .. => false
  | .agg l => AV.pureL l | .tup l => AV.pureL l | .fn _ l m => AV.pureL l && AV.pureL m
def AV.pureL : List AV → Bool
  | [] => true
  | x :: l => x.pureB && AV.pureL l
end
mutual
theorem q7z : ∀ (x : AV), x.pureB = true → Pure x
  | .any, _ => .any
  | .c _, _ => .c _
  | .pp _, _ => .pp _
  | .ref .., h => by simp [AV.pureB] at h
  | .row .., h => by simp [AV.pureB] at h
  | .opt .., h => by simp [AV.pureB] at h
  | .agg l, h => .agg (q5t l (by simpa [AV.pureB] using h))
  | .tup l, h => .tup (q5t l (by simpa [AV.pureB] using h))
  | .fn f l m, h => by
    simp [AV.pureB] at h
    exact .fn (q5t l h.1) (q5t m h.2)
theorem q5t : ∀ (l : List AV), AV.pureL l = true → ∀ x ∈ l, Pure x
  | [], _ => by simp
  | x :: l, h => by
    simp [AV.pureL] at h
    intro y hy
    rcases List.mem_cons.1 hy with e | hy
    · rw [e]; exact q7z x h.1
    · exact q5t l h.2 y hy
end
def φ0 : Nat → Value := fun _ => .nilFunc
def h0 : Nat → Option Blkd := fun _ => none
def q0n (P : Program) (f : FuncId) : Prop := ∀ (args : Array Value) (W : World), (callFunc f args).run P W = .ok (.enter f args) W
theorem q0r {P : Program} {f : FuncId} {fn : Func} (hf : P.funcs[f]? = some fn) (hn : (fn.name == "runtime.NumGoroutine") = false) (hb : fn.body.isNone = false) : q0n P f := by
  intro args W
  simp only [callFunc, Sem.run_bind, run_program, Result.andThen_ok, hf, hn, hb, Bool.false_eq_true, if_false, Sem.run_pure]
def Told (P : Program) (f : FuncId) (args : List AV) (r : AV) : Prop :=
  q0n P f ∧ ∀ (W : World) (ro : Nat → Prop) (vs : List Value), (∀ b, ro b → b < W.heap.size) → GOk P W ro → RepL W ro φ0 h0 args vs →
    Calls P f vs.toArray W fun e W' => ∃ v ro', e = .returned v ∧ Below W.heap.size W W' ∧ (∀ b, ro b → ro' b) ∧ (∀ b, ro' b → (ro b ∨ W.heap.size ≤ b) ∧ b < W'.heap.size) ∧ Rep W' ro' φ0 h0 r v ∧ Pure r
theorem Rel.call {C : Ctx P} {used : Nat → Prop} {N : Nat} {ro ro' : Nat → Prop} {φ : Nat → Value} {a : Act} {W W' : World} (r : Rel C used N t h ro φ a W) (hb : Below W.heap.size W W') (h1 : ∀ b, ro b → ro' b) (h2 : ∀ b, ro' b → (ro b ∨ W.heap.size ≤ b) ∧ b < W'.heap.size) : Rel C used N t h ro' φ a W' := by
  have hg : Goes used φ φ h h := fun j B' hu hB => ⟨B', hB, .inr ⟨rfl, rfl, rfl⟩⟩
  have hw : ∀ b, ro b → W'.heap[b]? = W.heap[b]? := fun b hb' => hb.block b (r.rolt b hb')
  refine ⟨⟨hb.os.trans r.keep.os, hb.tape.trans r.keep.tape, hb.output.trans r.keep.output, Nat.le_trans r.keep.size hb.size, fun k hk hm => (hb.block k (Nat.lt_of_lt_of_le hk r.keep.size)).trans (r.keep.block k hk hm)⟩, r.defers, r.size,
    fun k => (r.tm k).map (r.scT k) hw h1 hg, fun j B hB => (r.hp j B hB).map (r.scH j B hB).2 hw h1 hg rfl fun b hb' => hb.block b (r.blk_lt hB hb'), r.inj, fun j B b hB hb' => ⟨fun hr => ?_, (r.own j B b hB hb').2⟩, fun b hb' => (h2 b hb').2,
    fun b hb' => h1 b (r.ro0 b hb'), fun b hb' => ?_, r.scT, r.scH, r.lent, r.glob⟩
  · rcases (h2 b hr).1 with h3 | h3
    · exact (r.own j B b hB hb').1 h3
    · have := r.blk_lt hB hb'
      omega
  · rcases (h2 b hb').1 with h3 | h3
    · exact r.ronew b h3
    · exact .inr (.inl (Nat.le_trans r.keep.size h3))
theorem told_wp {args : List AV} {x : AV} {f : FuncId} (hT : Told P f args x) (hp : ∀ y ∈ args, Pure y) {C : Ctx P} {used : Nat → Prop} {N : Nat} {ro : Nat → Prop} {φ : Nat → Value} {a : Act} {W : World} (r : Rel C used N t h ro φ a W) {vs : List Value} (hl : RepL W ro φ h args vs)
    (hd : ∀ d, o.dst = some d → d < N) {K : Act → World → Prop} {Q : Exit → Act → World → Prop} (hK : ∀ a' W' ro' φ', Rel C used N (putd o.dst x t) h ro' φ' a' W' → K a' W') :
    o.upon P a K Q (.ok (.enter f vs.toArray) W) := by
  refine (hT.2 W ro vs r.rolt r.gok ⟨hl.1, fun j y v h1 h2 => (hl.2 j y v h1 h2).pure (hp y (List.mem_of_getElem? h1))⟩).mono ?_
  rintro e W' ⟨v, ro', rfl, hb, h1, h2, h3, h4⟩
  exact hK _ _ ro' φ ((r.call hb h1 h2).put (h3.pure h4) h4.sc hd)
theorem q80 {xs : Array Operand} {C : Ctx P} {used : Nat → Prop} {N : Nat} {t1 : Nat → AV} {h1 : Nat → Option Blkd} {ro : Nat → Prop} {φ : Nat → Value} {a : Act} {W : World} (r : Rel C used N t1 h1 ro φ a W) (hs : ∀ x ∈ xs, ev t1 x = ev t x ∧ okx t1 x = okx t x) (hx : ∀ x ∈ xs, okx t x) :
    RepL W ro φ h1 (xs.toList.map (ev t)) (xs.toList.map a.eval) := by
  refine ⟨by simp, fun j y v h2 h3 => ?_⟩
  rw [List.getElem?_map] at h2 h3
  cases hq : xs.toList[j]? with
  | none => rw [hq] at h2; simp at h2
  | some q =>
    rw [hq] at h2 h3
    obtain rfl := Option.some.inj h2
    obtain rfl := Option.some.inj h3
    have hm : q ∈ xs := by have := List.mem_of_getElem? hq; simpa using this
    obtain ⟨h4, h5⟩ := hs q hm
    rw [← h4]
    exact q1c r q (h5 ▸ hx q hm)
theorem J_callF (c : Operand) (f : FuncId) (fs cs : List AV) (xs : Array Operand) (tys : Array TypeId) (y : AV) (ho : o.op = .call { callee := .value c, args := xs, argTypes := tys }) (hc : okx t c) (ec : ev t c = .fn (.func f) fs cs) (hx : ∀ x ∈ xs, okx t x) (hp : AV.pureL (fs ++ xs.toList.map (ev t) ++ cs) = true) (hT : Told P f (fs ++ xs.toList.map (ev t) ++ cs) y) : J P o ℓ t h ⟨y, [], []⟩ := by
  intro C used N t1 h1 ro φ a W ht hh hu hd r K Q hK
  have hs : ∀ x ∈ xs, ev t1 x = ev t x ∧ okx t1 x = okx t x := fun x hx => q22 ht (by simp [ho, Op.operands, Call.operands, hx])
  obtain ⟨c2, c3⟩ := q22 ht (x := c) (by simp [ho, Op.operands, Call.operands])
  have hrc := q1c r c (c3 ▸ hc)
  rw [c2, ec] at hrc
  generalize hcv : a.eval c = v at hrc
  unfold Oper.wp
  cases hrc with
  | @fn _ _ _ us vs hl hxx hl' hxx' =>
    have hex : (execOp a.eval o).run P W = .ok (.enter f (us ++ xs.toList.map a.eval ++ vs).toArray) W := by
      have := hT.1 (us.toArray ++ xs.map a.eval ++ vs.toArray) W
      simp only [execOp, ho, resolve, hcv, Deferred.ofValue, Sem.run_bind, Sem.run_pure, Result.andThen_ok, invoke]
      rw [this]
      congr 2
      simp
    rw [hex]
    exact told_wp hT (q5t _ hp) r (RepL.app (RepL.app ⟨hl, hxx⟩ (q80 r hs hx)) ⟨hl', hxx'⟩) hd fun a' W' ro' φ' r' => hK a' W' ro' φ' (r'.take fun j hj => .inl hj)
theorem J_callP (c : Operand) (f : FuncId) (xs : Array Operand) (tys : Array TypeId) (y : AV) (ho : o.op = .call { callee := .value c, args := xs, argTypes := tys }) (hc : okx t c) (ec : ev t c = .c (.v (.func (.func f) ⟨[]⟩ ⟨[]⟩))) (hx : ∀ x ∈ xs, okx t x) (hp : AV.pureL (xs.toList.map (ev t)) = true)
    (hT : Told P f (xs.toList.map (ev t)) y) : J P o ℓ t h ⟨y, [], []⟩ := by
  intro C used N t1 h1 ro φ a W ht hh hu hd r K Q hK
  have hs : ∀ x ∈ xs, ev t1 x = ev t x ∧ okx t1 x = okx t x := fun x hx => q22 ht (by simp [ho, Op.operands, Call.operands, hx])
  obtain ⟨c2, c3⟩ := q22 ht (x := c) (by simp [ho, Op.operands, Call.operands])
  have hrc := q1c r c (c3 ▸ hc)
  rw [c2, ec] at hrc
  have hcv := q13 hrc
  unfold Oper.wp
  have hex : (execOp a.eval o).run P W = .ok (.enter f (xs.toList.map a.eval).toArray) W := by
    have := hT.1 (xs.map a.eval) W
    simp only [execOp, ho, resolve, hcv, Deferred.ofValue, Sem.run_bind, Sem.run_pure, Result.andThen_ok, invoke]
    have e1 : (⟨[]⟩ : Array Value) ++ Array.map a.eval xs ++ ⟨[]⟩ = xs.map a.eval := by simp
    rw [e1, this]
    congr 2
    apply Array.toList_inj.1
    rw [Array.toList_map]
  rw [hex]
  exact told_wp hT (q5t _ hp) r (q80 r hs hx) hd fun a' W' ro' φ' r' => hK a' W' ro' φ' (r'.take fun j hj => .inl hj)
end

end Go.Proofs.YthkofkaocipomaaGreatDoor

namespace Go.Proofs.YthkofkaocipomaaGreatDoor
open Go.RowKit
set_option linter.unusedVariables false
set_option linter.unusedSimpArgs false

section
variable {P : Program} {o : Oper} {ℓ : Nat} {t : Nat → AV} {h : Nat → Option Blkd}
theorem J_max (x y : Operand) (k : IntKind) (a b : Int) (tys : Array TypeId) (ho : o.op = .call { callee := .builtin .max, args := #[x, y], argTypes := tys }) (hx : okx t x) (hy : okx t y) (ex : ev t x = .c (.v (.int k a))) (ey : ev t y = .c (.v (.int k b))) : J P o ℓ t h ⟨.c (.v (.int k (max a b))), [], []⟩ :=
  j3y x y _ _ _ (by simp [ho, Op.operands, Call.operands]) (by simp [ho, Op.operands, Call.operands]) hx hy ex ey rfl fun a' W h1 h2 => by
    have e : (if b > a then b else a) = max a b := by split <;> omega
    simp [execOp, ho, resolve, invoke, builtin, h1, h2, Builtin.max_, Builtin.max2, e]
theorem J_min (x y : Operand) (k : IntKind) (a b : Int) (tys : Array TypeId) (ho : o.op = .call { callee := .builtin .min, args := #[x, y], argTypes := tys }) (hx : okx t x) (hy : okx t y) (ex : ev t x = .c (.v (.int k a))) (ey : ev t y = .c (.v (.int k b))) : J P o ℓ t h ⟨.c (.v (.int k (min a b))), [], []⟩ :=
  j3y x y _ _ _ (by simp [ho, Op.operands, Call.operands]) (by simp [ho, Op.operands, Call.operands]) hx hy ex ey rfl fun a' W h1 h2 => by
    have e : (if b < a then b else a) = min a b := by split <;> omega
    simp [execOp, ho, resolve, invoke, builtin, h1, h2, Builtin.min_, Builtin.min2, e]
theorem j8t (ty : TypeId) (x y : Operand) (T : TyA) (s : ByteArray) (k : IntKind) (i : Int) (ho : o.op = .index ty x y) (hT : tyA P ty = some T) (hk : T.kind = 2) (hx : okx t x) (hy : okx t y) (ex : ev t x = .c (.v (.string s))) (ey : ev t y = .c (.v (.int k i))) (h0 : 0 ≤ i) (h1 : i < (s.size : Int)) :
    J P o ℓ t h ⟨.c (.v (.int .u8 (((s.data.toList[i.toNat]?).getD 0).toNat : Int))), [], []⟩ :=
  j3y x y _ _ _ (by simp [ho, Op.operands]) (by simp [ho, Op.operands]) hx hy ex ey rfl fun a' W h2 h3 => by
    obtain ⟨d, ii, h4, h5, rfl⟩ := q1v hT
    obtain rfl := q8t hk
    have hlt : i.toNat < s.size := by omega
    have hlt' : i.toNat < s.data.toList.length := by simpa using hlt
    have e : s.data.toList[i.toNat]?.getD 0 = s[i.toNat] := by rw [List.getElem?_eq_getElem hlt']; rfl
    rw [e]
    simp [execOp, ho, h2, h3, Instr.index, asIntOf, run_underlying h4, h0, hlt]
theorem J_convI (src dst : TypeId) (x : Operand) (S D : TyA) (k k' : IntKind) (n : Int) (ho : o.op = .convert src dst x) (hS : tyA P src = some S) (hD : tyA P dst = some D) (hk : D.kind = q2m (.int k')) (hx : okx t x) (ex : ev t x = .c (.v (.int k n))) : J P o ℓ t h ⟨.c (.v (.int k' (k'.wrap n))), [], []⟩ :=
  j5y x _ _ (by simp [ho, Op.operands]) hx ex rfl fun a' W h2 => by
    obtain ⟨d, ii, h4, h5, rfl⟩ := q1v hD
    obtain ⟨d', ii', h6, h7, rfl⟩ := q1v hS
    obtain rfl := j4v hk
    simp [execOp, ho, h2, convert, run_underlying h4, run_underlying h6, Conv.intToInt]
def j38 : PV → UInt8
  | .v (.int .u8 n) => n.toNat.toUInt8
  | _ => 0
def q3c (es : List (List PV)) : List UInt8 := es.map fun e => j38 ((e[0]?).getD (.v .nilFunc))
def q51 (es : List (List PV)) : Prop := ∀ e ∈ es, ∃ n : Int, e = [.v (.int .u8 n)] ∧ 0 ≤ n ∧ n < 256
def bstr (l : List UInt8) : ByteArray := ⟨l.toArray⟩
theorem z2i {W : World} {ro : Nat → Prop} {es : List (List PV)} {v : Value} (hr : PRep W ro (.sl 1 es) v) (hb : q51 es) {src dst : TypeId} {S E D : TyA} (hS : tyA P src = some S) (hks : S.kind = 1) (hE : tyA P S.elem = some E) (hke : E.kind = 14) (hD : tyA P dst = some D) (hkd : D.kind = 2) :
    (convert src dst v).run P W = .ok (.string (bstr (q3c es))) W := by
  obtain ⟨d, i1, h1, _, rfl⟩ := q1v hS
  obtain ⟨e, rfl⟩ := q57 hks
  simp only [q4l] at hE
  obtain ⟨de, i2, h2, _, rfl⟩ := q1v hE
  obtain rfl := j4v (k := .u8) hke
  obtain ⟨dd, i3, h3, _, rfl⟩ := q1v hD
  obtain rfl := q8t hkd
  cases hr with
  | @sl _ _ a c vss hn hc hnil ha hl hz hz' hx =>
    by_cases hne : es = []
    · subst hne
      rw [run_convert_bytes_string W _ _ _ a _ c h1 h2 h3]
      cases a with
      | none => simp [Conv.bytesToString, q3c, bstr]; rfl
      | some x => simp [Conv.bytesToString, loadCells, loadCellsFrom, q3c, bstr]; rfl
    · obtain ⟨b, off, rfl, _, hcell⟩ := ha hne
      have hcells : ∀ i, i < es.length → ∃ n : Int, es[i]? = some [.v (.int .u8 n)] ∧ 0 ≤ n ∧ n < 256 ∧ W.cell? ⟨b, off + i, none⟩ = some (.int .u8 n) := by
        intro i hi
        have he := List.getElem?_eq_getElem hi
        obtain ⟨n, hn', h5, h6⟩ := hb _ (List.getElem_mem hi)
        rw [hn'] at he
        have hv : vss[i]? = some (vss[i]'(by omega)) := List.getElem?_eq_getElem _
        have hvl := hz' i _ hv
        have h7 := hcell i _ hv 0 (by omega)
        have h8 : (vss[i]'(by omega))[0]? = some ((vss[i]'(by omega))[0]'(by omega)) := List.getElem?_eq_getElem _
        have h9 := hx i 0 _ _ (.v (.int .u8 n)) _ he hv rfl h8
        generalize (vss[i]'(by omega))[0]'(by omega) = u at h8 h9
        cases h9 with
        | v =>
          refine ⟨n, he, h5, h6, ?_⟩
          rw [Nat.add_zero, Nat.mul_one, h8] at h7
          exact h7
      rw [run_convert_bytes_arg W src e h1 h2 b off es.length c (es.map fun e => match (e[0]?).getD (.v .nilFunc) with | .v (.int .u8 n) => n | _ => 0) (by simp) (fun i hi => ?_) dst h3]
      · congr 2
        simp only [strOfNums, bstr, q3c, List.map_map]
        congr 2
        apply List.map_congr_left
        intro e he
        obtain ⟨n, rfl, h5, h6⟩ := hb e he
        simp [j38]
      · obtain ⟨n, h5, _, _, h6⟩ := hcells i hi
        rw [h6]
        simp [List.getD, h5]
theorem j8l (src dst : TypeId) (x : Operand) (S E D : TyA) (es : List (List PV)) (ho : o.op = .convert src dst x) (hS : tyA P src = some S) (hks : S.kind = 1) (hE : tyA P S.elem = some E) (hke : E.kind = 14) (hD : tyA P dst = some D) (hkd : D.kind = 2) (hx : okx t x) (ex : ev t x = .c (.sl 1 es)) (hb : q51 es) :
    J P o ℓ t h ⟨.c (.v (.string (bstr (q3c es)))), [], []⟩ := by
  refine J.val fun C used N t1 h1 ro φ a W ht hh r => ⟨.string (bstr (q3c es)), ?_, .c (.v rfl), .c⟩
  obtain ⟨h2, h3⟩ := ht x (by simp [ho, Op.operands])
  have hr := q1c r x (h3 ▸ hx)
  rw [h2, ex] at hr
  cases hr with
  | c hp => simp [execOp, ho, z2i hp hb hS hks hE hke hD hkd]
theorem j5c {C : Ctx P} {used : Nat → Prop} {N : Nat} {ro : Nat → Prop} {φ : Nat → Value} {a : Act} {W : World} (r : Rel C used N t h ro φ a W) {j : Nat} {B : Blkd} {es : List (List PV)} (hB : h j = some B) (hrow : B.row = true) (he : B.elems = es.map fun e => e.map .c) :
    PRep W (fun b => ro b ∨ q0y (φ j) = some b) (.sl B.z es) (φ j) := by
  obtain ⟨b1, b2, vs, b3, b4⟩ := r.hp j B hB
  rw [if_pos hrow] at b4
  have hlen : B.len = es.length := by unfold Blkd.len; rw [he]; simp
  have hzz : ∀ (i : Nat) (e' : List PV), es[i]? = some e' → e'.length = B.z := by
    intro i e' he'
    have := b1 i (e'.map .c) (by rw [he, List.getElem?_map, he']; rfl)
    simpa using this
  have hmk : ∀ (aa : Option Addr) (c : Nat), φ j = .slice aa B.len c → B.len ≤ c → c ≤ 9223372036854775807 → (aa = none → c = 0) → (es ≠ [] → ∃ b, aa = some ⟨b, 0, none⟩ ∧ ∀ k, k < vs.length → W.cell? ⟨b, k, none⟩ = vs[k]?) →
      PRep W (fun b => ro b ∨ q0y (φ j) = some b) (.sl B.z es) (φ j) := by
    intro aa c hφ h1 h2 h3 h4
    have hsub : ∀ i e', es[i]? = some e' → RepL W ro φ h (e'.map .c) ((vs.drop (i * B.z)).take B.z) := by
      intro i e' he'
      have hs := b3.sub (i * B.z) B.z
      rwa [q6k b1 (show B.elems[i]? = some (e'.map .c) from by rw [he, List.getElem?_map, he']; rfl)] at hs
    have key := PRep.sl (W := W) (ro := fun b => ro b ∨ q0y (φ j) = some b) (z := B.z) (es := es) (a := aa) (c := c) (vss := (List.range es.length).map fun i => (vs.drop (i * B.z)).take B.z) (by omega) h2 h3 (fun hne => ?_) (by simp) hzz ?_ ?_
    · rw [hφ, hlen]
      rw [hφ, hlen] at key
      exact key
    · obtain ⟨b, h5, h6⟩ := h4 hne
      refine ⟨b, 0, h5, .inr (by rw [hφ, h5]; rfl), fun i vv hvv => ?_⟩
      have hi : i < es.length := by have := (List.getElem?_eq_some_iff.1 hvv).1; simpa using this
      rw [List.getElem?_map, List.getElem?_range hi] at hvv
      obtain rfl := Option.some.inj hvv
      have : q34 W b 0 vs := fun k hk => by rw [Nat.zero_add]; exact h6 k hk
      have := this.sub (i * B.z) B.z
      rwa [Nat.zero_add] at this ⊢
    · intro i vv hvv
      have hi : i < es.length := by have := (List.getElem?_eq_some_iff.1 hvv).1; simpa using this
      rw [List.getElem?_map, List.getElem?_range hi] at hvv
      obtain rfl := Option.some.inj hvv
      have := (hsub i _ (List.getElem?_eq_getElem hi)).1
      show ((vs.drop (i * B.z)).take B.z).length = B.z
      rw [this, List.length_map]
      exact hzz i _ (List.getElem?_eq_getElem hi)
    · intro i k e' vv p u he' hvv hp hu
      have hi := (List.getElem?_eq_some_iff.1 he').1
      rw [List.getElem?_map, List.getElem?_range hi] at hvv
      obtain rfl := Option.some.inj hvv
      have := (hsub i e' he').2 k (.c p) u (by rw [List.getElem?_map, hp]; rfl) hu
      cases this with | c hp => exact hp.map (fun _ _ => rfl) fun b hb => .inl hb
  rcases b4.2 with ⟨h5, h6⟩ | ⟨g, cap, cur, h5, _, h6, h7, h8, h9, h10⟩
  · exact hmk none 0 (by rw [h5, h6]) (by omega) (by omega) (fun _ => rfl) fun hne => absurd (List.eq_nil_of_length_eq_zero (by omega)) hne
  · refine hmk _ cap h5 h7 (by unfold maxLen at h8; omega) (fun h => by simp at h) fun _ => ⟨g, rfl, fun k hk => ?_⟩
    have := j12 h6 (B.len * B.z)
    rw [h10] at this
    have := this k hk
    rwa [Nat.zero_add] at this
theorem j8m (src dst : TypeId) (x : Operand) (S E D : TyA) (j n : Nat) (B : Blkd) (es : List (List PV)) (ho : o.op = .convert src dst x) (hS : tyA P src = some S) (hks : S.kind = 1) (hE : tyA P S.elem = some E) (hke : E.kind = 14) (hD : tyA P dst = some D) (hkd : D.kind = 2) (hx : okx t x) (ex : ev t x = .row j n)
    (hB : h j = some B) (hrow : B.row = true) (hn : B.len = n) (hz : B.z = 1) (he : B.elems = es.map fun e => e.map .c) (hb : q51 es) : J P o ℓ t h ⟨.c (.v (.string (bstr (q3c es)))), [j], []⟩ := by
  refine J.val fun C used N t1 h1 ro φ a W ht hh r => ⟨.string (bstr (q3c es)), ?_, .c (.v rfl), .c⟩
  obtain ⟨h2, h3⟩ := ht x (by simp [ho, Op.operands])
  have hr := q1c r x (h3 ▸ hx)
  rw [h2, ex] at hr
  have hB1 : h1 j = some B := (hh j (by simp)).trans hB
  generalize hv : a.eval x = v at hr
  cases hr with
  | row _ hr =>
    obtain rfl := hr B hB1 hn
    have hp := j5c r hB1 hrow he
    rw [hz] at hp
    simp [execOp, ho, hv, z2i hp hb hS hks hE hke hD hkd]
theorem j8n (src dst : TypeId) (x : Operand) (S D : TyA) (s : ByteArray) (ho : o.op = .convert src dst x) (hS : tyA P src = some S) (hD : tyA P dst = some D) (hk : D.kind = 2) (hx : okx t x) (ex : ev t x = .c (.v (.string s))) : J P o ℓ t h ⟨.c (.v (.string s)), [], []⟩ :=
  j5y x _ _ (by simp [ho, Op.operands]) hx ex rfl fun a' W h2 => by
    obtain ⟨d, ii, h4, h5, rfl⟩ := q1v hD
    obtain ⟨d', ii', h6, h7, rfl⟩ := q1v hS
    obtain rfl := q8t hk
    simp [execOp, ho, h2, convert, run_underlying h4, run_underlying h6]
theorem j8u (fn : Fn) (first captured : Array Operand) (ho : o.op = .makeFunc fn first captured) (hx : ∀ x ∈ first, okx t x) (hx' : ∀ x ∈ captured, okx t x) : J P o ℓ t h ⟨.fn fn (first.toList.map (ev t)) (captured.toList.map (ev t)), [], []⟩ := by
  refine J.val fun C used N t1 h1 ro φ a W ht hh r => ⟨.func fn (first.map a.eval) (captured.map a.eval), ?_, ?_, ?_⟩
  · simp [execOp, ho, Instr.makeFunc]
  · have h1 := q80 (xs := first) r (fun x hx => ht x (by simp [ho, Op.operands, hx])) hx
    have h2 := q80 (xs := captured) r (fun x hx => ht x (by simp [ho, Op.operands, hx])) hx'
    have e1 : first.map a.eval = (first.toList.map a.eval).toArray := by rw [← Array.toList_map, Array.toArray_toList]
    have e2 : captured.map a.eval = (captured.toList.map a.eval).toArray := by rw [← Array.toList_map, Array.toArray_toList]
    rw [e1, e2]
    exact .fn h1.1 h1.2 h2.1 h2.2
  · refine .fn (fun y hy => ?_) (fun y hy => ?_)
    all_goals
      obtain ⟨x, hxm, rfl⟩ := List.mem_map.1 hy
      obtain ⟨h2, h3⟩ := ht x (by simp [ho, Op.operands]; first | exact .inl (by simpa using hxm) | exact .inr (by simpa using hxm))
      rw [← h2]
      refine q3j r x (h3 ▸ ?_)
      first | exact hx x (by simpa using hxm) | exact hx' x (by simpa using hxm)
end

end Go.Proofs.YthkofkaocipomaaGreatDoor

namespace Go.Proofs.YthkofkaocipomaaGreatDoor
open Go.RowKit
set_option linter.unusedVariables false
set_option linter.unusedSimpArgs false

theorem PRep.mapC {W W' : World} {ro ro' : Nat → Prop} {p : PV} {v : Value} (h : PRep W ro p v) (hs : ∀ b, ro b → ∀ o, W'.cell? ⟨b, o, none⟩ = W.cell? ⟨b, o, none⟩) (hr : ∀ b, ro b → ro' b) : PRep W' ro' p v := by
  induction h with
  | v h => exact .v h
  | sl hn hc hnil ha hl hz hz' hx ih =>
    refine .sl hn hc hnil (fun hne => ?_) hl hz hz' (fun i j e vs p v h1 h2 h3 h4 => ih i j e vs p v h1 h2 h3 h4)
    obtain ⟨b, off, h1, h2, h3⟩ := ha hne
    exact ⟨b, off, h1, hr b h2, fun i vs hv j hj => (hs b h2 _).trans (h3 i vs hv j hj)⟩
section
variable {P : Program} {o : Oper} {ℓ : Nat} {t : Nat → AV} {h : Nat → Option Blkd}
def q0o (l : List UInt8) : List (List PV) := l.map fun b => [.v (.int .u8 (b.toNat : Int))]
theorem bytePV_ok (l : List UInt8) : q51 (q0o l) := by
  intro e he
  obtain ⟨b, _, rfl⟩ := List.mem_map.1 he
  exact ⟨_, rfl, by omega, by have := b.toNat_lt; omega⟩
theorem j9k (l : List UInt8) : q3c (q0o l) = l := by
  unfold q3c q0o
  rw [List.map_map]
  conv => rhs; rw [← List.map_id l]
  apply List.map_congr_left
  intro b _
  simp [j38]
theorem j8y (src dst : TypeId) (x : Operand) (S D E : TyA) (s : ByteArray) (ho : o.op = .convert src dst x) (hS : tyA P src = some S) (hks : S.kind = 2) (hD : tyA P dst = some D) (hkd : D.kind = 1) (hE : tyA P D.elem = some E) (hke : E.kind = 14) (hx : okx t x) (ex : ev t x = .c (.v (.string s)))
    (hsz : s.size ≤ 140737488355328) : J P o ℓ t h ⟨.c (.sl 1 (q0o s.data.toList)), [], []⟩ := by
  intro C used N t1 h1 ro φ a W ht hh hu hd r K Q hK
  obtain ⟨x2, x3⟩ := q22 ht (x := x) (by simp [ho, Op.operands])
  have hrx := q1c r x (x3 ▸ hx)
  rw [x2, ex] at hrx
  have hvx := q13 hrx
  obtain ⟨d1, i1, a1, _, rfl⟩ := q1v hS
  obtain rfl := q8t hks
  obtain ⟨d2, i2, a2, _, rfl⟩ := q1v hD
  obtain ⟨e, rfl⟩ := q57 hkd
  simp only [q4l] at hE
  obtain ⟨d3, i3, a3, _, rfl⟩ := q1v hE
  obtain rfl := j4v (k := .u8) hke
  have hrun := run_bytes_of_string (P := P) W src dst e s a1 a2 a3
  have hge := grownCap_ge W s.size 0 e
  have hle := grownCap_le_maxLen W s.size 0 e (by unfold maxLen; omega)
  generalize grownCap W s.size 0 e = cap at hrun hge hle
  generalize hW' : W.drew.alloc (.cells (bytesRow s cap) e ((bytesRow s cap).size, (bytesRow s cap).size + 1)) = W' at hrun
  unfold Oper.wp
  have hex : (execOp a.eval o).run P W = .ok (.value (.slice (some ⟨W.heap.size, 0, none⟩) s.size cap)) W' := by simp [execOp, ho, hvx, hrun]
  rw [hex]
  have hb : Below W.heap.size W W' := by rw [← hW']; exact ((Below.refl _ W).drew).alloc (Nat.le_refl _) _
  have hcell : ∀ j, W'.cell? ⟨W.heap.size, j, none⟩ = (bytesRow s cap)[j]? := fun j => by rw [← hW']; exact World.cell?_alloc_mark W.drew _ e _ j
  have hsz' : W'.heap.size = W.heap.size + 1 := by rw [← hW']; simp
  have r2 := r.call (ro' := fun b => ro b ∨ b = W.heap.size) hb (fun b hb => .inl hb) (fun b hb => by
    rcases hb with hb | hb
    · exact ⟨.inl hb, by have := r.rolt b hb; omega⟩
    · exact ⟨.inr (by omega), by omega⟩)
  refine hK _ _ _ φ ((r2.put (.c ?_) .c hd).take fun j hj => .inl hj)
  have hl : (q0o s.data.toList).length = s.size := by simp [q0o]
  rw [← hl] at hge ⊢
  refine .sl (vss := s.data.toList.map fun b => [.int .u8 (b.toNat : Int)]) hge (by unfold maxLen at hle; omega) (fun h => by simp at h) (fun hne => ⟨_, 0, rfl, .inr rfl, fun i vs hv j hj => ?_⟩) (by simp [q0o]) (fun i e he => ?_) (fun i e he => ?_) (fun i j e vs p v he hv hp hv' => ?_)
  · rw [List.getElem?_map] at hv
    cases hq : s.data.toList[i]? with
    | none => rw [hq] at hv; simp at hv
    | some b =>
      rw [hq] at hv
      obtain rfl := Option.some.inj hv
      simp at hj
      subst hj
      have hi : i < s.data.size := by have := (List.getElem?_eq_some_iff.1 hq).1; simpa using this
      rw [Nat.zero_add, Nat.mul_one, Nat.add_zero, hcell i, bytesRow_at s cap i hi]
      have : s.data[i] = b := by
        have h3 : s.data.toList[i]? = some s.data[i] := by simp
        rw [h3] at hq
        exact Option.some.inj hq
      simp [this]
  · unfold q0o at he
    rw [List.getElem?_map] at he
    cases hq : s.data.toList[i]? with
    | none => rw [hq] at he; simp at he
    | some b => rw [hq] at he; obtain rfl := Option.some.inj he; rfl
  · rw [List.getElem?_map] at he
    cases hq : s.data.toList[i]? with
    | none => rw [hq] at he; simp at he
    | some b => rw [hq] at he; obtain rfl := Option.some.inj he; rfl
  · unfold q0o at he
    rw [List.getElem?_map] at he hv
    cases hq : s.data.toList[i]? with
    | none => rw [hq] at he; simp at he
    | some b =>
      rw [hq] at he hv
      obtain rfl := Option.some.inj he
      obtain rfl := Option.some.inj hv
      cases j with
      | zero =>
        simp at hp hv'
        subst hp hv'
        exact .v rfl
      | succ j => simp at hp
theorem Rel.drop {C : Ctx P} {used : Nat → Prop} {N : Nat} {t1 : Nat → AV} {h1 : Nat → Option Blkd} {ro : Nat → Prop} {φ : Nat → Value} {a : Act} {W W' : World} (r : Rel C used N t1 h1 ro φ a W) {j b : Nat} {B : Blkd} (hB : h1 j = some B) (hb : q0y (φ j) = some b)
    (hk : Keeps (fun k => k = b) W W') : Rel C used N t1 (upd h1 j none) (fun k => ro k ∨ k = b) φ a W' := by
  have hw : ∀ k, ro k → W'.heap[k]? = W.heap[k]? := fun k hk' => hk.block k (r.rolt k hk') fun e => (r.own j B b hB hb).1 (e ▸ hk')
  have hh : ∀ k B', upd h1 j none k = some B' → k ≠ j ∧ h1 k = some B' := by
    intro k B' hB'
    by_cases hkj : k = j
    · subst hkj
      rw [q1a] at hB'
      simp at hB'
    · rw [q1p _ _ hkj] at hB'
      exact ⟨hkj, hB'⟩
  have hg : Goes used φ φ h1 (upd h1 j none) := fun k B' hu hB' => ⟨B', (hh k B' hB').2, .inr ⟨rfl, rfl, rfl⟩⟩
  have hsg : ∀ k B', used k → upd h1 j none k = some B' → ∃ B0, h1 k = some B0 ∧ B0.len ≤ B'.len := fun k B' hu hB' => ⟨B', (hh k B' hB').2, Nat.le_refl _⟩
  have hblt := r.blk_lt hB hb
  refine ⟨⟨hk.os.trans r.keep.os, hk.tape.trans r.keep.tape, hk.output.trans r.keep.output, Nat.le_trans r.keep.size hk.size, fun k hk' hm => ?_⟩, r.defers, r.size, fun k => (r.tm k).map (r.scT k) hw (fun _ h => .inl h) hg,
    fun k B' hB' => ?_, fun k k' B1 B2 b' h2 h3 => r.inj k k' B1 B2 b' (hh k B1 h2).2 (hh k' B2 h3).2, fun k B' b' hB' hb' => ⟨fun hr => ?_, (r.own k B' b' (hh k B' hB').2 hb').2⟩, fun k hk' => ?_, fun k hk' => .inl (r.ro0 k hk'), fun k hk' => ?_,
    fun k => (r.scT k).map (fun _ h => h) hsg, fun k B' hB' => ⟨(r.scH k B' (hh k B' hB').2).1, fun e he x hx => ((r.scH k B' (hh k B' hB').2).2 e he x hx).map (fun _ h => h) hsg⟩, fun k n hn => ⟨(r.lent k n hn).1, (r.lent k n hn).2.1, fun B' hB' => (r.lent k n hn).2.2 B' (hh k B' hB').2⟩, r.glob⟩
  · rw [hk.block k (Nat.lt_of_lt_of_le hk' r.keep.size) fun e => by
      subst e
      exact hm ((r.own j B k hB hb).2 hk')]
    exact r.keep.block k hk' hm
  · obtain ⟨h2, h3⟩ := hh k B' hB'
    refine (r.hp k B' h3).map (r.scH k B' h3).2 hw (fun _ h => .inl h) hg rfl fun b' hb' => hk.block b' (r.blk_lt h3 hb') fun e => ?_
    subst e
    exact r.inj j k B B' b' hB h3 (fun e => h2 e.symm) hb hb'
  · obtain ⟨h2, h3⟩ := hh k B' hB'
    rcases hr with hr | hr
    · exact (r.own k B' b' h3 hb').1 hr
    · subst hr
      exact r.inj j k B B' b' hB h3 (fun e => h2 e.symm) hb hb'
  · rcases hk' with hk' | hk'
    · exact Nat.lt_of_lt_of_le (r.rolt k hk') hk.size
    · subst hk'; exact Nat.lt_of_lt_of_le hblt hk.size
  · rcases hk' with hk' | hk'
    · exact r.ronew k hk'
    · subst hk'
      rcases Nat.lt_or_ge k C.W0.heap.size with h2 | h2
      · exact .inr (.inr ((r.own j B k hB hb).2 h2))
      · exact .inr (.inl h2)
theorem J_mark (ty : TypeId) (x : Operand) (S E : TyA) (j n : Nat) (B : Blkd) (es : List (List PV)) (ho : o.op = .convert ty ty x) (hS : tyA P ty = some S) (hks : S.kind = 1) (hE : tyA P S.elem = some E) (hke : E.kind = 14) (hx : okx t x) (ex : ev t x = .row j n)
    (hB : h j = some B) (hrow : B.row = true) (hn : B.len = n) (h0 : 0 < n) (he : B.elems = es.map fun e => e.map .c) : J P o ℓ t h ⟨.c (.sl B.z es), [j], [(j, none)]⟩ := by
  intro C used N t1 h1 ro φ a W ht hh hu hd r K Q hK
  obtain ⟨x2, x3⟩ := q22 ht (x := x) (by simp [ho, Op.operands])
  have hrx := q1c r x (x3 ▸ hx)
  rw [x2, ex] at hrx
  have hB1 : h1 j = some B := (hh j (by simp)).trans hB
  have hview := j5c r hB1 hrow he
  obtain ⟨b, cur, hb, hcur, _, hr2, _⟩ := (r.hp j B hB1).mem (List.getElem?_eq_getElem (show 0 < B.elems.length from by unfold Blkd.len at hn; omega))
  obtain ⟨cap, hφ, _⟩ := hr2 hrow
  generalize hv : a.eval x = v at hrx
  cases hrx with
  | row _ hrx =>
  obtain rfl := hrx B hB1 hn
  obtain ⟨d1, i1, a1, _, rfl⟩ := q1v hS
  obtain ⟨e, rfl⟩ := q57 hks
  simp only [q4l] at hE
  obtain ⟨d3, i3, a3, _, rfl⟩ := q1v hE
  obtain rfl := j4v (k := .u8) hke
  generalize hW' : W.freeze ⟨b, cur.size, none⟩ 1 = W'
  have hsh : W.shape? b = some (B.T, cur.size) := by simp [World.shape?, hcur]
  have hex : (execOp a.eval o).run P W = .ok (.value (φ j)) W' := by
    simp [execOp, ho, hv, hφ, convert, run_underlying a1, run_underlying a3, markStringish, hsh, hW']
  have hheap : ∀ k, W'.heap[k]? = if k = b then some (.cells cur B.T (cur.size, cur.size + 1)) else W.heap[k]? := by
    intro k
    rw [← hW']
    unfold World.freeze
    rw [if_neg (by decide)]
    simp only [Array.getElem?_modify]
    by_cases hkb : k = b
    · subst hkb
      rw [if_pos rfl, if_pos rfl, hcur]
      simp
    · rw [if_neg (fun e => hkb e.symm), if_neg hkb]
  have hsize : W'.heap.size = W.heap.size := by
    rw [← hW']
    unfold World.freeze
    rw [if_neg (by decide)]
    simp
  have hkeep : Keeps (fun k => k = b) W W' := ⟨by rw [← hW']; unfold World.freeze; rw [if_neg (by decide)], by rw [← hW']; unfold World.freeze; rw [if_neg (by decide)], by rw [← hW']; unfold World.freeze; rw [if_neg (by decide)], by omega,
    fun k _ hk => by rw [hheap, if_neg hk]⟩
  have hcells : ∀ k, (ro k ∨ q0y (φ j) = some k) → ∀ o', W'.cell? ⟨k, o', none⟩ = W.cell? ⟨k, o', none⟩ := by
    intro k hk o'
    by_cases hkb : k = b
    · subst hkb
      simp [World.cell?, hheap, hcur]
    · have := hheap k
      rw [if_neg hkb] at this
      simp [World.cell?, this]
  unfold Oper.wp
  rw [hex]
  have r2 := r.drop hB1 hb hkeep
  refine hK _ _ _ φ ((r2.put (d := o.dst) (x := .c (.sl B.z es)) (v := φ j) (.c (hview.mapC hcells fun k hk => ?_)) .c hd).take fun j hj => .inl hj)
  rcases hk with hk | hk
  · exact .inl hk
  · rw [hb] at hk
    exact .inr (Option.some.inj hk).symm
inductive Flat : AV → Prop
  | any : Flat .any
  | v (x : Value) : Flat (.c (.v x))
  | agg {l : List AV} (hl : ∀ x ∈ l, Flat x) : Flat (.agg l)
  | tup {l : List AV} (hl : ∀ x ∈ l, Flat x) : Flat (.tup l)
theorem Flat.rep {W W' : World} {ro ro' : Nat → Prop} {φ φ' : Nat → Value} {h' : Nat → Option Blkd} {x : AV} {v : Value} (hr : Rep W ro φ h x v) (hf : Flat x) : Rep W' ro' φ' h' x v := by
  induction hr with
  | any v => exact .any v
  | c hp => cases hf with | v => cases hp with | v h => exact .c (.v h)
  | agg hl hx ih => cases hf with | agg hf => exact .agg hl fun j x v h1 h2 => ih j x v h1 h2 (hf x (List.mem_of_getElem? h1))
  | tup hl hx ih => cases hf with | tup hf => exact .tup hl fun j x v h1 h2 => ih j x v h1 h2 (hf x (List.mem_of_getElem? h1))
  | _ => cases hf
mutual
def AV.flatB : AV → Bool
  | .any => true | .c (.v _) => true | .agg l => AV.flatL l | .tup l => AV.flatL l | _ => false
def AV.flatL : List AV → Bool
  | [] => true
  | x :: l => x.flatB && AV.flatL l
end
mutual
theorem flat_of : ∀ (x : AV), x.flatB = true → Flat x
  | .any, _ => .any
  | .c (.v _), _ => .v _
  | .c (.sl ..), h => by simp [AV.flatB] at h
  | .pp _, h => by simp [AV.flatB] at h
  | .ref .., h => by simp [AV.flatB] at h
  | .row .., h => by simp [AV.flatB] at h
  | .opt .., h => by simp [AV.flatB] at h
  | .fn .., h => by simp [AV.flatB] at h
  | .agg l, h => .agg (j6i l (by simpa [AV.flatB] using h))
  | .tup l, h => .tup (j6i l (by simpa [AV.flatB] using h))
theorem j6i : ∀ (l : List AV), AV.flatL l = true → ∀ x ∈ l, Flat x
  | [], _ => by simp
  | x :: l, h => by
    simp [AV.flatL] at h
    intro y hy
    rcases List.mem_cons.1 hy with e | hy
    · rw [e]; exact flat_of x h.1
    · exact j6i l h.2 y hy
end
inductive View (h : Nat → Option Blkd) : AV → AV → Prop
  | same (x : AV) : View h x x
  | row {j n : Nat} {B : Blkd} {es : List (List PV)} (hB : h j = some B) (hr : B.row = true) (hn : B.len = n) (he : B.elems = es.map fun e => e.map .c) : View h (.row j n) (.c (.sl B.z es))
  | agg {l m : List AV} (hl : m.length = l.length) (hx : ∀ (k : Nat) (x y : AV), l[k]? = some x → m[k]? = some y → View h x y) : View h (.agg l) (.agg m)
  | nil (z : Nat) : View h (.c (.v (.slice none 0 0))) (.c (.sl z []))
  | ref {j n i off : Nat} {B : Blkd} {e : List AV} {es : List PV} (hB : h j = some B) (hn : B.len = n) (hi : B.elems[i]? = some e) (he : e = es.map .c) : View h (.ref j n i off) (.pp (es.drop off))
  | fn {f : Fn} {l m l' m' : List AV} (hl : l'.length = l.length) (hx : ∀ (k : Nat) (x y : AV), l[k]? = some x → l'[k]? = some y → View h x y) (hl' : m'.length = m.length) (hx' : ∀ (k : Nat) (x y : AV), m[k]? = some x → m'[k]? = some y → View h x y) : View h (.fn f l m) (.fn f l' m')
theorem View.rep {C : Ctx P} {used : Nat → Prop} {N : Nat} {ro : Nat → Prop} {φ : Nat → Value} {a : Act} {W : World} (r : Rel C used N t h ro φ a W) {x y : AV} (hw : View h x y) : ∀ {v : Value}, Rep W ro φ h x v → Rep W (fun b => ro b ∨ ∃ j B, h j = some B ∧ q0y (φ j) = some b) φ h y v := by
  induction hw with
  | same x =>
    intro v hr
    have : ∀ (x : AV) (v : Value), Rep W ro φ h x v → Rep W (fun b => ro b ∨ ∃ j B, h j = some B ∧ q0y (φ j) = some b) φ h x v := by
      intro x v hr
      induction hr with
      | any v => exact .any v
      | c hp => exact .c (hp.map (fun _ _ => rfl) fun b hb => .inl hb)
      | ref h1 hv => exact .ref h1 hv
      | row h1 hv => exact .row h1 hv
      | pp hb hc hp => exact .pp (.inl hb) hc (hp.map (fun _ _ => rfl) fun b hb => .inl hb)
      | agg hl hx ih => exact .agg hl ih
      | tup hl hx ih => exact .tup hl ih
      | opt hx hu ih => exact .opt ih hu
      | fn hl hx hl' hx' ih ih' => exact .fn hl ih hl' ih'
    exact this x v hr
  | row hB hr hn he =>
    intro v hrep
    cases hrep with
    | row _ hv =>
      obtain rfl := hv _ hB hn
      exact .c ((j5c r hB hr he).map (fun _ _ => rfl) fun b hb => hb.elim .inl fun h => .inr ⟨_, _, hB, h⟩)
  | agg hl hx ih =>
    intro v hrep
    cases hrep with
    | agg hl' hx' =>
      rename_i l m vs
      refine .agg (by omega) fun k y u h1 h2 => ?_
      have hk : k < l.length := by have := (List.getElem?_eq_some_iff.1 h1).1; omega
      exact ih k _ y (List.getElem?_eq_getElem hk) h1 (hx' k _ u (List.getElem?_eq_getElem hk) h2)
  | nil z =>
    intro v hrep
    obtain rfl := q13 hrep
    exact .c (.sl (vss := []) (by simp) (by omega) (fun _ => rfl) (fun h => absurd rfl h) rfl (fun i e h => by simp at h) (fun i e h => by simp at h) (fun i j e vs p v h => by simp at h))
  | @ref j n i off B e es hB hn hi he =>
    intro v hrep
    cases hrep with
    | ref _ hv =>
      obtain ⟨b, hb, rfl⟩ := hv _ hB hn
      obtain ⟨g, vs, hg', hc, hl⟩ := (r.hp j B hB).read hi
      rw [hb] at hg'
      obtain rfl := Option.some.inj hg'
      refine .pp (vs := vs.drop off) (.inr ⟨_, _, hB, hb⟩) ?_ ⟨?_, fun k p v hp hv => ?_⟩
      · have := hc.sub off (vs.length - off)
        rwa [List.take_of_length_le (by simp)] at this
      · rw [List.length_drop, List.length_drop, hl.1, he, List.length_map]
      · rw [List.getElem?_drop] at hp hv
        have := hl.2 (off + k) (.c p) v (by rw [he, List.getElem?_map, hp]; rfl) hv
        cases this with
        | c hp => exact hp.map (fun _ _ => rfl) fun b hb => .inl hb
  | fn hl1 hx hl2 hx' ih ih' =>
    intro v hrep
    cases hrep with
    | fn q1 q2 q3 q4 =>
      rename_i l m l' m' us vs
      refine .fn (by omega) (fun k y u h1 h2 => ?_) (by omega) (fun k y u h1 h2 => ?_)
      · have hk : k < l.length := by have := (List.getElem?_eq_some_iff.1 h1).1; omega
        exact ih k _ y (List.getElem?_eq_getElem hk) h1 (q2 k _ u (List.getElem?_eq_getElem hk) h2)
      · have hk : k < m.length := by have := (List.getElem?_eq_some_iff.1 h1).1; omega
        exact ih' k _ y (List.getElem?_eq_getElem hk) h1 (q4 k _ u (List.getElem?_eq_getElem hk) h2)
theorem J_callV (c : Operand) (f : FuncId) (fs cs bs : List AV) (xs : Array Operand) (tys : Array TypeId) (y : AV) (rd : List Nat) (ho : o.op = .call { callee := .value c, args := xs, argTypes := tys }) (hc : okx t c) (ec : ev t c = .fn (.func f) fs cs) (hx : ∀ x ∈ xs, okx t x) (hp : AV.pureL bs = true) 
    (hl : bs.length = (fs ++ xs.toList.map (ev t) ++ cs).length) (hv : ∀ (k : Nat) (x z : AV), (fs ++ xs.toList.map (ev t) ++ cs)[k]? = some x → bs[k]? = some z → View (fun j => if j ∈ rd then h j else none) x z) (hf : y.flatB = true) (hT : Told P f bs y) : J P o ℓ t h ⟨y, rd, []⟩ := by
  intro C used N t1 h1 ro φ a W ht hh hu hd r K Q hK
  have hs : ∀ x ∈ xs, ev t1 x = ev t x ∧ okx t1 x = okx t x := fun x hx => q22 ht (by simp [ho, Op.operands, Call.operands, hx])
  obtain ⟨c2, c3⟩ := q22 ht (x := c) (by simp [ho, Op.operands, Call.operands])
  have hrc := q1c r c (c3 ▸ hc)
  rw [c2, ec] at hrc
  have hvw : ∀ x z, View (fun j => if j ∈ rd then h j else none) x z → View h1 x z := by
    intro x z hw
    induction hw with
    | same x => exact .same x
    | row hB hr hn he =>
      rename_i j n B es
      split at hB
      · rename_i hj
        exact .row ((hh j hj).trans hB) hr hn he
      · simp at hB
    | agg hl hx ih => exact .agg hl ih
    | nil z => exact .nil z
    | ref hB hn hi he =>
      rename_i j n i off B e es
      split at hB
      · rename_i hj
        exact .ref ((hh j hj).trans hB) hn hi he
      · simp at hB
    | fn hl hx hl' hx' ih ih' => exact .fn hl ih hl' ih'
  generalize hcv : a.eval c = v at hrc
  unfold Oper.wp
  cases hrc with
  | @fn _ _ _ us vs hl1 hxx hl' hxx' =>
    have hex : (execOp a.eval o).run P W = .ok (.enter f (us ++ xs.toList.map a.eval ++ vs).toArray) W := by
      have := hT.1 (us.toArray ++ xs.map a.eval ++ vs.toArray) W
      simp only [execOp, ho, resolve, hcv, Deferred.ofValue, Sem.run_bind, Sem.run_pure, Result.andThen_ok, invoke]
      rw [this]
      congr 2
      simp
    rw [hex]
    have hL := RepL.app (RepL.app ⟨hl1, hxx⟩ (q80 r hs hx)) ⟨hl', hxx'⟩
    have hL' : RepL W (fun b => ro b ∨ ∃ j B, h1 j = some B ∧ q0y (φ j) = some b) φ0 h0 bs (us ++ xs.toList.map a.eval ++ vs) := by
      refine ⟨by rw [hL.1, hl], fun k z u h2 h3 => ?_⟩
      have hk : k < (fs ++ xs.toList.map (ev t) ++ cs).length := by have := (List.getElem?_eq_some_iff.1 h2).1; omega
      exact ((hvw _ _ (hv k _ z (List.getElem?_eq_getElem hk) h2)).rep r (hL.2 k _ u (List.getElem?_eq_getElem hk) h3)).pure (q5t _ hp z (List.mem_of_getElem? h2))
    refine (hT.2 W _ _ (fun b hb => ?_) (r.gok.mono (fun _ _ => rfl) fun b hb => .inl hb) hL').mono ?_
    · rcases hb with hb | ⟨j, B, hB, hb⟩
      · exact r.rolt b hb
      · exact r.blk_lt hB hb
    · rintro e W' ⟨v, ro', rfl, hb, h2, h3, h4, h5⟩
      have hfl := flat_of y hf
      refine hK _ _ ro φ (((r.call (ro' := ro) hb (fun _ h => h) (fun b hb' => ⟨.inl hb', Nat.lt_of_lt_of_le (r.rolt b hb') hb.size⟩)).put (hfl.rep h4) h5.sc hd).take fun j hj => .inl hj)
end

end Go.Proofs.YthkofkaocipomaaGreatDoor
