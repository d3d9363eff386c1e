/- Texts that lead to the law EncodeParts, joined. -/
import Derived.Test.YtmooihlndkgdaaaGreatDoorPkEncodePartsXAbB
import Derived.ProofKit
import Derived.OpenShut
import Derived.ChangeOld
import Derived.Below
import Derived.Test.YtmooihlndkgdaaaGreatDoorProg
import Derived.WalkKit
import Derived.WalkSpells
import Derived.WalkLawsBesides
import Derived.Handy
import Derived.Lib.Hide
import Derived.Laws.BytesArg
import Derived.Lib.SlBytesConst
import Derived.Test.YtmooihlndkgdaaaGreatDoorPkEncodePartsXTy
namespace Go.Proofs.YtmooihlndkgdaaaGreatDoor
open Go.RowKit
set_option linter.unusedVariables false
set_option linter.unusedSimpArgs false
section
open Go.RowKit Go.ChangeShapes Go.WideShapes Go.ChangeAt
inductive TyPV (P : Program) : TypeId → List PV → Prop
  | bool {t : TypeId} {b : Bool} (ht : P.underlying t = some .bool) : TyPV P t [.v (.bool b)]
  | int {t : TypeId} {k : IntKind} {n : Int} (ht : P.underlying t = some (.int k)) (hw : (Lit.int k n).wf = true) : TyPV P t [.v (.int k n)]
  | str {t : TypeId} {s : ByteArray} (ht : P.underlying t = some .string) (hs : s.size ≤ maxLen) : TyPV P t [.v (.string s)]
  | sl {t e : TypeId} {es : List (List PV)} (ht : P.underlying t = some (.slice e)) (hx : ∀ q ∈ es, TyPV P e q) : TyPV P t [.sl (P.cellsOf e) es]
  | struct {t : TypeId} {fs : Array Field} {ps : List PV} (ht : P.underlying t = some (.struct fs)) (hl : ps.length = P.cellsOf t)
      (hx : ∀ (i : Nat) (f : Field), fs[i]? = some f → TyPV P f.type ((ps.drop f.offset).take (P.cellsOf f.type))) : TyPV P t ps
def tiles (P : Program) : List Field → Nat → Nat → Bool
  | [], o, n => o == n
  | f :: fs, o, n => f.offset == o && tiles P fs (o + P.cellsOf f.type) n
def plainB (P : Program) (l : List TypeId) : Bool := l.all fun t => match P.underlying t with
  | some .bool => P.cellsOf t == 1 | some (.int _) => P.cellsOf t == 1 | some .string => P.cellsOf t == 1
  | some (.slice e) => l.contains e && decide (0 < P.cellsOf e) && (P.cellsOf t == 1)
  | some (.struct fs) => tiles P fs.toList 0 (P.cellsOf t) && fs.toList.all fun f => l.contains f.type
  | _ => false
theorem list_of {α : Type} {p : Nat → α → Prop} : ∀ (n : Nat), (∀ i, i < n → ∃ y, p i y) → ∃ l : List α, l.length = n ∧ ∀ (i : Nat) (y : α), l[i]? = some y → p i y
  | 0, _ => ⟨[], rfl, fun i y h => by simp at h⟩
  | n + 1, h => by
    obtain ⟨l, h1, h2⟩ := list_of n fun i hi => h i (by omega)
    obtain ⟨y, hy⟩ := h n (by omega)
    refine ⟨l ++ [y], by simp [h1], fun i z hz => ?_⟩
    by_cases hi : i < l.length
    · rw [List.getElem?_append_left hi] at hz
      exact h2 i z hz
    · rw [List.getElem?_append_right (by omega)] at hz
      cases hj : i - l.length with
      | zero =>
        rw [hj] at hz
        simp at hz
        subst hz
        rw [show i = n by omega]
        exact hy
      | succ j => rw [hj] at hz; simp at hz
section
variable {P : Program} {w : World}
theorem PRepL.cons_app {ro : Nat → Prop} {p q : List PV} {v u : List Value} (h : PRepL w ro p v) (h' : PRepL w ro q u) : PRepL w ro (p ++ q) (v ++ u) := by
  refine ⟨by simp [h.1, h'.1], fun j x y h1 h2 => ?_⟩
  by_cases hj : j < p.length
  · rw [List.getElem?_append_left hj] at h1
    rw [List.getElem?_append_left (by rw [h.1]; exact hj)] at h2
    exact h.2 j x y h1 h2
  · rw [List.getElem?_append_right (by omega)] at h1
    rw [List.getElem?_append_right (by rw [h.1]; omega), h.1] at h2
    exact h'.2 _ x y h1 h2
theorem tile_rep {ro : Nat → Prop} {cs : List Value} {n : Nat} (hn : cs.length = n) : ∀ (fs : List Field) (o : Nat), o ≤ n → tiles P fs o n = true →
    (∀ f ∈ fs, ∃ q, PRepL w ro q ((cs.drop f.offset).take (P.cellsOf f.type)) ∧ q.length = P.cellsOf f.type ∧ TyPV P f.type q) →
    ∃ ps, PRepL w ro ps (cs.drop o) ∧ ps.length = n - o ∧ ∀ (i : Nat) (f : Field), fs[i]? = some f → o ≤ f.offset ∧ TyPV P f.type ((ps.drop (f.offset - o)).take (P.cellsOf f.type)) := by
  intro fs
  induction fs with
  | nil =>
    intro o ho ht _
    simp [tiles] at ht
    subst ht
    exact ⟨[], ⟨by simp [← hn], by simp⟩, by simp, by simp⟩
  | cons f fs ih =>
    intro o ho ht hf
    simp only [tiles, Bool.and_eq_true, beq_iff_eq] at ht
    obtain ⟨h1, h2⟩ := ht
    obtain ⟨q, hq1, hq2, hq3⟩ := hf f (by simp)
    have hle : o + P.cellsOf f.type ≤ n := by
      have := hq1.1
      rw [hq2, List.length_take, List.length_drop, h1, hn] at this
      omega
    obtain ⟨ps, hp1, hp2, hp3⟩ := ih _ hle h2 fun g hg => hf g (by simp [hg])
    have hsp : cs.drop o = (cs.drop o).take (P.cellsOf f.type) ++ cs.drop (o + P.cellsOf f.type) := by
      rw [← List.drop_drop, List.take_append_drop]
    refine ⟨q ++ ps, ?_, by simp [hq2, hp2]; omega, fun i g hg => ?_⟩
    · rw [hsp]
      rw [h1] at hq1
      exact hq1.cons_app hp1
    · cases i with
      | zero =>
        simp at hg
        subst hg
        refine ⟨by omega, ?_⟩
        rw [h1, Nat.sub_self, List.drop_zero, ← hq2, List.take_left]
        exact hq3
      | succ i =>
        simp at hg
        obtain ⟨h3, h4⟩ := hp3 i g hg
        refine ⟨by omega, ?_⟩
        rw [show g.offset - o = q.length + (g.offset - (o + P.cellsOf f.type)) by omega, List.drop_append, List.drop_of_length_le (by omega), List.nil_append, Nat.add_sub_cancel_left]
        exact h4
variable {H : Type} {enc : TypeId × Value → H} {sp : Nat → Bool} {held : Bool}
theorem lit_prep {W : World} {ro : Nat → Prop} {v : Value} (hv : v.oneCell' = true) : PRepL W ro [.v v] [v] := ⟨rfl, fun j p u h1 h2 => by
  cases j with
  | zero => simp at h1 h2; subst h1 h2; exact .v hv
  | succ j => simp at h1⟩
theorem open_pv {l : List TypeId} (hl : plainB P l = true) : ∀ (fuel : Nat) (t : TypeId) (cs : List Value) (x : DataW H × List MemPlace), t ∈ l → DataW.trod enc P w 0 sp held fuel t cs = some x →
    ∃ ps, PRepL w (fun b => b < w.heap.size) ps cs ∧ ps.length = P.cellsOf t ∧ TyPV P t ps := by
  intro fuel
  induction fuel using Nat.strongRecOn with
  | ind fuel ih =>
  intro t cs x ht h
  have hk := List.all_eq_true.1 hl t ht
  split at hk
  · rename_i hu
    obtain ⟨b, rfl, _⟩ := DataW.trod_bool hu h
    exact ⟨_, lit_prep rfl, (by simpa using hk : P.cellsOf t = 1).symm, .bool hu⟩
  · rename_i k hu
    obtain ⟨n, rfl, _, hw⟩ := DataW.trod_int hu h
    exact ⟨_, lit_prep rfl, (by simpa using hk : P.cellsOf t = 1).symm, .int hu hw⟩
  · rename_i hu
    obtain ⟨s, rfl, _, hs⟩ := DataW.trod_string hu h
    exact ⟨_, lit_prep rfl, (by simpa using hk : P.cellsOf t = 1).symm, .str hu hs⟩
  · rename_i e hu
    simp only [Bool.and_eq_true, List.contains_iff_mem, decide_eq_true_eq, beq_iff_eq] at hk
    obtain ⟨⟨he, hz⟩, hone⟩ := hk
    rcases DataW.trod_slice hu h with ⟨rfl, _⟩ | ⟨a, len, cap, elems, rest, n, rfl, rfl, _, hb, h1, h2, h3, h4, _, _⟩
    · exact ⟨[.sl (P.cellsOf e) []], ⟨rfl, fun j p u g1 g2 => by
        cases j with
        | zero => simp at g1 g2; subst g1 g2; exact PRep.nil _ _ _
        | succ j => simp at g1⟩, hone.symm, .sl hu (by simp)⟩
    · have hex : ∀ i, i < len → ∃ y : List Value × List PV, w.cells? 0 (a.add (i * P.cellsOf e)) (P.cellsOf e) = some y.1 ∧ PRepL w (fun b => b < w.heap.size) y.2 y.1 ∧ y.2.length = P.cellsOf e ∧ TyPV P e y.2 := by
        intro i hi
        have h5 := h4 i hi
        rw [List.getElem?_eq_getElem (show i < elems.length by omega), Option.bind_eq_some_iff] at h5
        obtain ⟨vs, h6, h7⟩ := h5
        obtain ⟨q, h8, h9, h10⟩ := ih n (by omega) e vs _ he h7
        exact ⟨(vs, q), h6, h8, h9, h10⟩
      obtain ⟨L, hL, hLx⟩ := list_of len hex
      have hcell : ∀ (i : Nat) (y : List Value × List PV), L[i]? = some y → y.1.length = P.cellsOf e ∧ ∀ j, j < P.cellsOf e → w.cell? ((a.add (i * P.cellsOf e)).add j) = y.1[j]? := fun i y hy => (World.cells?_some (hLx i y hy).1).2
      have hlen : len = (L.map (·.2)).length := by simp [hL]
      refine ⟨[.sl (P.cellsOf e) (L.map (·.2))], ⟨rfl, fun j p u g1 g2 => ?_⟩, hone.symm, .sl hu fun q hq => ?_⟩
      · cases j with
        | succ j => simp at g1
        | zero =>
        simp at g1 g2
        subst g1 g2
        rw [hlen]
        refine .sl (vss := L.map (·.1)) (by omega) (by unfold maxLen at h2; omega) (fun hn => by simp at hn) (fun hne => ?_) (by simp) (fun i q hq => ?_) (fun i vs hvs => ?_) (fun i j q vs p u hq hvs hp hv => ?_)
        · have hpos : 0 < L.length := List.length_pos_iff.2 (by intro e; apply hne; simp [e])
          obtain ⟨y0, hy0⟩ : ∃ y, L[0]? = some y := ⟨L[0], List.getElem?_eq_getElem hpos⟩
          obtain ⟨c1, c2⟩ := hcell 0 y0 hy0
          have c3 := c2 0 hz
          rw [List.getElem?_eq_getElem (show 0 < y0.1.length by omega)] at c3
          simp only [Nat.zero_mul] at c3
          have hspot := World.cell?_spot c3
          have hlt : a.block < w.heap.size := by
            unfold World.cell? at c3
            have : (a.add 0).add 0 = a := by simp [Addr.add]
            rw [this] at c3
            split at c3
            · rename_i hh
              exact (Array.getElem?_eq_some_iff.1 hh).1
            · simp at c3
          have ha : a = ⟨a.block, a.off, none⟩ := by
            cases a
            simp [Addr.add] at hspot
            simp [hspot]
          refine ⟨a.block, a.off, by rw [← ha], hlt, fun i vs hvs j hj => ?_⟩
          rw [List.getElem?_map] at hvs
          cases hq : L[i]? with
          | none => rw [hq] at hvs; simp at hvs
          | some y =>
            rw [hq] at hvs
            obtain rfl := Option.some.inj hvs
            obtain ⟨d1, d2⟩ := hcell i y hq
            have hj' : j < y.1.length := hj
            rw [← d2 j (by omega), ha, addr_add, addr_add]
        · rw [List.getElem?_map] at hq
          cases hy : L[i]? with
          | none => rw [hy] at hq; simp at hq
          | some y =>
            rw [hy] at hq
            obtain rfl := Option.some.inj hq
            exact (hLx i y hy).2.2.1
        · rw [List.getElem?_map] at hvs
          cases hy : L[i]? with
          | none => rw [hy] at hvs; simp at hvs
          | some y =>
            rw [hy] at hvs
            obtain rfl := Option.some.inj hvs
            exact (hcell i y hy).1
        · rw [List.getElem?_map] at hq hvs
          cases hy : L[i]? with
          | none => rw [hy] at hq; simp at hq
          | some y =>
            rw [hy] at hq hvs
            obtain rfl := Option.some.inj hq
            obtain rfl := Option.some.inj hvs
            exact (hLx i y hy).2.1.2 j p u hp hv
      · obtain ⟨y, hy, rfl⟩ := List.mem_map.1 hq
        obtain ⟨i, hi⟩ := List.mem_iff_getElem?.1 hy
        exact (hLx i y hi).2.2.2
  · rename_i fs hu
    simp only [Bool.and_eq_true] at hk
    obtain ⟨htl, hin⟩ := hk
    obtain ⟨xs, n, rfl, _, h1, h2, h3⟩ := DataW.trod_struct hu h
    obtain ⟨ps, hp1, hp2, hp3⟩ := tile_rep (P := P) (w := w) (ro := fun b => b < w.heap.size) (cs := cs) h1 fs.toList 0 (Nat.zero_le _) htl fun f hf => by
      obtain ⟨i, hi⟩ := List.mem_iff_getElem?.1 hf
      have hi' : fs[i]? = some f := by simpa using hi
      have hlt := (Array.getElem?_eq_some_iff.1 hi').1
      have h4 := h3 i f hi'
      rw [List.getElem?_eq_getElem (show i < xs.length by omega)] at h4
      have hm : f.type ∈ l := by simpa using List.all_eq_true.1 hin f hf
      obtain ⟨q, h5, h6, h7⟩ := ih n (by omega) f.type _ _ hm h4
      exact ⟨q, h5, h6, h7⟩
    refine ⟨ps, by simpa using hp1, by rw [hp2]; simp, .struct hu (by rw [hp2]; simp) fun i f hf => ?_⟩
    simpa using (hp3 i f (by simpa using hf)).2
  · simp at hk
def TyAV (P : Program) (t : TypeId) (x : AV) : Prop := ∃ ps, TyPV P t ps ∧ (((∃ fs, P.underlying t = some (.struct fs)) ∧ x = .agg (ps.map .c)) ∨ ((∀ fs, P.underlying t ≠ some (.struct fs)) ∧ ∃ q, ps = [q] ∧ x = .c q))
theorem prepL_rep {W : World} {ro : Nat → Prop} {φ : Nat → Value} {h : Nat → Option Blkd} {ps : List PV} {cs : List Value} (hp : PRepL W ro ps cs) : Rep W ro φ h (.agg (ps.map .c)) (.agg cs.toArray) := by
  refine .agg (by simp [hp.1]) fun j x v h1 h2 => ?_
  rw [List.getElem?_map] at h1
  cases hq : ps[j]? with
  | none => rw [hq] at h1; simp at h1
  | some p =>
    rw [hq] at h1
    obtain rfl := Option.some.inj h1
    exact .c (hp.2 j p v hq h2)
theorem prepL_one {W : World} {ro : Nat → Prop} {φ : Nat → Value} {h : Nat → Option Blkd} {ps : List PV} {v : Value} (hp : PRepL W ro ps [v]) : ∃ q, ps = [q] ∧ Rep W ro φ h (.c q) v := by
  have := hp.1
  match ps, this with
  | [q], _ => exact ⟨q, rfl, .c (hp.2 0 q v rfl rfl)⟩
theorem open_arg {l : List TypeId} (hl : plainB P l = true) {t : TypeId} (ht : t ∈ l) {r : Reach} {base : Nat} {v : Value} {d : DataW H} {p : List MemPlace} (hval : Value.okWide P w r base t v) (h : DataW.Trod enc P w 0 sp held t v d p) :
    ∃ x, TyAV P t x ∧ Rep w (fun b => b < w.heap.size) φ0 h0 x v := by
  obtain ⟨fuel, hf⟩ := h
  obtain ⟨ps, h1, _, h3⟩ := open_pv hl fuel t _ _ ht hf
  have hk := List.all_eq_true.1 hl t ht
  have key : (∀ fs, P.underlying t ≠ some (.struct fs)) → v.cells.toList = [v] → ∃ x, TyAV P t x ∧ Rep w (fun b => b < w.heap.size) φ0 h0 x v := by
    intro hn hc
    rw [hc] at h1
    obtain ⟨q, rfl, hr⟩ := prepL_one (φ := φ0) (h := h0) h1
    exact ⟨_, ⟨_, h3, .inr ⟨hn, q, rfl, rfl⟩⟩, hr⟩
  split at hk
  · rename_i hu
    obtain ⟨b, rfl⟩ := okWide_bool hu hval
    exact key (by simp [hu]) rfl
  · rename_i k hu
    obtain ⟨n, rfl⟩ := okWide_int hu hval
    exact key (by simp [hu]) rfl
  · rename_i hu
    obtain ⟨s, rfl⟩ := okWide_string hu hval
    exact key (by simp [hu]) rfl
  · rename_i e hu
    obtain ⟨a, len, cap, rfl⟩ := okWide_slice hu hval
    exact key (by simp [hu]) rfl
  · rename_i fs hu
    obtain ⟨cs, rfl, _⟩ := okWide_struct hu hval
    exact ⟨_, ⟨_, h3, .inl ⟨⟨fs, hu⟩, rfl⟩⟩, by simpa [Value.cells] using prepL_rep h1⟩
  · simp at hk
theorem reps_nil {W : World} {ro : Nat → Prop} {φ : Nat → Value} {h : Nat → Option Blkd} : ∀ (j : Nat) (x : AV) (v : Value), ([] : List AV)[j]? = some x → ([] : List Value)[j]? = some v → Rep W ro φ h x v := fun j x v h1 => by simp at h1
theorem reps_cons {W : World} {ro : Nat → Prop} {φ : Nat → Value} {h : Nat → Option Blkd} {y : AV} {u : Value} {l : List AV} {vs : List Value} (hy : Rep W ro φ h y u) (hs : ∀ (j : Nat) (x : AV) (v : Value), l[j]? = some x → vs[j]? = some v → Rep W ro φ h x v) :
    ∀ (j : Nat) (x : AV) (v : Value), (y :: l)[j]? = some x → (u :: vs)[j]? = some v → Rep W ro φ h x v := fun j x v h1 h2 => by
  cases j with
  | zero => simp at h1 h2; subst h1 h2; exact hy
  | succ j => exact hs j x v (by simpa using h1) (by simpa using h2)
end
end

def BytesAt (w : World) (a : Option Addr) (b off : Nat) (l : List UInt8) : Prop :=
  (l ≠ [] → a = some ⟨b, off, none⟩) ∧ ∀ j, j < l.length → w.cell? ⟨b, off + j, none⟩ = some (.int .u8 ((l[j]?.getD 0).toNat : Int))
def str (l : List UInt8) : ByteArray := ⟨l.toArray⟩
theorem str_toList (l : List UInt8) : (str l).toList = l := by rw [ByteArray.toList_eq]; rfl
theorem str_size (l : List UInt8) : (str l).size = l.length := by simp [str, ByteArray.size]
theorem str_of (s : ByteArray) : str s.data.toList = s := by cases s; rfl
theorem BytesAt.keep {w w' : World} {a : Option Addr} {b off : Nat} {l : List UInt8} (h : BytesAt w a b off l) {B : Nat} (hb : Below B w w') (hlt : l ≠ [] → b < B) : BytesAt w' a b off l := by
  refine ⟨h.1, fun j hj => ?_⟩
  rw [← h.2 j hj]
  exact hb.cell (p := ⟨b, off + j, none⟩) (hlt (by intro e; subst e; simp at hj))
theorem BytesAt.lt {w : World} {a : Option Addr} {b off : Nat} {l : List UInt8} (h : BytesAt w a b off l) (hne : l ≠ []) : b < w.heap.size := by
  have := h.2 0 (List.length_pos_iff.2 hne)
  rcases Nat.lt_or_ge b w.heap.size with h | h
  · exact h
  · simp [World.cell?, Array.getElem?_eq_none h] at this
theorem BytesAt.below {w w' : World} {a : Option Addr} {b off : Nat} {l : List UInt8} (h : BytesAt w a b off l) (hb : Below w.heap.size w w') : BytesAt w' a b off l :=
  h.keep hb fun hne => h.lt hne

inductive JT where
  | mk (k : Int) (n : Int) (s : List UInt8) (ks : List (List UInt8)) (xs : List JT)
def idxS (key : List UInt8) (ks : List (List UInt8)) : Int := match ks.findIdx? (fun k => decide (key = k)) with | some i => (i : Int) | none => -1
theorem idxS_at {key : List UInt8} {ks : List (List UInt8)} {i : Nat} (h : ks[i]? = some key) (h0 : ∀ j, j < i → ks[j]? ≠ some key) : idxS key ks = (i : Int) := by
  unfold idxS
  have hi := (List.getElem?_eq_some_iff.1 h)
  have : ks.findIdx? (fun k => decide (key = k)) = some i := by
    rw [List.findIdx?_eq_some_iff_getElem]
    refine ⟨hi.1, by simp [hi.2], fun j hj => ?_⟩
    simp
    intro e
    exact h0 j hj (by rw [List.getElem?_eq_getElem (by have := hi.1; omega), e])
  rw [this]
theorem idxS_none {key : List UInt8} {ks : List (List UInt8)} (h0 : ∀ j, j < ks.length → ks[j]? ≠ some key) : idxS key ks = -1 := by
  unfold idxS
  have : ks.findIdx? (fun k => decide (key = k)) = none := by
    rw [List.findIdx?_eq_none_iff]
    intro x hx
    simp
    intro e
    obtain ⟨j, hj, hx⟩ := List.getElem_of_mem hx
    exact h0 j hj (by rw [List.getElem?_eq_getElem hj, hx, e])
  rw [this]

mutual
def JT.inr : JT → Prop
  | .mk k n s ks xs => (-9223372036854775808 ≤ n ∧ n ≤ 9223372036854775807) ∧ JT.inrL xs
def JT.inrL : List JT → Prop
  | [] => True
  | x :: xs => x.inr ∧ JT.inrL xs
end
theorem inrL_of : ∀ {xs : List JT}, (∀ x ∈ xs, x.inr) → JT.inrL xs
  | [], _ => trivial
  | x :: xs, h => ⟨h x (by simp), inrL_of fun y hy => h y (by simp [hy])⟩

def sPV (s : List UInt8) : List PV := [.v (.string (str s))]
theorem sPV_eq (s : List UInt8) : sPV s = [.v (.string (str s))] := rfl
theorem str_dl (l : List UInt8) : (str l).data.toList = l := by simp [str]
mutual
def JT.cells : JT → List PV
  | .mk k n s ks xs => [.v (.int .i64 k), .v (.int .i64 n), .v (.string (str s)), .sl 5 (JT.cellsL xs), .sl 1 (ks.map sPV)]
def JT.cellsL : List JT → List (List PV)
  | [] => []
  | x :: xs => x.cells :: JT.cellsL xs
end
theorem cellsL_map : ∀ (xs : List JT), JT.cellsL xs = xs.map JT.cells
  | [] => by simp [JT.cellsL]
  | x :: xs => by simp [JT.cellsL, cellsL_map xs]
def JT.av (t : JT) : AV := .agg (t.cells.map .c)
theorem JT.av_eq (t : JT) : t.av = .agg (t.cells.map .c) := rfl
mutual
def tdeep : JT → Nat
  | .mk k n s ks xs => if k = 5 ∨ k = 6 then tdeeps 1 xs else 0
def tdeeps : Nat → List JT → Nat
  | n, [] => n
  | n, x :: xs => tdeeps (max n (1 + tdeep x)) xs
end
theorem cells_mk (k n : Int) (s : List UInt8) (ks : List (List UInt8)) (xs : List JT) : (JT.mk k n s ks xs).cells = [.v (.int .i64 k), .v (.int .i64 n), .v (.string (str s)), .sl 5 (xs.map JT.cells), .sl 1 (ks.map sPV)] := by simp [JT.cells, cellsL_map]
theorem len_cells (t : JT) : t.cells.length = 5 := by cases t; simp [JT.cells]
theorem take_cells (t : JT) : t.cells.take 5 = t.cells := List.take_of_length_le (by rw [len_cells]; exact Nat.le_refl _)
theorem take_cellsC (t : JT) : (t.cells.map AV.c).take 5 = t.cells.map .c := List.take_of_length_le (by rw [List.length_map, len_cells]; exact Nat.le_refl _)
section

section
variable {P : Program}
theorem ty_int {t : TypeId} {k : IntKind} {ps : List PV} (h : TyPV P t ps) (hu : P.underlying t = some (.int k)) : ∃ n, ps = [.v (.int k n)] ∧ (Lit.int k n).wf = true := by
  cases h with
  | int ht hw => obtain rfl := TypeDesc.int.inj (Option.some.inj (ht.symm.trans hu)); exact ⟨_, rfl, hw⟩
  | bool ht => simp [ht] at hu
  | str ht hs => simp [ht] at hu
  | sl ht hx => simp [ht] at hu
  | struct ht hl hx => simp [ht] at hu
theorem ty_bool {t : TypeId} {ps : List PV} (h : TyPV P t ps) (hu : P.underlying t = some .bool) : ∃ b, ps = [.v (.bool b)] := by
  cases h with
  | bool ht => exact ⟨_, rfl⟩
  | int ht hw => simp [ht] at hu
  | str ht hs => simp [ht] at hu
  | sl ht hx => simp [ht] at hu
  | struct ht hl hx => simp [ht] at hu
theorem ty_str {t : TypeId} {ps : List PV} (h : TyPV P t ps) (hu : P.underlying t = some .string) : ∃ s : List UInt8, ps = [.v (.string (str s))] ∧ s.length ≤ maxLen := by
  cases h with
  | @str _ s ht hs => exact ⟨s.data.toList, by rw [str_of], by rw [← str_size, str_of]; exact hs⟩
  | bool ht => simp [ht] at hu
  | int ht hw => simp [ht] at hu
  | sl ht hx => simp [ht] at hu
  | struct ht hl hx => simp [ht] at hu
theorem ty_sl {t e : TypeId} {ps : List PV} (h : TyPV P t ps) (hu : P.underlying t = some (.slice e)) : ∃ es, ps = [.sl (P.cellsOf e) es] ∧ ∀ q ∈ es, TyPV P e q := by
  cases h with
  | sl ht hx => obtain rfl := TypeDesc.slice.inj (Option.some.inj (ht.symm.trans hu)); exact ⟨_, rfl, hx⟩
  | bool ht => simp [ht] at hu
  | int ht hw => simp [ht] at hu
  | str ht hs => simp [ht] at hu
  | struct ht hl hx => simp [ht] at hu
theorem list_map {α β : Type} {f : α → β} : ∀ {l : List β}, (∀ y ∈ l, ∃ x, y = f x) → ∃ m : List α, l = m.map f
  | [], _ => ⟨[], rfl⟩
  | y :: l, h => by
    obtain ⟨x, rfl⟩ := h y (by simp)
    obtain ⟨m, rfl⟩ := list_map (l := l) fun z hz => h z (by simp [hz])
    exact ⟨x :: m, rfl⟩
theorem list_mapP {α β : Type} {f : α → β} {p : α → Prop} : ∀ {l : List β}, (∀ y ∈ l, ∃ x, p x ∧ y = f x) → ∃ m : List α, (∀ x ∈ m, p x) ∧ l = m.map f
  | [], _ => ⟨[], by simp, rfl⟩
  | y :: l, h => by
    obtain ⟨x, hx, rfl⟩ := h y (by simp)
    obtain ⟨m, hm, rfl⟩ := list_mapP (l := l) fun z hz => h z (by simp [hz])
    exact ⟨x :: m, fun z hz => by rcases List.mem_cons.1 hz with rfl | hz; exact hx; exact hm z hz, rfl⟩
theorem wf64 {n : Int} (h : (Lit.int .i64 n).wf = true) : -9223372036854775808 ≤ n ∧ n ≤ 9223372036854775807 := by
  simp [Lit.wf, IntKind.min, IntKind.max, IntKind.signed, IntKind.bits] at h
  omega
theorem split5 {α : Type} {l : List α} (h : l.length = 5) : ∃ a b c d e, l = [a, b, c, d, e] := by
  match l, h with
  | [a, b, c, d, e], _ => exact ⟨a, b, c, d, e, rfl⟩
end
theorem fld_of {P : Program} {t : TypeId} {T : TyA} {fs : Array Field} (hT : tyA P t = some T) (hu : P.underlying t = some (.struct fs)) {i o : Nat} {t' : TypeId} (h : T.flds[i]? = some (o, t')) : ∃ f, fs[i]? = some f ∧ f.offset = o ∧ f.type = t' := by
  obtain ⟨d, ii, h1, _, rfl⟩ := tyA_some hT
  obtain rfl := Option.some.inj (hu.symm.trans h1)
  simp only [descFlds, List.getElem?_map] at h
  cases hq : fs.toList[i]? with
  | none => rw [hq] at h; simp at h
  | some f =>
    rw [hq] at h
    simp at h
    exact ⟨f, by simpa using hq, h.1, h.2⟩
theorem cells_of {P : Program} {t : TypeId} {T : TyA} (hT : tyA P t = some T) : P.cellsOf t = T.size := by
  obtain ⟨d, ii, _, h2, rfl⟩ := tyA_some hT
  simp [Program.cellsOf, h2]
theorem ty_strs {ps : List PV} (h : TyPV Tryz.prog 29 ps) : ∃ ks : List (List UInt8), ps = [.sl 1 (ks.map sPV)] := by
  obtain ⟨es, rfl, hx⟩ := ty_sl h Tryz.underlying29
  rw [cells_of tyA_9]
  obtain ⟨ks, rfl⟩ := list_map (f := sPV) fun q hq => by
    obtain ⟨s, rfl, _⟩ := ty_str (hx q hq) Tryz.underlying9
    exact ⟨s, rfl⟩
  exact ⟨ks, rfl⟩
theorem ty_fields {P : Program} {t : TypeId} {T : TyA} {ps : List PV} (h : TyPV P t ps) (hT : tyA P t = some T) (hk : T.kind = 3) :
    ps.length = T.size ∧ ∀ (i o : Nat) (t' : TypeId), T.flds[i]? = some (o, t') → ∀ T', tyA P t' = some T' → TyPV P t' ((ps.drop o).take T'.size) := by
  obtain ⟨d, ii, h1, h2, h3⟩ := tyA_some hT
  obtain ⟨fs, rfl⟩ := kind_struct (d := d) (by rw [h3] at hk; exact hk)
  cases h with
  | struct ht hlen hx =>
    obtain rfl := TypeDesc.struct.inj (Option.some.inj (ht.symm.trans h1))
    refine ⟨by rw [← cells_of hT]; exact hlen, fun i o t' h T' hT' => ?_⟩
    obtain ⟨f, hf, rfl, rfl⟩ := fld_of hT h1 h
    rw [← cells_of hT']
    exact hx i f hf
  | bool ht => simp [ht] at h1
  | int ht hw => simp [ht] at h1
  | str ht hs => simp [ht] at h1
  | sl ht hx => simp [ht] at h1
theorem ty_json : ∀ {t : TypeId} {ps : List PV}, TyPV Tryz.prog t ps → (t = 36 → ∃ j : JT, j.inr ∧ ps = j.cells) ∧ (t = 34 → ∃ xs : List JT, JT.inrL xs ∧ ps = [.sl 5 (xs.map JT.cells)]) := by
  intro t ps h
  induction h with
  | bool ht => exact ⟨fun e => by subst e; simp [Tryz.underlying36] at ht, fun e => by subst e; simp [Tryz.underlying34] at ht⟩
  | int ht hw => exact ⟨fun e => by subst e; simp [Tryz.underlying36] at ht, fun e => by subst e; simp [Tryz.underlying34] at ht⟩
  | str ht hs => exact ⟨fun e => by subst e; simp [Tryz.underlying36] at ht, fun e => by subst e; simp [Tryz.underlying34] at ht⟩
  | @sl t e es ht hx ih =>
    refine ⟨fun e => by subst e; simp [Tryz.underlying36] at ht, fun e => ?_⟩
    subst e
    obtain rfl := TypeDesc.slice.inj (Option.some.inj (ht.symm.trans Tryz.underlying34))
    obtain ⟨xs, hxs, rfl⟩ := list_mapP (f := JT.cells) (p := JT.inr) fun q hq => (ih q hq).1 rfl
    exact ⟨xs, inrL_of hxs, by rw [cells_of tyA_36]⟩
  | @struct t fs ps ht hl hx ih =>
    refine ⟨fun e => ?_, fun e => by subst e; simp [Tryz.underlying34] at ht⟩
    subst e
    have hT := tyA_36
    obtain ⟨a0, a1, a2, a3, a4, rfl⟩ := split5 (hl.trans (cells_of hT))
    obtain ⟨_, hf⟩ := ty_fields (.struct ht hl hx) hT rfl
    obtain ⟨k, h0, _⟩ := ty_int (hf 0 _ _ rfl _ tyA_3) Tryz.underlying3
    obtain ⟨n, h1, hw⟩ := ty_int (hf 1 _ _ rfl _ tyA_2) Tryz.underlying2
    obtain ⟨s, h2, _⟩ := ty_str (hf 2 _ _ rfl _ tyA_9) Tryz.underlying9
    obtain ⟨ks, h4⟩ := ty_strs (hf 4 _ _ rfl _ tyA_29)
    obtain ⟨f, g1, g2, g3⟩ := fld_of hT ht (i := 3) rfl
    obtain ⟨xs, hxs, h3⟩ := (ih 3 f g1).2 g3
    rw [g2, g3, cells_of tyA_34] at h3
    simp at h0 h1 h2 h3 h4
    subst h0 h1 h2 h3 h4
    exact ⟨.mk k n s ks xs, ⟨wf64 hw, hxs⟩, (cells_mk _ _ _ _ _).symm⟩
end

def iPV (n : Int) : List PV := [.v (.int .i64 n)]
structure FT where
  name : List UInt8
  aliases : List (List UInt8)
  type : Int
  has : Bool
  dflt : JT
def FT.cells (f : FT) : List PV := .v (.string (str f.name)) :: .sl 1 (f.aliases.map sPV) :: .v (.int .i64 f.type) :: .v (.bool f.has) :: f.dflt.cells
structure NT where
  kind : Int
  name : List UInt8
  aliases : List (List UInt8)
  fields : List FT
  symbols : List (List UInt8)
  has : Bool
  dflt : List UInt8
  size : Int
  items : Int
  branches : List Int
def NT.cells (n : NT) : List PV := [.v (.int .i64 n.kind), .v (.string (str n.name)), .sl 1 (n.aliases.map sPV), .sl 9 (n.fields.map FT.cells), .sl 1 (n.symbols.map sPV), .v (.bool n.has), .v (.string (str n.dflt)), .v (.int .i64 n.size), .v (.int .i64 n.items), .sl 1 (n.branches.map iPV)]
structure ST where
  nodes : List NT
  root : Int
def ST.cells (s : ST) : List PV := [.sl 10 (s.nodes.map NT.cells), .v (.int .i64 s.root)]
def FT.av (f : FT) : AV := .agg (f.cells.map .c)
def NT.av (n : NT) : AV := .agg (n.cells.map .c)
def ST.av (s : ST) : AV := .agg (s.cells.map .c)
theorem FT.av_eq (f : FT) : f.av = .agg (f.cells.map .c) := rfl
theorem NT.av_eq (n : NT) : n.av = .agg (n.cells.map .c) := rfl
theorem ST.av_eq (s : ST) : s.av = .agg (s.cells.map .c) := rfl
theorem iPV_eq (n : Int) : iPV n = [.v (.int .i64 n)] := rfl
theorem ncells_mk (n : NT) : n.cells = [.v (.int .i64 n.kind), .v (.string (str n.name)), .sl 1 (n.aliases.map sPV), .sl 9 (n.fields.map FT.cells), .sl 1 (n.symbols.map sPV), .v (.bool n.has), .v (.string (str n.dflt)), .v (.int .i64 n.size), .v (.int .i64 n.items), .sl 1 (n.branches.map iPV)] := rfl
theorem scells_mk (s : ST) : s.cells = [.sl 10 (s.nodes.map NT.cells), .v (.int .i64 s.root)] := rfl
theorem fcells_mk (f : FT) : f.cells = .v (.string (str f.name)) :: .sl 1 (f.aliases.map sPV) :: .v (.int .i64 f.type) :: .v (.bool f.has) :: f.dflt.cells := rfl
theorem len_ncells (n : NT) : n.cells.length = 10 := rfl
theorem len_scells (s : ST) : s.cells.length = 2 := rfl
theorem take_ncells (n : NT) : n.cells.take 10 = n.cells := rfl
theorem take_ncellsC (n : NT) : (n.cells.map AV.c).take 10 = n.cells.map .c := rfl
theorem take_scells (s : ST) : s.cells.take 2 = s.cells := rfl
theorem take_scellsC (s : ST) : (s.cells.map AV.c).take 2 = s.cells.map .c := rfl
/-! The order of a schema's nodes. -/
def namedK (k : Int) : Bool := k == 9 || k == 10 || k == 14
def kidsN (n : NT) : List Int := if n.kind = 9 then n.fields.map (·.type) else if n.kind = 11 ∨ n.kind = 12 then [n.items] else if n.kind = 13 then n.branches else []
def kindAt (ns : List NT) (k : Nat) : Int := match ns[k]? with | some n => n.kind | none => 0
def walkK (ns : List NT) (f : Nat → Bool × Nat) : List Int → Nat → Bool × Nat
  | [], p => (true, p)
  | k :: ks, p => if k = (p : Int) then (if (f p).1 = true then walkK ns f ks (f p).2 else (false, (f p).2)) else if k < 0 ∨ k > (p : Int) ∨ namedK (kindAt ns k.toNat) = false then (false, p) else walkK ns f ks p
def walkM (ns : List NT) : Nat → Nat → Bool × Nat
  | 0, p => (false, p)
  | d + 1, p => match ns[p]? with | none => (false, p) | some n => walkK ns (walkM ns d) (kidsN n) (p + 1)
def orderedM (s : ST) : Bool := decide (0 < s.nodes.length) && (decide (s.nodes.length ≤ 200) && (decide (s.root = 0) && ((walkM s.nodes 33 0).1 && decide ((walkM s.nodes 33 0).2 = s.nodes.length))))
theorem walkK_le (ns : List NT) (f : Nat → Bool × Nat) (hf : ∀ p, p ≤ ns.length → p ≤ (f p).2 ∧ (f p).2 ≤ ns.length) : ∀ (ks : List Int) (p : Nat), p ≤ ns.length → p ≤ (walkK ns f ks p).2 ∧ (walkK ns f ks p).2 ≤ ns.length
  | [], p, h => ⟨Nat.le_refl _, h⟩
  | k :: ks, p, h => by
    rw [walkK]
    have h1 := hf p h
    split
    · split
      · have h2 := walkK_le ns f hf ks (f p).2 h1.2
        omega
      · exact h1
    · split
      · exact ⟨Nat.le_refl _, h⟩
      · exact walkK_le ns f hf ks p h
theorem walkM_le (ns : List NT) : ∀ (d p : Nat), p ≤ ns.length → p ≤ (walkM ns d p).2 ∧ (walkM ns d p).2 ≤ ns.length
  | 0, p, h => ⟨Nat.le_refl _, h⟩
  | d + 1, p, h => by
    rw [walkM]
    split
    · exact ⟨Nat.le_refl _, h⟩
    · rename_i n hn
      have hp : p < ns.length := (List.getElem?_eq_some_iff.1 hn).1
      have := walkK_le ns _ (walkM_le ns d) (kidsN n) (p + 1) hp
      omega
def Stand (ns : List NT) (a b : Nat) : Prop :=
  (∀ (i : Nat) (n : NT), a ≤ i → i < b → ns[i]? = some n → ∀ k ∈ kidsN n, 0 ≤ k ∧ k < (b : Int) ∧ (k ≤ (i : Int) → namedK (kindAt ns k.toNat) = true)) ∧ (∀ i : Nat, a < i → i < b → ∃ (j : Nat) (n : NT), a ≤ j ∧ j < i ∧ ns[j]? = some n ∧ (i : Int) ∈ kidsN n)
def Met (ns : List NT) (a : Nat) (done : List Int) (b : Nat) : Prop :=
  a < b ∧ (∀ k ∈ done, 0 ≤ k ∧ k < (b : Int) ∧ (k ≤ (a : Int) → namedK (kindAt ns k.toNat) = true)) ∧ (∀ (i : Nat) (n : NT), a < i → i < b → ns[i]? = some n → ∀ k ∈ kidsN n, 0 ≤ k ∧ k < (b : Int) ∧ (k ≤ (i : Int) → namedK (kindAt ns k.toNat) = true))
    ∧ (∀ i : Nat, a < i → i < b → (i : Int) ∈ done ∨ ∃ (j : Nat) (n : NT), a < j ∧ j < i ∧ ns[j]? = some n ∧ (i : Int) ∈ kidsN n)
theorem walkK_met (ns : List NT) (f : Nat → Bool × Nat) (hf : ∀ p q, f p = (true, q) → p < q ∧ Stand ns p q) (a : Nat) : ∀ (ks : List Int) (done : List Int) (p q : Nat), Met ns a done p → walkK ns f ks p = (true, q) → Met ns a (done ++ ks) q
  | [], done, p, q, h, hw => by
    rw [walkK] at hw
    obtain rfl : p = q := (Prod.mk.inj hw).2
    rwa [List.append_nil]
  | k :: ks, done, p, q, h, hw => by
    rw [walkK] at hw
    obtain ⟨h0, h1, h2, h3⟩ := h
    have hc : done ++ k :: ks = (done ++ [k]) ++ ks := by simp
    rw [hc]
    split at hw
    · rename_i hk
      split at hw
      · rename_i hb
        obtain ⟨hlt, hs⟩ := hf p (f p).2 (by rw [← hb])
        refine walkK_met ns f hf a ks (done ++ [k]) (f p).2 q ⟨by omega, ?_, ?_, ?_⟩ hw
        · intro k' hk'
          rcases List.mem_append.1 hk' with h | h
          · have := h1 k' h
            exact ⟨this.1, by omega, this.2.2⟩
          · obtain rfl := List.mem_singleton.1 h
            exact ⟨by omega, by omega, fun h => by omega⟩
        · intro i n hi1 hi2 hn k' hk'
          by_cases hip : i < p
          · have := h2 i n hi1 hip hn k' hk'
            exact ⟨this.1, by omega, this.2.2⟩
          · exact hs.1 i n (by omega) hi2 hn k' hk'
        · intro i hi1 hi2
          by_cases hip : i < p
          · rcases h3 i hi1 hip with h | h
            · exact .inl (List.mem_append.2 (.inl h))
            · exact .inr h
          · by_cases hie : i = p
            · exact .inl (List.mem_append.2 (.inr (by rw [hie, hk]; simp)))
            · obtain ⟨j, n, hj1, hj2, hn, hm⟩ := hs.2 i (by omega) hi2
              exact .inr ⟨j, n, by omega, hj2, hn, hm⟩
      · simp at hw
    · rename_i hk
      split at hw
      · simp at hw
      · rename_i hc2
        refine walkK_met ns f hf a ks (done ++ [k]) p q ⟨h0, ?_, h2, ?_⟩ hw
        · intro k' hk'
          rcases List.mem_append.1 hk' with h | h
          · exact h1 k' h
          · obtain rfl := List.mem_singleton.1 h
            have hnn : namedK (kindAt ns k'.toNat) = true := by
              cases hb : namedK (kindAt ns k'.toNat) with
              | true => rfl
              | false => exact absurd (.inr (.inr hb)) hc2
            have : ¬ (k' < 0) := fun h => hc2 (.inl h)
            have : ¬ (k' > (p : Int)) := fun h => hc2 (.inr (.inl h))
            exact ⟨by omega, by omega, fun _ => hnn⟩
        · intro i hi1 hi2
          rcases h3 i hi1 hi2 with h | h
          · exact .inl (List.mem_append.2 (.inl h))
          · exact .inr h
theorem walkM_stand (ns : List NT) : ∀ (d p q : Nat), walkM ns d p = (true, q) → p < q ∧ Stand ns p q
  | 0, p, q, h => by simp [walkM] at h
  | d + 1, p, q, h => by
    rw [walkM] at h
    split at h
    · simp at h
    · rename_i n hn
      have hm := walkK_met ns _ (walkM_stand ns d) p (kidsN n) [] (p + 1) q ⟨by omega, by simp, fun i n h1 h2 => by omega, fun i h1 h2 => by omega⟩ h
      rw [List.nil_append] at hm
      obtain ⟨h0, h1, h2, h3⟩ := hm
      refine ⟨h0, ?_, ?_⟩
      · intro i n' hi1 hi2 hn' k hk
        by_cases hi : i = p
        · subst hi
          rw [hn] at hn'
          obtain rfl := Option.some.inj hn'
          exact h1 k hk
        · exact h2 i n' (by omega) hi2 hn' k hk
      · intro i hi1 hi2
        rcases h3 i hi1 hi2 with h | ⟨j, n', hj1, hj2, hn', hm⟩
        · exact ⟨p, n, by omega, hi1, hn, h⟩
        · exact ⟨j, n', by omega, hj2, hn', hm⟩
theorem ordered_stand {s : ST} (h : orderedM s = true) : Stand s.nodes 0 s.nodes.length := by
  unfold orderedM at h
  simp only [Bool.and_eq_true, decide_eq_true_eq] at h
  obtain ⟨_, _, _, h1, h2⟩ := h
  exact (walkM_stand s.nodes 33 0 _ (by rw [← h1, ← h2])).2

theorem drop_cut {α : Type} (l : List α) (o k : Nat) : l.drop o = (l.drop o).take k ++ l.drop (o + k) := by rw [← List.drop_drop, List.take_append_drop]
theorem ty_ints {ps : List PV} (h : TyPV Tryz.prog 31 ps) : ∃ ns : List Int, ps = [.sl 1 (ns.map iPV)] := by
  obtain ⟨es, rfl, hx⟩ := ty_sl h Tryz.underlying31
  rw [cells_of tyA_3]
  obtain ⟨ns, rfl⟩ := list_map (f := iPV) fun q hq => by
    obtain ⟨n, rfl, _⟩ := ty_int (hx q hq) Tryz.underlying3
    exact ⟨n, rfl⟩
  exact ⟨ns, rfl⟩
theorem ty_field {ps : List PV} (h : TyPV Tryz.prog 38 ps) : ∃ f : FT, ps = f.cells := by
  obtain ⟨hl, hf⟩ := ty_fields h tyA_38 rfl
  obtain ⟨a, h0, _⟩ := ty_str (hf 0 _ _ rfl _ tyA_9) Tryz.underlying9
  obtain ⟨b, h1⟩ := ty_strs (hf 1 _ _ rfl _ tyA_29)
  obtain ⟨c, h2, _⟩ := ty_int (hf 2 _ _ rfl _ tyA_3) Tryz.underlying3
  obtain ⟨d, h3⟩ := ty_bool (hf 3 _ _ rfl _ tyA_4) Tryz.underlying4
  obtain ⟨e, _, h4⟩ := (ty_json (hf 4 _ _ rfl _ tyA_36)).1 rfl
  have e0 : ps = (ps.drop 0).take 1 ++ ps.drop 1 := drop_cut ps 0 1
  have e1 : ps.drop 1 = (ps.drop 1).take 1 ++ ps.drop 2 := drop_cut ps 1 1
  have e2 : ps.drop 2 = (ps.drop 2).take 1 ++ ps.drop 3 := drop_cut ps 2 1
  have e3 : ps.drop 3 = (ps.drop 3).take 1 ++ ps.drop 4 := drop_cut ps 3 1
  have e4 : ps.drop 4 = (ps.drop 4).take 5 := (List.take_of_length_le (by rw [List.length_drop, hl]; decide)).symm
  exact ⟨⟨a, b, c, d, e⟩, e0.trans (by rw [h0, e1, h1, e2, h2, e3, h3, e4, h4]; rfl)⟩
theorem ty_fieldsL {ps : List PV} (h : TyPV Tryz.prog 30 ps) : ∃ fs : List FT, ps = [.sl 9 (fs.map FT.cells)] := by
  obtain ⟨es, rfl, hx⟩ := ty_sl h Tryz.underlying30
  rw [cells_of tyA_38]
  obtain ⟨ns, rfl⟩ := list_map (f := FT.cells) fun q hq => ty_field (hx q hq)
  exact ⟨ns, rfl⟩
theorem ty_node {ps : List PV} (h : TyPV Tryz.prog 33 ps) : ∃ n : NT, ps = n.cells := by
  obtain ⟨hl, hf⟩ := ty_fields h tyA_33 rfl
  obtain ⟨a0, h0, _⟩ := ty_int (hf 0 _ _ rfl _ tyA_3) Tryz.underlying3
  obtain ⟨a1, h1, _⟩ := ty_str (hf 1 _ _ rfl _ tyA_9) Tryz.underlying9
  obtain ⟨a2, h2⟩ := ty_strs (hf 2 _ _ rfl _ tyA_29)
  obtain ⟨a3, h3⟩ := ty_fieldsL (hf 3 _ _ rfl _ tyA_30)
  obtain ⟨a4, h4⟩ := ty_strs (hf 4 _ _ rfl _ tyA_29)
  obtain ⟨a5, h5⟩ := ty_bool (hf 5 _ _ rfl _ tyA_4) Tryz.underlying4
  obtain ⟨a6, h6, _⟩ := ty_str (hf 6 _ _ rfl _ tyA_9) Tryz.underlying9
  obtain ⟨a7, h7, _⟩ := ty_int (hf 7 _ _ rfl _ tyA_3) Tryz.underlying3
  obtain ⟨a8, h8, _⟩ := ty_int (hf 8 _ _ rfl _ tyA_3) Tryz.underlying3
  obtain ⟨a9, h9⟩ := ty_ints (hf 9 _ _ rfl _ tyA_31)
  have e0 : ps = (ps.drop 0).take 1 ++ ps.drop 1 := drop_cut ps 0 1
  have e1 : ps.drop 1 = (ps.drop 1).take 1 ++ ps.drop 2 := drop_cut ps 1 1
  have e2 : ps.drop 2 = (ps.drop 2).take 1 ++ ps.drop 3 := drop_cut ps 2 1
  have e3 : ps.drop 3 = (ps.drop 3).take 1 ++ ps.drop 4 := drop_cut ps 3 1
  have e4 : ps.drop 4 = (ps.drop 4).take 1 ++ ps.drop 5 := drop_cut ps 4 1
  have e5 : ps.drop 5 = (ps.drop 5).take 1 ++ ps.drop 6 := drop_cut ps 5 1
  have e6 : ps.drop 6 = (ps.drop 6).take 1 ++ ps.drop 7 := drop_cut ps 6 1
  have e7 : ps.drop 7 = (ps.drop 7).take 1 ++ ps.drop 8 := drop_cut ps 7 1
  have e8 : ps.drop 8 = (ps.drop 8).take 1 ++ ps.drop 9 := drop_cut ps 8 1
  have e9 : ps.drop 9 = (ps.drop 9).take 1 := (List.take_of_length_le (by rw [List.length_drop, hl]; decide)).symm
  exact ⟨⟨a0, a1, a2, a3, a4, a5, a6, a7, a8, a9⟩, e0.trans (by rw [h0, e1, h1, e2, h2, e3, h3, e4, h4, e5, h5, e6, h6, e7, h7, e8, h8, e9, h9]; rfl)⟩
theorem arg_schema {x : AV} (h : TyAV Tryz.prog 24 x) : ∃ s : ST, x = s.av := by
  obtain ⟨ps, h1, h2⟩ := h
  obtain ⟨hl, hf⟩ := ty_fields h1 tyA_24 rfl
  obtain ⟨es, h3, hx⟩ := ty_sl (hf 0 _ _ rfl _ tyA_22) Tryz.underlying22
  rw [cells_of tyA_33] at h3
  obtain ⟨ns, rfl⟩ := list_map (f := NT.cells) fun q hq => ty_node (hx q hq)
  obtain ⟨r, h4, _⟩ := ty_int (hf 1 _ _ rfl _ tyA_3) Tryz.underlying3
  have e0 : ps = (ps.drop 0).take 1 ++ ps.drop 1 := drop_cut ps 0 1
  have e1 : ps.drop 1 = (ps.drop 1).take 1 := (List.take_of_length_le (by rw [List.length_drop, hl]; decide)).symm
  have hp : ps = (ST.mk ns r).cells := e0.trans (by rw [h3, e1, h4]; rfl)
  subst hp
  rcases h2 with ⟨_, rfl⟩ | ⟨h2, _⟩
  · exact ⟨_, rfl⟩
  · exact absurd Tryz.underlying24 (h2 _)
section

def byteAt (l : List UInt8) (i : Nat) : UInt8 := l[i]?.getD 0
def ufirst (c : UInt8) : Nat := if c.toNat < 128 then 1 else if c.toNat < 194 then 0 else if c.toNat < 224 then 2 else if c.toNat < 240 then 3 else if c.toNat < 245 then 4 else 0
def ulo (a : UInt8) : Nat := if a.toNat = 224 then 160 else if a.toNat = 240 then 144 else 128
def uhi (a : UInt8) : Nat := if a.toNat = 237 then 159 else if a.toNat = 244 then 143 else 191
def usec (a b : UInt8) : Bool := decide (ulo a ≤ b.toNat ∧ b.toNat ≤ uhi a)
def ucont (b : UInt8) : Bool := decide (128 ≤ b.toNat ∧ b.toNat < 192)
def ustep (l : List UInt8) (p i : Nat) : Nat := if p + i < l.length then (if ucont (byteAt l (p + i)) = true ∧ (i = 1 → usec (byteAt l p) (byteAt l (p + i)) = true) then 0 else 11) else 10
def ustat (l : List UInt8) (p : Nat) : Nat → Nat
  | 0 => 0
  | k + 1 => if ustat l p k = 0 then ustep l p (k + 1) else ustat l p k
def uerr (l : List UInt8) (p : Nat) : Nat := if p < l.length then (if ufirst (byteAt l p) = 0 then 11 else ustat l p (ufirst (byteAt l p) - 1)) else 10
def ulen (l : List UInt8) (p : Nat) : Nat := ufirst (byteAt l p)
theorem ustat_mono {l : List UInt8} {p k : Nat} (h : ustat l p k ≠ 0) : ∀ j, ustat l p (k + j) = ustat l p k := by
  intro j
  induction j with
  | zero => rfl
  | succ j ih => rw [show k + (j + 1) = (k + j) + 1 from by omega]; simp only [ustat]; rw [ih, if_neg h]
theorem ustat_bad {l : List UInt8} {p i n : Nat} (hi : 1 ≤ i) (hin : i < n) (h0 : ustat l p (i - 1) = 0) (h : ustep l p i ≠ 0) : ustat l p (n - 1) = ustep l p i := by
  have h1 : ustat l p i = ustep l p i := by
    cases i with
    | zero => omega
    | succ i => simp only [ustat]; rw [if_pos (by simpa using h0)]
  have := ustat_mono (l := l) (p := p) (k := i) (by rw [h1]; exact h) (n - 1 - i)
  rw [h1] at this
  rwa [show i + (n - 1 - i) = n - 1 from by omega] at this
theorem ustat_next {l : List UInt8} {p k : Nat} (h0 : ustat l p k = 0) (h : ustep l p (k + 1) = 0) : ustat l p (k + 1) = 0 := by
  simp only [ustat]; rw [if_pos h0, h]
variable {l : List UInt8} {p : Nat}
theorem ulen_bound (h : uerr l p = 0) : 0 < ulen l p ∧ p + ulen l p ≤ l.length := by
  unfold uerr at h
  split at h
  · rename_i hp
    split at h
    · simp at h
    · rename_i hf
      refine ⟨by unfold ulen; omega, ?_⟩
      unfold ulen
      have key : ∀ k, ustat l p k = 0 → p + k < l.length := by
        intro k
        induction k with
        | zero => intro _; omega
        | succ k ih =>
          intro hk
          simp only [ustat] at hk
          split at hk
          · unfold ustep at hk
            split at hk
            · omega
            · simp at hk
          · rename_i h1; exact absurd hk h1
      have := key _ h
      omega
  · simp at h
def uCnt (l : List UInt8) (p k : Nat) : Nat × Nat :=
  if h : p < l.length then (if h2 : uerr l p = 0 ∧ 0 < ulen l p then uCnt l (p + ulen l p) (k + 1) else (0, 11)) else (k, 0)
termination_by l.length - p
theorem uCnt_end {l : List UInt8} {p k : Nat} (h : ¬ p < l.length) : uCnt l p k = (k, 0) := by rw [uCnt, dif_neg h]
theorem uCnt_bad {l : List UInt8} {p k : Nat} (h : p < l.length) (h2 : uerr l p ≠ 0) : uCnt l p k = (0, 11) := by rw [uCnt, dif_pos h, dif_neg (fun x => h2 x.1)]
theorem uCnt_next {l : List UInt8} {p k : Nat} (h : p < l.length) (h2 : uerr l p = 0) : uCnt l p k = uCnt l (p + ulen l p) (k + 1) := by rw [uCnt, dif_pos h, dif_pos ⟨h2, (ulen_bound h2).1⟩]
def isRight (l : List UInt8) : Bool := decide ((uCnt l 0 0).2 = 0)
end

inductive VT where
  | mk (k : Int) (n : Int) (b : Int) (s : List UInt8) (xs : List VT) (ks : List (List UInt8))
mutual
def VT.cells : VT → List PV
  | .mk k n b s xs ks => [.v (.int .i64 k), .v (.int .i64 n), .v (.int .u64 b), .sl 1 (bytePV s), .sl 6 (VT.cellsL xs), .sl 1 (ks.map sPV)]
def VT.cellsL : List VT → List (List PV)
  | [] => []
  | x :: xs => x.cells :: VT.cellsL xs
end
theorem vcellsL_map : ∀ (xs : List VT), VT.cellsL xs = xs.map VT.cells
  | [] => by simp [VT.cellsL]
  | x :: xs => by simp [VT.cellsL, vcellsL_map xs]
def VT.av (v : VT) : AV := .agg (v.cells.map .c)
theorem VT.av_eq (v : VT) : v.av = .agg (v.cells.map .c) := rfl
theorem vcells_mk (k n b : Int) (s : List UInt8) (xs : List VT) (ks : List (List UInt8)) : (VT.mk k n b s xs ks).cells = [.v (.int .i64 k), .v (.int .i64 n), .v (.int .u64 b), .sl 1 (bytePV s), .sl 6 (xs.map VT.cells), .sl 1 (ks.map sPV)] := by simp [VT.cells, vcellsL_map]
theorem len_vcells (v : VT) : v.cells.length = 6 := by cases v; simp [VT.cells]
theorem take_vcells (v : VT) : v.cells.take 6 = v.cells := List.take_of_length_le (by rw [len_vcells]; exact Nat.le_refl _)
theorem take_vcellsC (v : VT) : (v.cells.map AV.c).take 6 = v.cells.map .c := List.take_of_length_le (by rw [List.length_map, len_vcells]; exact Nat.le_refl _)
theorem bytePV_len (l : List UInt8) : (bytePV l).length = l.length := by simp [bytePV]
mutual
def VT.sm (N : Nat) : VT → Prop
  | .mk k n b s xs ks => (0 ≤ b ∧ b < 18446744073709551616) ∧ s.length ≤ N ∧ ks.length ≤ N ∧ (∀ y ∈ ks, y.length ≤ N) ∧ xs.length ≤ N ∧ VT.smL N xs
def VT.smL (N : Nat) : List VT → Prop
  | [] => True
  | x :: xs => x.sm N ∧ VT.smL N xs
end
theorem vsmL_mem {N : Nat} : ∀ {xs : List VT}, VT.smL N xs → ∀ x ∈ xs, x.sm N
  | x :: xs, h, y, hy => by
    rcases List.mem_cons.1 hy with rfl | hy
    · exact h.1
    · exact vsmL_mem h.2 y hy
mutual
theorem vsm_le {N M : Nat} (h : N ≤ M) : ∀ v : VT, v.sm N → v.sm M
  | .mk k n b s xs ks => fun ⟨h0, h1, h2, h3, h4, h5⟩ => ⟨h0, by omega, by omega, fun y hy => Nat.le_trans (h3 y hy) h, by omega, vsmL_le h xs h5⟩
theorem vsmL_le {N M : Nat} (h : N ≤ M) : ∀ xs : List VT, VT.smL N xs → VT.smL M xs
  | [] => fun _ => trivial
  | x :: xs => fun ⟨h1, h2⟩ => ⟨vsm_le h x h1, vsmL_le h xs h2⟩
end
mutual
def VT.inr : VT → Prop
  | .mk k n b s xs ks => (0 ≤ b ∧ b < 18446744073709551616) ∧ VT.inrL xs
def VT.inrL : List VT → Prop
  | [] => True
  | x :: xs => x.inr ∧ VT.inrL xs
end
theorem vinrL_of : ∀ {xs : List VT}, (∀ x ∈ xs, x.inr) → VT.inrL xs
  | [], _ => trivial
  | x :: xs, h => ⟨h x (by simp), vinrL_of fun y hy => h y (by simp [hy])⟩
/-! Which values are ones of a node. -/
def VT.kind : VT → Int | .mk k _ _ _ _ _ => k
def VT.int : VT → Int | .mk _ n _ _ _ _ => n
def VT.items : VT → List VT | .mk _ _ _ _ xs _ => xs
def vbare (k n b : Int) (s : List UInt8) (m : Nat) (ks : List (List UInt8)) : Bool :=
  ((k == 2 || k == 3 || k == 4 || k == 10 || k == 13) || n == 0) && (((k == 5 || k == 6) || b == 0) && (((k == 7 || k == 8 || k == 14) || s.isEmpty) && (((k == 9 || k == 11 || k == 12 || k == 13) || m == 0) && (k == 12 || ks.isEmpty))))
def keyM (y : List UInt8) : Bool := decide (y.length ≤ 20000) && isRight y
def headM (nd : NT) (k n b : Int) (s : List UInt8) (m : Nat) (ks : List (List UInt8)) : Bool :=
  (k == nd.kind && (vbare k n b s m ks && decide (s.length ≤ 20000))) && (
    if k = 2 then n == 0 || n == 1 else if k = 3 then decide (-2147483648 ≤ n) && decide (n ≤ 2147483647) else if k = 5 then decide (b < 4294967296) else if k = 8 then isRight s
    else if k = 14 then (s.length : Int) == nd.size else if k = 10 then decide (0 ≤ n) && decide (n < (nd.symbols.length : Int)) else if k = 9 then m == nd.fields.length && decide (m ≤ 300)
    else if k = 12 then (ks.length == m && ks.all keyM) && decide (m ≤ 300) else if k = 11 then decide (m ≤ 300) else if k = 13 then decide (0 ≤ n) && (decide (n < (nd.branches.length : Int)) && m == 1) else true)
def typeAt (nd : NT) (i : Nat) : Int := match nd.fields[i]? with | some f => f.type | none => -1
def branchAt (nd : NT) (i : Int) : Int := match nd.branches[i.toNat]? with | some k => k | none => -1
def itemAt (nd : NT) (n : Int) (i : Nat) : Int := if nd.kind = 9 then typeAt nd i else if nd.kind = 13 then branchAt nd n else nd.items
mutual
def isM (ns : List NT) : Int → VT → Bool
  | a, .mk k n b s xs ks => match ns[a.toNat]? with | none => false | some nd => headM nd k n b s xs.length ks && eachM ns (itemAt nd n) xs
def eachM (ns : List NT) : (Nat → Int) → List VT → Bool
  | _, [] => true
  | f, x :: xs => isM ns (f 0) x && eachM ns (fun i => f (i + 1)) xs
end
theorem eachM_iff (ns : List NT) : ∀ (f : Nat → Int) (xs : List VT), eachM ns f xs = true ↔ ∀ (i : Nat) (x : VT), xs[i]? = some x → isM ns (f i) x = true
  | f, [] => by simp [eachM]
  | f, x :: xs => by
    rw [eachM, Bool.and_eq_true, eachM_iff ns _ xs]
    constructor
    · rintro ⟨h1, h2⟩ i y hy
      match i with
      | 0 => obtain rfl := Option.some.inj hy; exact h1
      | i + 1 => exact h2 i y hy
    · intro h
      exact ⟨h 0 x rfl, fun i y hy => h (i + 1) y hy⟩
theorem eachM_false {ns : List NT} {f : Nat → Int} {xs : List VT} {i : Nat} {x : VT} (h : xs[i]? = some x) (hx : isM ns (f i) x = false) : eachM ns f xs = false := by
  cases he : eachM ns f xs with
  | false => rfl
  | true =>
    have := (eachM_iff ns f xs).1 he i x h
    rw [hx] at this
    simp at this
theorem isM_eq {ns : List NT} {a : Int} {nd : NT} (h : ns[a.toNat]? = some nd) (k n b : Int) (s : List UInt8) (xs : List VT) (ks : List (List UInt8)) : isM ns a (.mk k n b s xs ks) = (headM nd k n b s xs.length ks && eachM ns (itemAt nd n) xs) := by rw [isM, h]
noncomputable def conM (s : ST) (a : Int) (v : VT) (right : Bool) : Bool := decide (0 ≤ a) && (decide (a < (s.nodes.length : Int)) && (right && isM s.nodes a v))
mutual
def vdeep : VT → Nat
  | .mk k n b s xs ks => if k = 9 ∨ k = 11 ∨ k = 12 ∨ k = 13 then vdeeps 1 xs else 0
def vdeeps : Nat → List VT → Nat
  | n, [] => n
  | n, x :: xs => vdeeps (max n (1 + vdeep x)) xs
end
theorem vdeeps_snoc : ∀ (xs : List VT) (x : VT) (n : Nat), vdeeps n (xs ++ [x]) = max (vdeeps n xs) (1 + vdeep x)
  | [], x, n => by simp [vdeeps]
  | y :: xs, x, n => by simp only [List.cons_append, vdeeps]; exact vdeeps_snoc xs x _
theorem vdeeps_le : ∀ (xs : List VT) (n : Nat), n ≤ vdeeps n xs ∧ ∀ x ∈ xs, vdeep x + 1 ≤ vdeeps n xs
  | [], n => ⟨Nat.le_refl _, by simp⟩
  | y :: xs, n => by
    obtain ⟨h1, h2⟩ := vdeeps_le xs (max n (1 + vdeep y))
    simp only [vdeeps]
    refine ⟨by omega, fun x hx => ?_⟩
    rcases List.mem_cons.1 hx with rfl | hx
    · omega
    · exact h2 x hx
section
attribute [local go_sem] opx opE ev okx gcond bnd okO AV.get AV.okb cAV upd_at putd_some putd_none wrs_nil wrs_cons look_nil look_cons st argT_at bpick_and bpick_or bpick_true bpick_false binV binI binS binVOk binOk isShift binSOk unV unVOk loadV loadP cellsA zeroA Blkd.len setE grown moreA moreR moreOk eqRes pv fillA fillE putSeg AV.cellish AV.pureL AV.pureB lentL_is ex_some AV.ren AV.renL renL_c Blkd.ren rho wrM renN lentOk rhoE keepM endOk tyA_2 tyA_3 tyA_4 tyA_5 tyA_6 tyA_7 tyA_8 tyA_9 tyA_10 tyA_11 tyA_12 tyA_13 tyA_14 tyA_15 tyA_16 tyA_17 tyA_18 tyA_19 tyA_21 tyA_22 tyA_23 tyA_24 tyA_29 tyA_30 tyA_31 tyA_32 tyA_33 tyA_34 tyA_35 tyA_36 tyA_37 tyA_38 tyA_39 tyA_40 tyA_41 tyA_42 tyA_43 tyA_51 tyA_73 tyA_77 tyA_99 tyA_100 tyA_101 tyA_114 tyA_120 tyA_121 tyA_122 tyA_131 tyA_132 tyA_133 tyA_134 tyA_135 tyA_138 tyA_139 tyA_140 tyA_149 tyA_163 tyA_168 tyA_210 tyA_212 tyA_219 tyA_227 tyA_231 tyA_233 tyA_237 tyA_238 tyA_239 tyA_240 tyA_241 tyA_243 tyA_244 tyA_246 tyA_247 tyA_248 tyA_251 Option.map_some Option.map_none Option.getD_some Option.getD_none Option.bind_some Option.bind_none List.getElem?_cons_zero List.getElem?_cons_succ List.getElem?_nil List.getElem?_toArray List.length_cons List.length_nil List.length_map List.forall_mem_map List.map_cons List.map_nil List.drop_zero List.drop_succ_cons List.drop_nil List.take_zero List.take_succ_cons List.take_nil List.mem_cons List.not_mem_nil or_false forall_eq_or_imp forall_eq List.set_cons_zero List.set_cons_succ List.cons_append List.nil_append List.append_nil List.foldl_cons List.foldl_nil List.replicate_succ List.replicate_zero List.all_cons List.all_nil if_true if_false Bool.false_eq_true ne_eq not_false_eq_true not_true_eq_false true_and and_true and_self true_implies imp_self implies_true forall_const beq_self_eq_true Bool.and_true Bool.true_and Bool.and_false Bool.false_and Bool.or_true Bool.true_or Bool.or_false Bool.false_or Bool.not_true Bool.not_false Bool.not_eq_eq_eq_not intKindOf Value.oneCell' Int.toNat_natCast beq_true beq_false Bool.not_eq_true false_implies false_or true_or or_true Nat.zero_add Nat.add_zero decide_true decide_false Int.cast_ofNat_Int Int.toNat_zero Int.toNat_one eq_self

set_option maxRecDepth 100000 in
set_option maxHeartbeats 400000 in
theorem ufirst_told0 {x : UInt8} (h0 : x.toNat < 128) : ∃ c : Int, Told Tryz.prog 198 [.c (.v (.int .u8 (x.toNat : Int)))] (.tup [.c (.v (.int .i64 (ufirst x : Int))), .c (.v (.int .i32 c))]) := by
  have e0 : ((x.toNat : Int) < 128) = True := by simp; omega
  have hu : ufirst x = 1 := by unfold ufirst; repeat' split <;> try omega
  rw [hu]
  apply Exists.intro
  case h =>
  refine VC.told ent_198 Tryz.func198 rfl Tryz.ntmps198 (by simp) (by rfl) (by rfl) fun hb => ?_
  clear hb
  refine walkGF (e0) ?_
  refine VC.condT (by rfl) (by trivial) ?_
  refine walkG ?_
  refine ⟨.inr rfl, ?_⟩
  rw [Tryz.results198]
  simp only [resOk, resV, go_sem, Int.reduceBEq, Int.reduceLE, Int.reduceLT, Int.reduceNeg, Nat.reduceAdd, Nat.reduceEqDiff, Nat.reduceLT, Nat.reduceLeDiff, Nat.reduceMul, Nat.reduceSub, reduceCtorEq, ↓reduceIte]
  exact ⟨.c _, .c _⟩
set_option maxRecDepth 100000 in
set_option maxHeartbeats 400000 in
theorem ufirst_told1 {x : UInt8} (h0 : ¬ x.toNat < 128) (h1 : x.toNat < 194) : ∃ c : Int, Told Tryz.prog 198 [.c (.v (.int .u8 (x.toNat : Int)))] (.tup [.c (.v (.int .i64 (ufirst x : Int))), .c (.v (.int .i32 c))]) := by
  have e0 : ((x.toNat : Int) < 128) = False := by simp; omega
  have e1 : ((x.toNat : Int) < 194) = True := by simp; omega
  have hu : ufirst x = 0 := by unfold ufirst; repeat' split <;> try omega
  rw [hu]
  apply Exists.intro
  case h =>
  refine VC.told ent_198 Tryz.func198 rfl Tryz.ntmps198 (by simp) (by rfl) (by rfl) fun hb => ?_
  clear hb
  refine walkGF (e0) ?_
  refine VC.condF (by rfl) (by trivial) ?_
  refine walkGF (e1) ?_
  refine VC.condT (by rfl) (by trivial) ?_
  refine walkG ?_
  refine ⟨.inr rfl, ?_⟩
  rw [Tryz.results198]
  simp only [resOk, resV, go_sem, Int.reduceBEq, Int.reduceLE, Int.reduceLT, Int.reduceNeg, Nat.reduceAdd, Nat.reduceEqDiff, Nat.reduceLT, Nat.reduceLeDiff, Nat.reduceMul, Nat.reduceSub, reduceCtorEq, ↓reduceIte]
  exact ⟨.c _, .c _⟩
set_option maxRecDepth 100000 in
set_option maxHeartbeats 400000 in
theorem ufirst_told2 {x : UInt8} (h0 : ¬ x.toNat < 128) (h1 : ¬ x.toNat < 194) (h2 : x.toNat < 224) : ∃ c : Int, Told Tryz.prog 198 [.c (.v (.int .u8 (x.toNat : Int)))] (.tup [.c (.v (.int .i64 (ufirst x : Int))), .c (.v (.int .i32 c))]) := by
  have e0 : ((x.toNat : Int) < 128) = False := by simp; omega
  have e1 : ((x.toNat : Int) < 194) = False := by simp; omega
  have e2 : ((x.toNat : Int) < 224) = True := by simp; omega
  have hu : ufirst x = 2 := by unfold ufirst; repeat' split <;> try omega
  rw [hu]
  apply Exists.intro
  case h =>
  refine VC.told ent_198 Tryz.func198 rfl Tryz.ntmps198 (by simp) (by rfl) (by rfl) fun hb => ?_
  clear hb
  refine walkGF (e0) ?_
  refine VC.condF (by rfl) (by trivial) ?_
  refine walkGF (e1) ?_
  refine VC.condF (by rfl) (by trivial) ?_
  refine walkGF (e2) ?_
  refine VC.condT (by rfl) (by trivial) ?_
  refine walkG ?_
  refine ⟨.inr rfl, ?_⟩
  rw [Tryz.results198]
  simp only [resOk, resV, go_sem, Int.reduceBEq, Int.reduceLE, Int.reduceLT, Int.reduceNeg, Nat.reduceAdd, Nat.reduceEqDiff, Nat.reduceLT, Nat.reduceLeDiff, Nat.reduceMul, Nat.reduceSub, reduceCtorEq, ↓reduceIte]
  exact ⟨.c _, .c _⟩
set_option maxRecDepth 100000 in
set_option maxHeartbeats 400000 in
theorem ufirst_told3 {x : UInt8} (h0 : ¬ x.toNat < 128) (h1 : ¬ x.toNat < 194) (h2 : ¬ x.toNat < 224) (h3 : x.toNat < 240) : ∃ c : Int, Told Tryz.prog 198 [.c (.v (.int .u8 (x.toNat : Int)))] (.tup [.c (.v (.int .i64 (ufirst x : Int))), .c (.v (.int .i32 c))]) := by
  have e0 : ((x.toNat : Int) < 128) = False := by simp; omega
  have e1 : ((x.toNat : Int) < 194) = False := by simp; omega
  have e2 : ((x.toNat : Int) < 224) = False := by simp; omega
  have e3 : ((x.toNat : Int) < 240) = True := by simp; omega
  have hu : ufirst x = 3 := by unfold ufirst; repeat' split <;> try omega
  rw [hu]
  apply Exists.intro
  case h =>
  refine VC.told ent_198 Tryz.func198 rfl Tryz.ntmps198 (by simp) (by rfl) (by rfl) fun hb => ?_
  clear hb
  refine walkGF (e0) ?_
  refine VC.condF (by rfl) (by trivial) ?_
  refine walkGF (e1) ?_
  refine VC.condF (by rfl) (by trivial) ?_
  refine walkGF (e2) ?_
  refine VC.condF (by rfl) (by trivial) ?_
  refine walkGF (e3) ?_
  refine VC.condT (by rfl) (by trivial) ?_
  refine walkG ?_
  refine ⟨.inr rfl, ?_⟩
  rw [Tryz.results198]
  simp only [resOk, resV, go_sem, Int.reduceBEq, Int.reduceLE, Int.reduceLT, Int.reduceNeg, Nat.reduceAdd, Nat.reduceEqDiff, Nat.reduceLT, Nat.reduceLeDiff, Nat.reduceMul, Nat.reduceSub, reduceCtorEq, ↓reduceIte]
  exact ⟨.c _, .c _⟩
set_option maxRecDepth 100000 in
set_option maxHeartbeats 400000 in
theorem ufirst_told4 {x : UInt8} (h0 : ¬ x.toNat < 128) (h1 : ¬ x.toNat < 194) (h2 : ¬ x.toNat < 224) (h3 : ¬ x.toNat < 240) (h4 : x.toNat < 245) : ∃ c : Int, Told Tryz.prog 198 [.c (.v (.int .u8 (x.toNat : Int)))] (.tup [.c (.v (.int .i64 (ufirst x : Int))), .c (.v (.int .i32 c))]) := by
  have e0 : ((x.toNat : Int) < 128) = False := by simp; omega
  have e1 : ((x.toNat : Int) < 194) = False := by simp; omega
  have e2 : ((x.toNat : Int) < 224) = False := by simp; omega
  have e3 : ((x.toNat : Int) < 240) = False := by simp; omega
  have e4 : ((x.toNat : Int) < 245) = True := by simp; omega
  have hu : ufirst x = 4 := by unfold ufirst; repeat' split <;> try omega
  rw [hu]
  apply Exists.intro
  case h =>
  refine VC.told ent_198 Tryz.func198 rfl Tryz.ntmps198 (by simp) (by rfl) (by rfl) fun hb => ?_
  clear hb
  refine walkGF (e0) ?_
  refine VC.condF (by rfl) (by trivial) ?_
  refine walkGF (e1) ?_
  refine VC.condF (by rfl) (by trivial) ?_
  refine walkGF (e2) ?_
  refine VC.condF (by rfl) (by trivial) ?_
  refine walkGF (e3) ?_
  refine VC.condF (by rfl) (by trivial) ?_
  refine walkGF (e4) ?_
  refine VC.condT (by rfl) (by trivial) ?_
  refine walkG ?_
  refine ⟨.inr rfl, ?_⟩
  rw [Tryz.results198]
  simp only [resOk, resV, go_sem, Int.reduceBEq, Int.reduceLE, Int.reduceLT, Int.reduceNeg, Nat.reduceAdd, Nat.reduceEqDiff, Nat.reduceLT, Nat.reduceLeDiff, Nat.reduceMul, Nat.reduceSub, reduceCtorEq, ↓reduceIte]
  exact ⟨.c _, .c _⟩
set_option maxRecDepth 100000 in
set_option maxHeartbeats 400000 in
theorem ufirst_told5 {x : UInt8} (h0 : ¬ x.toNat < 128) (h1 : ¬ x.toNat < 194) (h2 : ¬ x.toNat < 224) (h3 : ¬ x.toNat < 240) (h4 : ¬ x.toNat < 245) : ∃ c : Int, Told Tryz.prog 198 [.c (.v (.int .u8 (x.toNat : Int)))] (.tup [.c (.v (.int .i64 (ufirst x : Int))), .c (.v (.int .i32 c))]) := by
  have e0 : ((x.toNat : Int) < 128) = False := by simp; omega
  have e1 : ((x.toNat : Int) < 194) = False := by simp; omega
  have e2 : ((x.toNat : Int) < 224) = False := by simp; omega
  have e3 : ((x.toNat : Int) < 240) = False := by simp; omega
  have e4 : ((x.toNat : Int) < 245) = False := by simp; omega
  have hu : ufirst x = 0 := by unfold ufirst; repeat' split <;> try omega
  rw [hu]
  apply Exists.intro
  case h =>
  refine VC.told ent_198 Tryz.func198 rfl Tryz.ntmps198 (by simp) (by rfl) (by rfl) fun hb => ?_
  clear hb
  refine walkGF (e0) ?_
  refine VC.condF (by rfl) (by trivial) ?_
  refine walkGF (e1) ?_
  refine VC.condF (by rfl) (by trivial) ?_
  refine walkGF (e2) ?_
  refine VC.condF (by rfl) (by trivial) ?_
  refine walkGF (e3) ?_
  refine VC.condF (by rfl) (by trivial) ?_
  refine walkGF (e4) ?_
  refine VC.condF (by rfl) (by trivial) ?_
  refine walkG ?_
  refine ⟨.inr rfl, ?_⟩
  rw [Tryz.results198]
  simp only [resOk, resV, go_sem, Int.reduceBEq, Int.reduceLE, Int.reduceLT, Int.reduceNeg, Nat.reduceAdd, Nat.reduceEqDiff, Nat.reduceLT, Nat.reduceLeDiff, Nat.reduceMul, Nat.reduceSub, reduceCtorEq, ↓reduceIte]
  exact ⟨.c _, .c _⟩
theorem ufirst_told (x : UInt8) : ∃ c : Int, Told Tryz.prog 198 [.c (.v (.int .u8 (x.toNat : Int)))] (.tup [.c (.v (.int .i64 (ufirst x : Int))), .c (.v (.int .i32 c))]) := by
  by_cases h0 : x.toNat < 128
  · exact ufirst_told0 h0
  by_cases h1 : x.toNat < 194
  · exact ufirst_told1 h0 h1
  by_cases h2 : x.toNat < 224
  · exact ufirst_told2 h0 h1 h2
  by_cases h3 : x.toNat < 240
  · exact ufirst_told3 h0 h1 h2 h3
  by_cases h4 : x.toNat < 245
  · exact ufirst_told4 h0 h1 h2 h3 h4
  · exact ufirst_told5 h0 h1 h2 h3 h4

set_option maxRecDepth 100000 in
set_option maxHeartbeats 400000 in
theorem usec_told0 {x y : UInt8} (h0 : x.toNat = 224) : Told Tryz.prog 199 [.c (.v (.int .u8 (x.toNat : Int))), .c (.v (.int .u8 (y.toNat : Int)))] (.c (.v (.bool (usec x y)))) := by
  have e0 : ((x.toNat : Int) == 224) = true := by simp; omega
  have hu : usec x y = decide (160 ≤ y.toNat ∧ y.toNat ≤ 191) := by
    unfold usec ulo uhi
    congr 1
    repeat' split
    all_goals first | rfl | omega
  rw [hu]
  refine VC.told ent_199 Tryz.func199 rfl Tryz.ntmps199 (by simp) (by rfl) (by rfl) fun hb => ?_
  clear hb
  refine walkGF (e0) ?_
  refine VC.condT (by rfl) (by trivial) ?_
  refine walkG ?_
  refine ⟨.inr rfl, ?_⟩
  rw [Tryz.results199]
  simp only [resOk, resV, go_sem, Int.reduceBEq, Int.reduceLE, Int.reduceLT, Int.reduceNeg, Nat.reduceAdd, Nat.reduceEqDiff, Nat.reduceLT, Nat.reduceLeDiff, Nat.reduceMul, Nat.reduceSub, reduceCtorEq, ↓reduceIte]
  refine frz_c ?_
  congr 2
  rw [Bool.eq_iff_iff]
  simp
  omega
set_option maxRecDepth 100000 in
set_option maxHeartbeats 400000 in
theorem usec_told1 {x y : UInt8} (h0 : x.toNat ≠ 224) (h1 : x.toNat = 237) : Told Tryz.prog 199 [.c (.v (.int .u8 (x.toNat : Int))), .c (.v (.int .u8 (y.toNat : Int)))] (.c (.v (.bool (usec x y)))) := by
  have e0 : ((x.toNat : Int) == 224) = false := by simp; omega
  have e1 : ((x.toNat : Int) == 237) = true := by simp; omega
  have hu : usec x y = decide (128 ≤ y.toNat ∧ y.toNat ≤ 159) := by
    unfold usec ulo uhi
    congr 1
    repeat' split
    all_goals first | rfl | omega
  rw [hu]
  refine VC.told ent_199 Tryz.func199 rfl Tryz.ntmps199 (by simp) (by rfl) (by rfl) fun hb => ?_
  clear hb
  refine walkGF (e0) ?_
  refine VC.condF (by rfl) (by trivial) ?_
  refine walkGF (e1) ?_
  refine VC.condT (by rfl) (by trivial) ?_
  refine walkG ?_
  refine ⟨.inr rfl, ?_⟩
  rw [Tryz.results199]
  simp only [resOk, resV, go_sem, Int.reduceBEq, Int.reduceLE, Int.reduceLT, Int.reduceNeg, Nat.reduceAdd, Nat.reduceEqDiff, Nat.reduceLT, Nat.reduceLeDiff, Nat.reduceMul, Nat.reduceSub, reduceCtorEq, ↓reduceIte]
  refine frz_c ?_
  congr 2
  rw [Bool.eq_iff_iff]
  simp
  omega
set_option maxRecDepth 100000 in
set_option maxHeartbeats 400000 in
theorem usec_told2 {x y : UInt8} (h0 : x.toNat ≠ 224) (h1 : x.toNat ≠ 237) (h2 : x.toNat = 240) : Told Tryz.prog 199 [.c (.v (.int .u8 (x.toNat : Int))), .c (.v (.int .u8 (y.toNat : Int)))] (.c (.v (.bool (usec x y)))) := by
  have e0 : ((x.toNat : Int) == 224) = false := by simp; omega
  have e1 : ((x.toNat : Int) == 237) = false := by simp; omega
  have e2 : ((x.toNat : Int) == 240) = true := by simp; omega
  have hu : usec x y = decide (144 ≤ y.toNat ∧ y.toNat ≤ 191) := by
    unfold usec ulo uhi
    congr 1
    repeat' split
    all_goals first | rfl | omega
  rw [hu]
  refine VC.told ent_199 Tryz.func199 rfl Tryz.ntmps199 (by simp) (by rfl) (by rfl) fun hb => ?_
  clear hb
  refine walkGF (e0) ?_
  refine VC.condF (by rfl) (by trivial) ?_
  refine walkGF (e1) ?_
  refine VC.condF (by rfl) (by trivial) ?_
  refine walkGF (e2) ?_
  refine VC.condT (by rfl) (by trivial) ?_
  refine walkG ?_
  refine ⟨.inr rfl, ?_⟩
  rw [Tryz.results199]
  simp only [resOk, resV, go_sem, Int.reduceBEq, Int.reduceLE, Int.reduceLT, Int.reduceNeg, Nat.reduceAdd, Nat.reduceEqDiff, Nat.reduceLT, Nat.reduceLeDiff, Nat.reduceMul, Nat.reduceSub, reduceCtorEq, ↓reduceIte]
  refine frz_c ?_
  congr 2
  rw [Bool.eq_iff_iff]
  simp
  omega
set_option maxRecDepth 100000 in
set_option maxHeartbeats 400000 in
theorem usec_told3 {x y : UInt8} (h0 : x.toNat ≠ 224) (h1 : x.toNat ≠ 237) (h2 : x.toNat ≠ 240) (h3 : x.toNat = 244) : Told Tryz.prog 199 [.c (.v (.int .u8 (x.toNat : Int))), .c (.v (.int .u8 (y.toNat : Int)))] (.c (.v (.bool (usec x y)))) := by
  have e0 : ((x.toNat : Int) == 224) = false := by simp; omega
  have e1 : ((x.toNat : Int) == 237) = false := by simp; omega
  have e2 : ((x.toNat : Int) == 240) = false := by simp; omega
  have e3 : ((x.toNat : Int) == 244) = true := by simp; omega
  have hu : usec x y = decide (128 ≤ y.toNat ∧ y.toNat ≤ 143) := by
    unfold usec ulo uhi
    congr 1
    repeat' split
    all_goals first | rfl | omega
  rw [hu]
  refine VC.told ent_199 Tryz.func199 rfl Tryz.ntmps199 (by simp) (by rfl) (by rfl) fun hb => ?_
  clear hb
  refine walkGF (e0) ?_
  refine VC.condF (by rfl) (by trivial) ?_
  refine walkGF (e1) ?_
  refine VC.condF (by rfl) (by trivial) ?_
  refine walkGF (e2) ?_
  refine VC.condF (by rfl) (by trivial) ?_
  refine walkGF (e3) ?_
  refine VC.condT (by rfl) (by trivial) ?_
  refine walkG ?_
  refine ⟨.inr rfl, ?_⟩
  rw [Tryz.results199]
  simp only [resOk, resV, go_sem, Int.reduceBEq, Int.reduceLE, Int.reduceLT, Int.reduceNeg, Nat.reduceAdd, Nat.reduceEqDiff, Nat.reduceLT, Nat.reduceLeDiff, Nat.reduceMul, Nat.reduceSub, reduceCtorEq, ↓reduceIte]
  refine frz_c ?_
  congr 2
  rw [Bool.eq_iff_iff]
  simp
  omega
set_option maxRecDepth 100000 in
set_option maxHeartbeats 400000 in
theorem usec_told4 {x y : UInt8} (h0 : x.toNat ≠ 224) (h1 : x.toNat ≠ 237) (h2 : x.toNat ≠ 240) (h3 : x.toNat ≠ 244) : Told Tryz.prog 199 [.c (.v (.int .u8 (x.toNat : Int))), .c (.v (.int .u8 (y.toNat : Int)))] (.c (.v (.bool (usec x y)))) := by
  have e0 : ((x.toNat : Int) == 224) = false := by simp; omega
  have e1 : ((x.toNat : Int) == 237) = false := by simp; omega
  have e2 : ((x.toNat : Int) == 240) = false := by simp; omega
  have e3 : ((x.toNat : Int) == 244) = false := by simp; omega
  have hu : usec x y = decide (128 ≤ y.toNat ∧ y.toNat ≤ 191) := by
    unfold usec ulo uhi
    congr 1
    repeat' split
    all_goals first | rfl | omega
  rw [hu]
  refine VC.told ent_199 Tryz.func199 rfl Tryz.ntmps199 (by simp) (by rfl) (by rfl) fun hb => ?_
  clear hb
  refine walkGF (e0) ?_
  refine VC.condF (by rfl) (by trivial) ?_
  refine walkGF (e1) ?_
  refine VC.condF (by rfl) (by trivial) ?_
  refine walkGF (e2) ?_
  refine VC.condF (by rfl) (by trivial) ?_
  refine walkGF (e3) ?_
  refine VC.condF (by rfl) (by trivial) ?_
  refine walkG ?_
  refine ⟨.inr rfl, ?_⟩
  rw [Tryz.results199]
  simp only [resOk, resV, go_sem, Int.reduceBEq, Int.reduceLE, Int.reduceLT, Int.reduceNeg, Nat.reduceAdd, Nat.reduceEqDiff, Nat.reduceLT, Nat.reduceLeDiff, Nat.reduceMul, Nat.reduceSub, reduceCtorEq, ↓reduceIte]
  refine frz_c ?_
  congr 2
  rw [Bool.eq_iff_iff]
  simp
  omega
theorem usec_told (x y : UInt8) : Told Tryz.prog 199 [.c (.v (.int .u8 (x.toNat : Int))), .c (.v (.int .u8 (y.toNat : Int)))] (.c (.v (.bool (usec x y)))) := by
  by_cases h0 : x.toNat = 224
  · exact usec_told0 h0
  by_cases h1 : x.toNat = 237
  · exact usec_told1 h0 h1
  by_cases h2 : x.toNat = 240
  · exact usec_told2 h0 h1 h2
  by_cases h3 : x.toNat = 244
  · exact usec_told3 h0 h1 h2 h3
  · exact usec_told4 h0 h1 h2 h3

theorem cont_bits : ∀ x : Nat, x < 256 → ((IntKind.u8.wrap ((BitVec.ofInt IntKind.u8.bits ((x : Nat) : Int) &&& BitVec.ofInt IntKind.u8.bits 192).toNat : Int)) != 128) = !decide (128 ≤ x ∧ x < 192) := by decide +kernel
theorem cont_bit (x : UInt8) : ((IntKind.u8.wrap ((BitVec.ofInt IntKind.u8.bits (x.toNat : Int) &&& BitVec.ofInt IntKind.u8.bits 192).toNat : Int)) != 128) = !ucont x := cont_bits x.toNat x.toNat_lt
theorem pv_at {l : List UInt8} {i : Nat} (h : i < l.length) : (bytePV l)[i]? = some [.v (.int .u8 ((byteAt l i).toNat : Int))] := by
  unfold bytePV byteAt
  rw [List.getElem?_map, List.getElem?_eq_getElem h]
  rfl
def unext (l : List UInt8) (p : Nat) : Nat := if uerr l p = 0 then p + ulen l p else p
set_option maxRecDepth 100000 in
set_option maxHeartbeats 800000 in
theorem utake_told (l : List UInt8) (p : Nat) (hp : p ≤ l.length) (hbig : l.length ≤ 9223372036854775000) : Told Tryz.prog 178 [.c (.sl 1 (bytePV l)), .c (.v (.int .i64 (p : Int)))] (.tup [.any, .c (.v (.int .i64 (unext l p : Int))), .c (.v (.int .i64 (uerr l p : Int)))]) := by
  have hlen : (bytePV l).length = l.length := by simp [bytePV]
  refine VC.told ent_178 Tryz.func178 rfl Tryz.ntmps178 (by simp) (by rfl) (by rfl) fun hb => ?_
  clear hb
  have e1 : ((p : Int) < 0) = False := eq_false (by omega)
  have e2 : ((p : Int) > (l.length : Int)) = False := eq_false (by omega)
  refine walkGF (And.intro e1 (And.intro e2 hlen)) ?_
  refine VC.condF (by rfl) (by trivial) ?_
  refine walkGF (hlen) ?_
  refine VC.cond (by rfl) (by trivial) (fun hc => ?_) (fun hc => ?_)
  · have he : p = l.length := by simp at hc; omega
    have hu : uerr l p = 10 := by unfold uerr; rw [if_neg (by omega)]
    have hn : unext l p = p := by unfold unext; rw [if_neg (by omega)]
    rw [hu, hn]
    refine walkG ?_
    refine ⟨.inr rfl, ?_⟩
    rw [Tryz.results178]
    simp only [resOk, resV, go_sem, Int.reduceBEq, Int.reduceLE, Int.reduceLT, Int.reduceNeg, Nat.reduceAdd, Nat.reduceEqDiff, Nat.reduceLT, Nat.reduceLeDiff, Nat.reduceMul, Nat.reduceSub, reduceCtorEq, ↓reduceIte]
    exact ⟨.any _, .c _, .c _⟩
  have hlt : p < l.length := by simp at hc; omega
  clear hc
  obtain ⟨c0, hfirst⟩ := ufirst_told (byteAt l p)
  have hat := pv_at hlt
  refine walkGF (And.intro hlen hat) ?_
  (refine AO.step fun K hK => ?_; simp only [go_sem, Int.reduceBEq, Int.reduceLE, Int.reduceLT, Int.reduceNeg, Nat.reduceAdd, Nat.reduceEqDiff, Nat.reduceLT, Nat.reduceLeDiff, Nat.reduceMul, Nat.reduceSub, reduceCtorEq, ↓reduceIte, hat]; (first | refine gsel_go ?_ | skip))
  refine .inl ⟨_, hfirst, hK _ _ _ ?_⟩
  clear hK K hfirst
  refine walkG ?_
  refine VC.cond (by rfl) (by trivial) (fun hc => ?_) (fun hc => ?_)
  · have hf : ufirst (byteAt l p) = 0 := by simp at hc; omega
    have hu : uerr l p = 11 := by unfold uerr; rw [if_pos hlt, if_pos hf]
    have hn : unext l p = p := by unfold unext; rw [if_neg (by omega)]
    rw [hu, hn]
    refine walkG ?_
    refine ⟨.inr rfl, ?_⟩
    rw [Tryz.results178]
    simp only [resOk, resV, go_sem, Int.reduceBEq, Int.reduceLE, Int.reduceLT, Int.reduceNeg, Nat.reduceAdd, Nat.reduceEqDiff, Nat.reduceLT, Nat.reduceLeDiff, Nat.reduceMul, Nat.reduceSub, reduceCtorEq, ↓reduceIte]
    exact ⟨.any _, .c _, .c _⟩
  have hf : ufirst (byteAt l p) ≠ 0 := by simp at hc; omega
  clear hc
  have hue : uerr l p = ustat l p (ufirst (byteAt l p) - 1) := by unfold uerr; rw [if_pos hlt, if_neg hf]
  have hf4 : ufirst (byteAt l p) ≤ 4 := by unfold ufirst; repeat' split <;> try omega
  obtain ⟨n, hn⟩ : ∃ n, n = ufirst (byteAt l p) := ⟨_, rfl⟩
  have hul : ulen l p = n := hn.symm
  rw [← hn] at hf hf4 hue
  refine walkGF (hn.symm) ?_
  refine VC.loop (ι := {q : Nat × Int // 1 ≤ q.1 ∧ q.1 ≤ n ∧ ustat l p (q.1 - 1) = 0}) (fun q => [(0, .c (.sl 1 (bytePV l))), (1, .c (.v (.int .i64 (p : Int)))), (4, .c (.v (.int .i32 q.1.2))), (7, .c (.v (.int .i64 (n : Int)))), (8, .c (.v (.int .i64 (q.1.1 : Int))))])
    (fun _ => []) 0 (fun q => n - q.1.1) ⟨(1, c0), Nat.le_refl _, by simp only []; omega, rfl⟩ ?_ ?_
  · simp only [← hn, Weak, eq_self, used_is, sc_any, sc_c, sc_pp, sc_ref, sc_row, sc_agg, sc_fn, ScL, some_imp, List.forall_mem_map, go_sem, Int.reduceBEq, Int.reduceLE, Int.reduceLT, Int.reduceNeg, Nat.reduceAdd, Nat.reduceEqDiff, Nat.reduceLT, Nat.reduceLeDiff, Nat.reduceMul, Nat.reduceSub, reduceCtorEq, ↓reduceIte]
    all_goals first | rfl | exact cI (by omega)
  rintro ⟨⟨i, c⟩, hi1, hi2, hst⟩
  simp only [] at hi1 hi2 hst ⊢
  refine walkG ?_
  refine VC.cond (by rfl) (by trivial) (fun hc => ?_) (fun hc => ?_)
  · have hin : i < n := by simp at hc; omega
    clear hc
    have hw1 : IntKind.i64.wrap ((p : Int) + (i : Int)) = (p : Int) + (i : Int) := wrap64_id (by omega) (by omega)
    have hw2 : IntKind.i64.wrap ((i : Int) + 1) = (i : Int) + 1 := wrap64_id (by omega) (by omega)
    refine walkGF (And.intro hlen hw1) ?_
    refine VC.cond (by rfl) (by trivial) (fun hc => ?_) (fun hc => ?_)
    · have hpi : p + i = l.length := by simp at hc; omega
      have hsp : ustep l p i = 10 := by unfold ustep; rw [if_neg (by omega)]
      have hu : uerr l p = 10 := by rw [hue, ustat_bad hi1 hin hst (by omega), hsp]
      have hnx : unext l p = p := by unfold unext; rw [if_neg (by omega)]
      rw [hu, hnx]
      refine walkG ?_
      refine ⟨.inr rfl, ?_⟩
      rw [Tryz.results178]
      simp only [resOk, resV, go_sem, Int.reduceBEq, Int.reduceLE, Int.reduceLT, Int.reduceNeg, Nat.reduceAdd, Nat.reduceEqDiff, Nat.reduceLT, Nat.reduceLeDiff, Nat.reduceMul, Nat.reduceSub, reduceCtorEq, ↓reduceIte]
      exact ⟨.any _, .c _, .c _⟩
    have hpi : p + i < l.length := by
      have : p + i ≠ l.length := by simp at hc; omega
      have hall : p + i ≤ l.length := by
        have h0 := hst
        cases hi : i with
        | zero => omega
        | succ k =>
          rw [hi] at h0
          cases k with
          | zero => omega
          | succ k =>
            simp only [Nat.add_sub_cancel, ustat] at h0
            split at h0
            · unfold ustep at h0
              split at h0
              · omega
              · simp at h0
            · rename_i h1; exact absurd h0 h1
      omega
    clear hc
    have hat2 := pv_at hpi
    have hti : ((p : Int) + (i : Int)).toNat = p + i := by omega
    have hsec := usec_told (byteAt l p) (byteAt l (p + i))
    have hcb := cont_bit (byteAt l (p + i))
    (try simp only [go_sem, Int.reduceBEq, Int.reduceLE, Int.reduceLT, Int.reduceNeg, Nat.reduceAdd, Nat.reduceEqDiff, Nat.reduceLT, Nat.reduceLeDiff, Nat.reduceMul, Nat.reduceSub, reduceCtorEq, ↓reduceIte] at hcb)
    refine walkGF (And.intro hlen (And.intro hw1 (And.intro hti (And.intro hat2 (And.intro hat hcb))))) ?_
    (refine AO.step fun K hK => ?_; simp only [go_sem, Int.reduceBEq, Int.reduceLE, Int.reduceLT, Int.reduceNeg, Nat.reduceAdd, Nat.reduceEqDiff, Nat.reduceLT, Nat.reduceLeDiff, Nat.reduceMul, Nat.reduceSub, reduceCtorEq, ↓reduceIte, hat, hcb]; (first | refine gsel_go ?_ | skip))
    refine .inl ⟨_, fun _ => hsec, hK _ _ _ ?_⟩
    clear hK K hsec
    refine walkG ?_
    refine VC.cond (by rfl) (by trivial) (fun hc => ?_) (fun hc => ?_)
    · have hsp : ustep l p i = 11 := by
        unfold ustep
        rw [if_pos hpi, if_neg]
        simp at hc
        rintro ⟨g1, g2⟩
        rcases hc with hc | hc
        · simp [hc] at g1
        · have := g2 (by omega)
          simp_all
      have hu : uerr l p = 11 := by rw [hue, ustat_bad hi1 hin hst (by omega), hsp]
      have hnx : unext l p = p := by unfold unext; rw [if_neg (by omega)]
      rw [hu, hnx]
      refine walkG ?_
      refine ⟨.inr rfl, ?_⟩
      rw [Tryz.results178]
      simp only [resOk, resV, go_sem, Int.reduceBEq, Int.reduceLE, Int.reduceLT, Int.reduceNeg, Nat.reduceAdd, Nat.reduceEqDiff, Nat.reduceLT, Nat.reduceLeDiff, Nat.reduceMul, Nat.reduceSub, reduceCtorEq, ↓reduceIte]
      exact ⟨.any _, .c _, .c _⟩
    · have hsp : ustep l p i = 0 := by
        unfold ustep
        rw [if_pos hpi, if_pos]
        simp at hc
        refine ⟨hc.1, fun h1 => ?_⟩
        exact hc.2 (by omega)
      have hst2 : ustat l p i = 0 := by
        cases hi : i with
        | zero => omega
        | succ k =>
          rw [hi] at hst hsp
          exact ustat_next (by simpa using hst) hsp
      clear hc
      refine walkGF (hw2) ?_
      apply RQ.next ⟨(i + 1, _), by simp only []; omega, by simp only []; omega, by simpa using hst2⟩
      · simp only [Weak, eq_self, used_is, sc_any, sc_c, sc_pp, sc_ref, sc_row, sc_agg, sc_fn, ScL, some_imp, List.forall_mem_map, go_sem, Int.reduceBEq, Int.reduceLE, Int.reduceLT, Int.reduceNeg, Nat.reduceAdd, Nat.reduceEqDiff, Nat.reduceLT, Nat.reduceLeDiff, Nat.reduceMul, Nat.reduceSub, reduceCtorEq, ↓reduceIte]
        exact ⟨rfl, cI (by omega)⟩
      · simp only []; omega
  · have hin : i = n := by simp at hc; omega
    subst hin
    have hu : uerr l p = 0 := by rw [hue, hst]
    have hnx : unext l p = p + i := by unfold unext; rw [if_pos hu, hul]
    have hbd := ulen_bound hu
    have hw1 : IntKind.i64.wrap ((p : Int) + (i : Int)) = ((p + i : Nat) : Int) := by rw [wrap64_id (by omega) (by omega)]; omega
    rw [hu, hnx]
    refine walkGF (hw1) ?_
    refine ⟨.inr rfl, ?_⟩
    rw [Tryz.results178]
    simp only [resOk, resV, go_sem, Int.reduceBEq, Int.reduceLE, Int.reduceLT, Int.reduceNeg, Nat.reduceAdd, Nat.reduceEqDiff, Nat.reduceLT, Nat.reduceLeDiff, Nat.reduceMul, Nat.reduceSub, reduceCtorEq, ↓reduceIte]
    exact ⟨.any _, .c _, .c _⟩

set_option maxRecDepth 100000 in
set_option maxHeartbeats 800000 in
theorem ucount_told (l : List UInt8) (hbig : l.length ≤ 9223372036854775000) : Told Tryz.prog 132 [.c (.sl 1 (bytePV l))] (.tup [.c (.v (.int .i64 ((uCnt l 0 0).1 : Int))), .c (.v (.int .i64 ((uCnt l 0 0).2 : Int)))]) := by
  have hlen : (bytePV l).length = l.length := by simp [bytePV]
  refine VC.told ent_132 Tryz.func132 rfl Tryz.ntmps132 (by simp) (by first | rfl | simp [AV.pureB, AV.pureL, pureL_c, pures]) (by first | rfl | simp [AV.pureB, AV.pureL, pureL_c, pures]) fun hb => ?_
  clear hb
  obtain ⟨V, hV⟩ : ∃ V, V = uCnt l 0 0 := ⟨_, rfl⟩
  rw [← hV]
  refine walkG ?_
  refine VC.loop (ι := {q : Nat × Nat // q.1 ≤ l.length ∧ q.2 ≤ q.1 ∧ uCnt l q.1 q.2 = V}) (fun q => [(0, .c (.sl 1 (bytePV l))), (4, .c (.v (.int .i64 (q.1.2 : Int)))), (5, .c (.v (.int .i64 (q.1.1 : Int))))]) (fun _ => []) 0 (fun q => l.length - q.1.1) ⟨(0, 0), Nat.zero_le _, Nat.le_refl _, hV.symm⟩ ?_ ?_
  · simp only [Weak, eq_self, used_is, sc_any, sc_c, sc_pp, sc_ref, sc_row, sc_agg, sc_fn, ScL, some_imp, List.forall_mem_map, go_sem, Int.reduceBEq, Int.reduceLE, Int.reduceLT, Int.reduceNeg, Nat.reduceAdd, Nat.reduceEqDiff, Nat.reduceLT, Nat.reduceLeDiff, Nat.reduceMul, Nat.reduceSub, reduceCtorEq, ↓reduceIte]
    all_goals rfl
  rintro ⟨⟨p, k⟩, hp, hk, hu⟩
  simp only [] at hp hk hu ⊢
  refine walkGF (hlen) ?_
  refine VC.cond (by rfl) (by trivial) (fun hc => ?_) (fun hc => ?_)
  · have hlt : p < l.length := by simp at hc; omega
    have ht := utake_told l p hp hbig
    have hw : IntKind.i64.wrap ((k : Int) + 1) = (k : Int) + 1 := wrap64_id (by omega) (by omega)
    refine walkGF (hlen) ?_
    refine walkC (ht) ?_
    refine walkG ?_
    refine VC.cond (by rfl) (by trivial) (fun he => ?_) (fun he => ?_)
    · have h2 : uerr l p ≠ 0 := by simpa using he
      rw [uCnt_bad hlt h2] at hu
      subst hu
      refine walkG ?_
      refine ⟨by first | exact .inr rfl | exact .inl rfl, ?_⟩; rw [Tryz.results132]; simp only [resOk, resV, go_sem, Int.reduceBEq, Int.reduceLE, Int.reduceLT, Int.reduceNeg, Nat.reduceAdd, Nat.reduceEqDiff, Nat.reduceLT, Nat.reduceLeDiff, Nat.reduceMul, Nat.reduceSub, reduceCtorEq, ↓reduceIte]
      exact ⟨.c _, .c _⟩
    · have h2 : uerr l p = 0 := by simpa using he
      obtain ⟨h3, h4⟩ := ulen_bound h2
      have hn : unext l p = p + ulen l p := by unfold unext; rw [if_pos h2]
      rw [uCnt_next hlt h2] at hu
      refine walkGF (And.intro hw hn) ?_
      refine .next ⟨(p + ulen l p, k + 1), h4, by simp only []; omega, hu⟩ ?_ (by simp only []; omega)
      simp only [Weak, eq_self, used_is, sc_any, sc_c, sc_pp, sc_ref, sc_row, sc_agg, sc_fn, ScL, some_imp, List.forall_mem_map, go_sem, Int.reduceBEq, Int.reduceLE, Int.reduceLT, Int.reduceNeg, Nat.reduceAdd, Nat.reduceEqDiff, Nat.reduceLT, Nat.reduceLeDiff, Nat.reduceMul, Nat.reduceSub, reduceCtorEq, ↓reduceIte]
      exact cI (by omega)
  · have hge : ¬ p < l.length := by simp at hc; omega
    rw [uCnt_end hge] at hu
    subst hu
    refine walkG ?_
    refine ⟨by first | exact .inr rfl | exact .inl rfl, ?_⟩; rw [Tryz.results132]; simp only [resOk, resV, go_sem, Int.reduceBEq, Int.reduceLE, Int.reduceLT, Int.reduceNeg, Nat.reduceAdd, Nat.reduceEqDiff, Nat.reduceLT, Nat.reduceLeDiff, Nat.reduceMul, Nat.reduceSub, reduceCtorEq, ↓reduceIte]
    exact ⟨.c _, .c _⟩
set_option maxRecDepth 100000 in
set_option maxHeartbeats 400000 in
theorem uright_told (l : List UInt8) (hbig : l.length ≤ 9223372036854775000) : Told Tryz.prog 90 [.c (.sl 1 (bytePV l))] (.c (.v (.bool (isRight l)))) := by
  have h := ucount_told l hbig
  refine VC.told ent_90 Tryz.func90 rfl Tryz.ntmps90 (by simp) (by first | rfl | simp [AV.pureB, AV.pureL, pureL_c, pures]) (by first | rfl | simp [AV.pureB, AV.pureL, pureL_c, pures]) fun hb => ?_
  clear hb
  refine walkG ?_
  refine walkC (h) ?_
  refine walkG ?_
  refine ⟨by first | exact .inr rfl | exact .inl rfl, ?_⟩; rw [Tryz.results90]; simp only [resOk, resV, go_sem, Int.reduceBEq, Int.reduceLE, Int.reduceLT, Int.reduceNeg, Nat.reduceAdd, Nat.reduceEqDiff, Nat.reduceLT, Nat.reduceLeDiff, Nat.reduceMul, Nat.reduceSub, reduceCtorEq, ↓reduceIte]
  exact frz_c (by unfold isRight; congr 2; rw [Bool.eq_iff_iff]; simp)

mutual
def JT.sm (N : Nat) : JT → Prop
  | .mk k n s ks xs => s.length ≤ N ∧ ks.length ≤ N ∧ (∀ y ∈ ks, y.length ≤ N) ∧ xs.length ≤ N ∧ JT.smL N xs
def JT.smL (N : Nat) : List JT → Prop
  | [] => True
  | x :: xs => x.sm N ∧ JT.smL N xs
end
theorem smL_mem {N : Nat} : ∀ {xs : List JT}, JT.smL N xs → ∀ x ∈ xs, x.sm N
  | x :: xs, h, y, hy => by
    rcases List.mem_cons.1 hy with rfl | hy
    · exact h.1
    · exact smL_mem h.2 y hy
def jbare : JT → Bool
  | .mk k n s ks xs =>
    if k = 1 then (n == 0) && s.isEmpty && xs.isEmpty else if k = 2 then (n == 0 || n == 1) && s.isEmpty && xs.isEmpty else if k = 3 then s.isEmpty && xs.isEmpty
    else if k = 4 then (n == 0) && xs.isEmpty && isRight s else if k = 5 ∨ k = 6 then (n == 0) && s.isEmpty else false
theorem str_empty (s : List UInt8) : (!((str s).toList == (⟨#[]⟩ : ByteArray).toList)) = !s.isEmpty := by
  rw [str_toList, show (⟨#[]⟩ : ByteArray) = str [] from rfl, str_toList]
  cases s <;> rfl
theorem nn_eq (n m : Int) : (!(n != m)) = (n == m) := by cases h : n == m <;> simp_all [bne]
set_option maxRecDepth 100000 in
set_option maxHeartbeats 800000 in
theorem jbare_told (t : JT) (ht : t.sm 140737488355328) : Told Tryz.prog 165 [t.av] (.c (.v (.bool (jbare t)))) := by
  cases t with
  | mk k n s ks xs =>
  have hs : s.length ≤ 140737488355328 := ht.1
  have hR := uright_told s (by omega)
  refine VC.told ent_165 Tryz.func165 rfl Tryz.ntmps165 (by simp) rfl rfl fun hb => ?_
  clear hb
  have g1 : decide ((xs.length : Int) > 0) = !xs.isEmpty := by cases xs <;> simp <;> omega
  refine walkGF (And.intro @JT.av_eq (And.intro @cells_mk (And.intro @str_empty g1))) ?_
  refine VC.cond (by rfl) (by trivial) (fun h1 => ?_) (fun h1 => ?_)
  · refine walkG ?_
    refine ⟨by first | exact .inr rfl | exact .inl rfl, ?_⟩; rw [Tryz.results165]; simp only [resOk, resV, go_sem, Int.reduceBEq, Int.reduceLE, Int.reduceLT, Int.reduceNeg, Nat.reduceAdd, Nat.reduceEqDiff, Nat.reduceLT, Nat.reduceLeDiff, Nat.reduceMul, Nat.reduceSub, reduceCtorEq, ↓reduceIte]
    refine frz_c ?_
    simp only [beq_iff_eq] at h1
    simp only [jbare, h1, if_true, nn_eq, bpick_and, Bool.not_not]
  refine walkGF (And.intro @JT.av_eq @cells_mk) ?_
  refine VC.cond (by rfl) (by trivial) (fun h2 => ?_) (fun h2 => ?_)
  · refine walkGF (And.intro @cells_mk (And.intro @str_empty g1)) ?_
    refine ⟨by first | exact .inr rfl | exact .inl rfl, ?_⟩; rw [Tryz.results165]; simp only [resOk, resV, go_sem, Int.reduceBEq, Int.reduceLE, Int.reduceLT, Int.reduceNeg, Nat.reduceAdd, Nat.reduceEqDiff, Nat.reduceLT, Nat.reduceLeDiff, Nat.reduceMul, Nat.reduceSub, reduceCtorEq, ↓reduceIte]
    refine frz_c ?_
    obtain rfl : k = 2 := by simpa using h2
    simp [jbare]
  refine walkGF (And.intro @JT.av_eq @cells_mk) ?_
  refine VC.cond (by rfl) (by trivial) (fun h3 => ?_) (fun h3 => ?_)
  · refine walkGF (And.intro @cells_mk (And.intro @str_empty g1)) ?_
    refine ⟨by first | exact .inr rfl | exact .inl rfl, ?_⟩; rw [Tryz.results165]; simp only [resOk, resV, go_sem, Int.reduceBEq, Int.reduceLE, Int.reduceLT, Int.reduceNeg, Nat.reduceAdd, Nat.reduceEqDiff, Nat.reduceLT, Nat.reduceLeDiff, Nat.reduceMul, Nat.reduceSub, reduceCtorEq, ↓reduceIte]
    refine frz_c ?_
    obtain rfl : k = 3 := by simpa using h3
    simp [jbare]
  refine walkGF (And.intro @JT.av_eq @cells_mk) ?_
  refine VC.cond (by rfl) (by trivial) (fun h4 => ?_) (fun h4 => ?_)
  · obtain rfl : k = 4 := by simpa using h4
    refine walkGF (And.intro @cells_mk (And.intro @str_empty (And.intro g1 (And.intro @str_size hs)))) ?_
    refine walkDF (@str_dl) (hR) ?_
    refine walkG ?_
    refine ⟨by first | exact .inr rfl | exact .inl rfl, ?_⟩; rw [Tryz.results165]; simp only [resOk, resV, go_sem, Int.reduceBEq, Int.reduceLE, Int.reduceLT, Int.reduceNeg, Nat.reduceAdd, Nat.reduceEqDiff, Nat.reduceLT, Nat.reduceLeDiff, Nat.reduceMul, Nat.reduceSub, reduceCtorEq, ↓reduceIte]
    refine frz_c ?_
    simp only [jbare, nn_eq, bpick_and, Bool.not_not]
    simp
  refine walkGF (And.intro @JT.av_eq @cells_mk) ?_
  refine VC.cond (by rfl) (by trivial) (fun h5 => ?_) (fun h5 => ?_)
  · obtain rfl : k = 5 := by simpa using h5
    refine walkGF (@cells_mk) ?_
    refine VC.condT (by rfl) (by trivial) ?_
    refine walkGF (And.intro @cells_mk (And.intro @str_empty g1)) ?_
    refine ⟨by first | exact .inr rfl | exact .inl rfl, ?_⟩; rw [Tryz.results165]; simp only [resOk, resV, go_sem, Int.reduceBEq, Int.reduceLE, Int.reduceLT, Int.reduceNeg, Nat.reduceAdd, Nat.reduceEqDiff, Nat.reduceLT, Nat.reduceLeDiff, Nat.reduceMul, Nat.reduceSub, reduceCtorEq, ↓reduceIte]
    refine frz_c ?_
    simp only [jbare, nn_eq, bpick_and, Bool.not_not]
    simp
  refine walkGF (And.intro @JT.av_eq @cells_mk) ?_
  refine VC.cond (by rfl) (by trivial) (fun h6 => ?_) (fun h6 => ?_)
  · obtain rfl : k = 6 := by simpa using h6
    refine walkGF (And.intro @cells_mk (And.intro @str_empty g1)) ?_
    refine ⟨by first | exact .inr rfl | exact .inl rfl, ?_⟩; rw [Tryz.results165]; simp only [resOk, resV, go_sem, Int.reduceBEq, Int.reduceLE, Int.reduceLT, Int.reduceNeg, Nat.reduceAdd, Nat.reduceEqDiff, Nat.reduceLT, Nat.reduceLeDiff, Nat.reduceMul, Nat.reduceSub, reduceCtorEq, ↓reduceIte]
    refine frz_c ?_
    simp only [jbare, nn_eq, bpick_and, Bool.not_not]
    simp
  · refine walkGF (And.intro @cells_mk (And.intro @str_empty g1)) ?_
    refine ⟨by first | exact .inr rfl | exact .inl rfl, ?_⟩; rw [Tryz.results165]; simp only [resOk, resV, go_sem, Int.reduceBEq, Int.reduceLE, Int.reduceLT, Int.reduceNeg, Nat.reduceAdd, Nat.reduceEqDiff, Nat.reduceLT, Nat.reduceLeDiff, Nat.reduceMul, Nat.reduceSub, reduceCtorEq, ↓reduceIte]
    refine frz_c ?_
    simp only [beq_eq_false_iff_ne] at h1 h2 h3 h4 h5 h6
    simp [jbare, h1, h2, h3, h4, h5, h6]

def bkeys5 : Nat → List (List UInt8) → Option Nat
  | n, [] => some n
  | n, y :: ys => if n ≤ 2500 then (if 2500 < y.length then none else bkeys5 (n + 1 + y.length) ys) else some n
mutual
def tbulk5 (d : Nat) : JT → Nat
  | .mk k n s ks xs => if 60 < d ∨ 2500 < s.length ∨ 2500 < ks.length ∨ 2500 < xs.length then 2501 else match bkeys5 (1 + s.length) ks with | none => 2501 | some n => bitems5 d n xs
def bitems5 (d : Nat) : Nat → List JT → Nat
  | n, [] => n
  | n, x :: xs => if n ≤ 2500 then bitems5 d (n + tbulk5 (d + 1) x) xs else n
end
theorem bkeys5_le : ∀ (ys : List (List UInt8)) (n m : Nat), n ≤ 5001 → bkeys5 n ys = some m → m ≤ 5001
  | [], n, m, h, e => by simp [bkeys5] at e; omega
  | y :: ys, n, m, h, e => by
    rw [bkeys5] at e
    split at e
    · split at e
      · simp at e
      · exact bkeys5_le ys _ m (by omega) e
    · simp at e; omega
mutual
theorem tbulk5_le (d : Nat) : ∀ (t : JT), tbulk5 d t ≤ 5001 + 2501 * (61 - d)
  | .mk k n s ks xs => by
    rw [tbulk5]
    split
    · omega
    · rename_i h
      split
      · omega
      · rename_i m hm
        exact bitems5_le d xs m (by have := bkeys5_le ks _ _ (by omega) hm; omega)
theorem bitems5_le (d : Nat) : ∀ (xs : List JT) (n : Nat), n ≤ 5001 + 2501 * (61 - d) → bitems5 d n xs ≤ 5001 + 2501 * (61 - d)
  | [], n, h => by rw [bitems5]; exact h
  | x :: xs, n, h => by
    rw [bitems5]
    split
    · have := tbulk5_le (d + 1) x
      by_cases hd : 60 < d
      · have h2 : tbulk5 (d + 1) x = 2501 := by
          cases x
          rw [tbulk5, if_pos (by omega)]
        exact bitems5_le d xs _ (by omega)
      · exact bitems5_le d xs _ (by omega)
    · exact h
end
theorem bitems5_ge (d : Nat) : ∀ (xs : List JT) (n : Nat), n ≤ bitems5 d n xs
  | [], n => by rw [bitems5]; exact Nat.le_refl _
  | x :: xs, n => by
    rw [bitems5]
    split
    · exact Nat.le_trans (Nat.le_add_right _ _) (bitems5_ge d xs _)
    · exact Nat.le_refl _
mutual
theorem tbulk5_deep (d : Nat) : ∀ (t : JT), tbulk5 d t ≤ 2500 → tdeep t + d ≤ 61
  | .mk k n s ks xs => fun h => by
    rw [tbulk5] at h
    split at h
    · omega
    · rename_i hd
      split at h
      · omega
      · rw [tdeep]
        split
        · exact bitems5_deep d xs _ 1 (by omega) h
        · omega
theorem bitems5_deep (d : Nat) : ∀ (xs : List JT) (n m : Nat), m + d ≤ 61 → bitems5 d n xs ≤ 2500 → tdeeps m xs + d ≤ 61
  | [], n, m, hm, h => by rw [tdeeps]; exact hm
  | x :: xs, n, m, hm, h => by
    rw [bitems5] at h
    split at h
    · have h1 := bitems5_ge d xs (n + tbulk5 (d + 1) x)
      have h2 := tbulk5_deep (d + 1) x (by omega)
      rw [tdeeps]
      exact bitems5_deep d xs _ _ (by omega) h
    · omega
end
theorem bkeys5_step {ks : List (List UInt8)} {i n : Nat} {y : List UInt8} (hy : ks[i]? = some y) (hn : n ≤ 2500) (hl : y.length ≤ 2500) : bkeys5 n (ks.drop i) = bkeys5 (n + 1 + y.length) (ks.drop (i + 1)) := by
  obtain ⟨hlt, rfl⟩ := List.getElem?_eq_some_iff.1 hy
  rw [List.drop_eq_getElem_cons hlt, bkeys5, if_pos hn, if_neg (by omega)]
theorem bkeys5_none {ks : List (List UInt8)} {i n : Nat} {y : List UInt8} (hy : ks[i]? = some y) (hn : n ≤ 2500) (hl : 2500 < y.length) : bkeys5 n (ks.drop i) = none := by
  obtain ⟨hlt, rfl⟩ := List.getElem?_eq_some_iff.1 hy
  rw [List.drop_eq_getElem_cons hlt, bkeys5, if_pos hn, if_pos hl]
theorem bkeys5_end {ks : List (List UInt8)} {i n : Nat} (h : ¬ (i < ks.length ∧ n ≤ 2500)) : bkeys5 n (ks.drop i) = some n := by
  by_cases hlt : i < ks.length
  · rw [List.drop_eq_getElem_cons hlt, bkeys5, if_neg (by omega)]
  · rw [List.drop_of_length_le (by omega), bkeys5]
theorem bitems5_step {d : Nat} {xs : List JT} {i n : Nat} {x : JT} (hx : xs[i]? = some x) (hn : n ≤ 2500) : bitems5 d n (xs.drop i) = bitems5 d (n + tbulk5 (d + 1) x) (xs.drop (i + 1)) := by
  obtain ⟨hlt, rfl⟩ := List.getElem?_eq_some_iff.1 hx
  rw [List.drop_eq_getElem_cons hlt, bitems5, if_pos hn]
theorem bitems5_end {d : Nat} {xs : List JT} {i n : Nat} (h : ¬ (i < xs.length ∧ n ≤ 2500)) : bitems5 d n (xs.drop i) = n := by
  by_cases hlt : i < xs.length
  · rw [List.drop_eq_getElem_cons hlt, bitems5, if_neg (by omega)]
  · rw [List.drop_of_length_le (by omega), bitems5]
set_option maxRecDepth 100000 in
set_option maxHeartbeats 800000 in
theorem bulk_told5 : ∀ (m : Nat) (t : JT), SizeOf.sizeOf t ≤ m → ∀ (d : Nat) (z : Int), d ≤ 61 → z = (d : Int) → Told Tryz.prog 73 [t.av, .c (.v (.int .i64 2500)), .c (.v (.int .i64 z))] (.c (.v (.int .i64 (tbulk5 d t)))) := by
  intro m
  induction m with
  | zero => intro t ht; cases t; simp at ht
  | succ m ih =>
  intro t ht d z hd hz
  cases t with
  | mk k n s ks xs =>
  have hbl := tbulk5_le d (.mk k n s ks xs)
  have hbi := bitems5_le d xs
  refine VC.told ent_73 Tryz.func73 rfl Tryz.ntmps73 (by simp) rfl rfl fun hb => ?_
  simp only [JT.av, cells_mk, List.map_cons, List.map_nil, abd_agg, abd_c, pbd_v, pbd_sl, List.mem_cons, List.not_mem_nil, or_false, forall_eq_or_imp, forall_eq, true_and, List.length_map] at hb ⊢
  clear hb
  have hw21 : IntKind.i64.wrap (2500 + 1) = 2501 := by rfl
  rw [tbulk5] at hbl ⊢
  refine walkGF (@str_size) ?_
  refine VC.cond (by rfl) (by trivial) (fun hc => ?_) (fun hc => ?_)
  · have hcc : 60 < d ∨ 2500 < s.length ∨ 2500 < ks.length ∨ 2500 < xs.length := by
      simp at hc
      omega
    rw [if_pos hcc]
    refine walkGF (hw21) ?_
    refine ⟨.inr rfl, ?_⟩
    rw [Tryz.results73]
    simp only [resOk, resV, go_sem, Int.reduceBEq, Int.reduceLE, Int.reduceLT, Int.reduceNeg, Nat.reduceAdd, Nat.reduceEqDiff, Nat.reduceLT, Nat.reduceLeDiff, Nat.reduceMul, Nat.reduceSub, reduceCtorEq, ↓reduceIte]
    exact .c _
  · have hcc : ¬ (60 < d ∨ 2500 < s.length ∨ 2500 < ks.length ∨ 2500 < xs.length) := by
      simp at hc
      omega
    rw [if_neg hcc] at hbl ⊢
    clear hc
    obtain ⟨V, hV⟩ : ∃ V, V = bkeys5 (1 + s.length) ks := ⟨_, rfl⟩
    rw [← hV] at hbl ⊢
    have hw1 : IntKind.i64.wrap (1 + (s.length : Int)) = 1 + (s.length : Int) := wrap64_id (by omega) (by omega)
    refine walkGF (And.intro @cells_mk (And.intro @str_size hw1)) ?_
    refine VC.loop (ι := {p : Nat × Nat // p.1 ≤ ks.length ∧ p.2 ≤ 5001 ∧ bkeys5 p.2 (ks.drop p.1) = V}) (fun p => [(1, .c (.v (.int .i64 2500))), (2, .c (.v (.int .i64 z))), (3, .ref 0 1 0 0), (7, .c (.v (.int .i64 p.1.2))), (8, .c (.v (.int .i64 p.1.1)))])
      (fun _ => [(0, ⟨false, 36, 5, [(JT.mk k n s ks xs).cells.map .c]⟩)]) 8 (fun p => ks.length - p.1.1) ⟨(0, 1 + s.length), Nat.zero_le _, by simp only []; omega, by simpa using hV.symm⟩ ?_ ?_
    · simp only [cells_mk, Weak, eq_self, used_is, sc_any, sc_c, sc_pp, sc_ref, sc_row, sc_agg, sc_fn, ScL, some_imp, List.forall_mem_map, go_sem, Int.reduceBEq, Int.reduceLE, Int.reduceLT, Int.reduceNeg, Nat.reduceAdd, Nat.reduceEqDiff, Nat.reduceLT, Nat.reduceLeDiff, Nat.reduceMul, Nat.reduceSub, reduceCtorEq, ↓reduceIte]
      all_goals first | rfl | exact cI (by omega)
    rintro ⟨⟨i, b⟩, hi, hb, hbk⟩
    simp only [] at hi hb hbk ⊢
    refine walkGF (@cells_mk) ?_
    refine VC.cond (by rfl) (by trivial) (fun hc => ?_) (fun hc => ?_)
    · have hcc : i < ks.length ∧ b ≤ 2500 := by
        simp at hc
        omega
      clear hc
      obtain ⟨y, hy⟩ : ∃ y, ks[i]? = some y := ⟨ks[i], List.getElem?_eq_getElem hcc.1⟩
      (repeat (first | refine pass ?_ | refine VC.region (by rfl) (by rfl) ?_ | (refine AO.step fun K hK => ?_; simp only [cells_mk, List.getElem?_map, hy, sPV, str_size, go_sem, Int.reduceBEq, Int.reduceLE, Int.reduceLT, Int.reduceNeg, Nat.reduceAdd, Nat.reduceEqDiff, Nat.reduceLT, Nat.reduceLeDiff, Nat.reduceMul, Nat.reduceSub, reduceCtorEq, ↓reduceIte]; (first | refine gsel_skip ?_ | refine gsel_go ?_ | skip); (first | refine hK _ _ _ ?_ | refine ⟨by first | omega | exact ⟨_, rfl, rfl⟩ | exact fun _ => ⟨_, rfl, rfl⟩ | (intro h; simp only [cells_mk, List.getElem?_map, hy, sPV, str_size, h, true_and]; omega) | (clear hK; intro h; simp_all <;> omega), hK _ _ _ ?_⟩); clear hK K) | refine VC.draw mixP (by rfl) (by rfl) ?_ | refine ⟨okd_of (by kernel_rfl), ?_⟩ | refine BQ.other (by decide) ?_ | refine VC.seq ?_ | refine AO.nil ?_ | refine VC.block ?_))
      refine VC.cond (by rfl) (by trivial) (fun hc => ?_) (fun hc => ?_)
      · have hl : 2500 < y.length := by
          simp at hc
          omega
        obtain rfl : V = none := hbk.symm.trans (bkeys5_none hy hcc.2 hl)
        refine walkGF (hw21) ?_
        refine ⟨.inr rfl, ?_⟩
        rw [Tryz.results73]
        simp only [resOk, resV, go_sem, Int.reduceBEq, Int.reduceLE, Int.reduceLT, Int.reduceNeg, Nat.reduceAdd, Nat.reduceEqDiff, Nat.reduceLT, Nat.reduceLeDiff, Nat.reduceMul, Nat.reduceSub, reduceCtorEq, ↓reduceIte]
        exact .c _
      · have hl : y.length ≤ 2500 := by
          simp at hc
          omega
        have hw2 : IntKind.i64.wrap ((b : Int) + 1) = (b : Int) + 1 := wrap64_id (by omega) (by omega)
        have hw3 : IntKind.i64.wrap ((b : Int) + 1 + (y.length : Int)) = (b : Int) + 1 + (y.length : Int) := wrap64_id (by omega) (by omega)
        have hw4 : IntKind.i64.wrap ((i : Int) + 1) = (i : Int) + 1 := wrap64_id (by omega) (by omega)
        (repeat (first | refine pass ?_ | refine VC.region (by rfl) (by rfl) ?_ | (refine AO.step fun K hK => ?_; simp only [cells_mk, List.getElem?_map, hy, sPV, str_size, hw2, hw3, hw4, go_sem, Int.reduceBEq, Int.reduceLE, Int.reduceLT, Int.reduceNeg, Nat.reduceAdd, Nat.reduceEqDiff, Nat.reduceLT, Nat.reduceLeDiff, Nat.reduceMul, Nat.reduceSub, reduceCtorEq, ↓reduceIte]; (first | refine gsel_skip ?_ | refine gsel_go ?_ | skip); (first | refine hK _ _ _ ?_ | refine ⟨by first | omega | exact ⟨_, rfl, rfl⟩ | exact fun _ => ⟨_, rfl, rfl⟩ | (intro h; simp only [cells_mk, List.getElem?_map, hy, sPV, str_size, hw2, hw3, hw4, h, true_and]; omega) | (clear hK; intro h; simp_all <;> omega), hK _ _ _ ?_⟩); clear hK K) | refine VC.draw mixP (by rfl) (by rfl) ?_ | refine ⟨okd_of (by kernel_rfl), ?_⟩ | refine BQ.other (by decide) ?_ | refine VC.seq ?_ | refine AO.nil ?_ | refine VC.block ?_))
        refine .next ⟨(i + 1, b + 1 + y.length), by simp only []; omega, by simp only []; omega, by simp only []; rw [← hbk, bkeys5_step hy hcc.2 hl]⟩ ?_ (by simp only []; omega)
        simp only [cells_mk, Weak, eq_self, used_is, sc_any, sc_c, sc_pp, sc_ref, sc_row, sc_agg, sc_fn, ScL, some_imp, List.forall_mem_map, go_sem, Int.reduceBEq, Int.reduceLE, Int.reduceLT, Int.reduceNeg, Nat.reduceAdd, Nat.reduceEqDiff, Nat.reduceLT, Nat.reduceLeDiff, Nat.reduceMul, Nat.reduceSub, reduceCtorEq, ↓reduceIte]
        exact ⟨cI (by omega), cI (by omega)⟩
    · have hcc : ¬ (i < ks.length ∧ b ≤ 2500) := by
        simp at hc
        omega
      clear hc
      obtain rfl : V = some b := hbk.symm.trans (bkeys5_end hcc)
      simp only [] at hbl ⊢
      obtain ⟨V, hV2⟩ : ∃ V, V = bitems5 d b xs := ⟨_, rfl⟩
      rw [← hV2] at hbl ⊢
      refine walkG ?_
      refine VC.loop (ι := {p : Nat × Nat // p.1 ≤ xs.length ∧ p.2 ≤ 5001 + 2501 * (61 - d) ∧ bitems5 d p.2 (xs.drop p.1) = V}) (fun p => [(1, .c (.v (.int .i64 2500))), (2, .c (.v (.int .i64 z))), (3, .ref 0 1 0 0), (7, .c (.v (.int .i64 p.1.2))), (9, .c (.v (.int .i64 p.1.1)))])
        (fun _ => [(0, ⟨false, 36, 5, [(JT.mk k n s ks xs).cells.map .c]⟩)]) 8 (fun p => xs.length - p.1.1) ⟨(0, b), Nat.zero_le _, by simp only []; omega, by simpa using hV2.symm⟩ ?_ ?_
      · simp only [cells_mk, Weak, eq_self, used_is, sc_any, sc_c, sc_pp, sc_ref, sc_row, sc_agg, sc_fn, ScL, some_imp, List.forall_mem_map, go_sem, Int.reduceBEq, Int.reduceLE, Int.reduceLT, Int.reduceNeg, Nat.reduceAdd, Nat.reduceEqDiff, Nat.reduceLT, Nat.reduceLeDiff, Nat.reduceMul, Nat.reduceSub, reduceCtorEq, ↓reduceIte]
        all_goals rfl
      clear hi hcc hbk
      rintro ⟨⟨i, c⟩, hi, hcb, hbt⟩
      simp only [] at hi hcb hbt ⊢
      refine walkGF (@cells_mk) ?_
      refine VC.cond (by rfl) (by trivial) (fun hc => ?_) (fun hc => ?_)
      · have hcc : i < xs.length ∧ c ≤ 2500 := by
          simp at hc
          omega
        clear hc
        obtain ⟨x, hx⟩ : ∃ x, xs[i]? = some x := ⟨xs[i], List.getElem?_eq_getElem hcc.1⟩
        have hxm := List.mem_of_getElem? hx
        have hsz : SizeOf.sizeOf x ≤ m := by
          have h1 := List.sizeOf_lt_of_mem hxm
          simp at ht
          omega
        have hcall := ih x hsz (d + 1) (z + 1) (by omega) (by omega)
        have hxb := tbulk5_le (d + 1) x
        have hw1 : IntKind.i64.wrap (z + 1) = z + 1 := wrap64_id (by omega) (by omega)
        have hw2 : IntKind.i64.wrap ((c : Int) + (tbulk5 (d + 1) x : Int)) = (c : Int) + (tbulk5 (d + 1) x : Int) := wrap64_id (by omega) (by omega)
        have hw4 : IntKind.i64.wrap ((i : Int) + 1) = (i : Int) + 1 := wrap64_id (by omega) (by omega)
        (repeat (first | refine pass ?_ | refine VC.region (by rfl) (by rfl) ?_ | (refine AO.step fun K hK => ?_; simp only [cells_mk, List.getElem?_map, hx, len_cells, take_cells, take_cellsC, hw1, go_sem, Int.reduceBEq, Int.reduceLE, Int.reduceLT, Int.reduceNeg, Nat.reduceAdd, Nat.reduceEqDiff, Nat.reduceLT, Nat.reduceLeDiff, Nat.reduceMul, Nat.reduceSub, reduceCtorEq, ↓reduceIte]; (first | refine gsel_skip ?_ | refine gsel_go ?_ | skip); (first | refine hK _ _ _ ?_ | refine ⟨by first | omega | exact ⟨_, rfl, rfl⟩ | exact fun _ => ⟨_, rfl, rfl⟩ | (intro h; simp only [cells_mk, List.getElem?_map, hx, len_cells, take_cells, take_cellsC, hw1, h, true_and]; omega) | (clear hK; intro h; simp_all <;> omega), hK _ _ _ ?_⟩); clear hK K) | refine VC.draw mixP (by rfl) (by rfl) ?_ | refine ⟨okd_of (by kernel_rfl), ?_⟩ | refine BQ.other (by decide) ?_ | refine VC.seq ?_ | refine AO.nil ?_ | refine VC.block ?_))
        (refine AO.step fun K hK => ?_; simp only [go_sem, Int.reduceBEq, Int.reduceLE, Int.reduceLT, Int.reduceNeg, Nat.reduceAdd, Nat.reduceEqDiff, Nat.reduceLT, Nat.reduceLeDiff, Nat.reduceMul, Nat.reduceSub, reduceCtorEq, ↓reduceIte, pureL_c]; (first | refine gsel_go ?_ | skip))
        refine .inl ⟨_, hcall, hK _ _ _ ?_⟩
        clear hK K
        refine walkGF (And.intro hw2 hw4) ?_
        refine .next ⟨(i + 1, c + tbulk5 (d + 1) x), by simp only []; omega, by simp only []; omega, by simp only []; rw [← hbt, bitems5_step hx hcc.2]⟩ ?_ (by simp only []; omega)
        simp only [cells_mk, Weak, eq_self, used_is, sc_any, sc_c, sc_pp, sc_ref, sc_row, sc_agg, sc_fn, ScL, some_imp, List.forall_mem_map, go_sem, Int.reduceBEq, Int.reduceLE, Int.reduceLT, Int.reduceNeg, Nat.reduceAdd, Nat.reduceEqDiff, Nat.reduceLT, Nat.reduceLeDiff, Nat.reduceMul, Nat.reduceSub, reduceCtorEq, ↓reduceIte]
        exact ⟨cI (by omega), cI (by omega)⟩
      · have hcc : ¬ (i < xs.length ∧ c ≤ 2500) := by
          simp at hc
          omega
        obtain rfl : V = c := hbt.symm.trans (bitems5_end hcc)
        refine walkG ?_
        refine ⟨.inr rfl, ?_⟩
        rw [Tryz.results73]
        simp only [resOk, resV, go_sem, Int.reduceBEq, Int.reduceLE, Int.reduceLT, Int.reduceNeg, Nat.reduceAdd, Nat.reduceEqDiff, Nat.reduceLT, Nat.reduceLeDiff, Nat.reduceMul, Nat.reduceSub, reduceCtorEq, ↓reduceIte]
        exact .c _
/-! A tree that is not great is small. -/
theorem bkeys5_len : ∀ (ys : List (List UInt8)) (n m : Nat), bkeys5 n ys = some m → m ≤ 2500 → n + ys.length ≤ m ∧ ∀ y ∈ ys, y.length ≤ 2500
  | [], n, m, h, hm => by rw [bkeys5] at h; obtain rfl := Option.some.inj h; exact ⟨by simp, by simp⟩
  | y :: ys, n, m, h, hm => by
    rw [bkeys5] at h
    split at h
    · split at h
      · simp at h
      · obtain ⟨h1, h2⟩ := bkeys5_len ys _ m h hm
        refine ⟨by simp; omega, fun z hz => ?_⟩
        rcases List.mem_cons.1 hz with rfl | hz
        · omega
        · exact h2 z hz
    · obtain rfl := Option.some.inj h
      omega
mutual
theorem bulk_sm5 (d : Nat) : ∀ t : JT, tbulk5 d t ≤ 2500 → t.sm 2500
  | .mk k n s ks xs => fun h => by
    rw [tbulk5] at h
    split at h
    · omega
    · rename_i h1
      split at h
      · omega
      · rename_i m hm
        have h2 := bitems5_ge d xs m
        obtain ⟨_, h3⟩ := bkeys5_len ks _ m hm (by omega)
        exact ⟨by omega, by omega, h3, by omega, bitems5_sm d m xs h⟩
theorem bitems5_sm (d n : Nat) : ∀ xs : List JT, bitems5 d n xs ≤ 2500 → JT.smL 2500 xs
  | [] => fun _ => trivial
  | x :: xs => fun h => by
    rw [bitems5] at h
    split at h
    · have := bitems5_ge d xs (n + tbulk5 (d + 1) x)
      exact ⟨bulk_sm5 (d + 1) x (by omega), bitems5_sm d _ xs h⟩
    · omega
end
end

def textsL : Nat → List (List UInt8) → Nat
  | n, [] => n
  | n, y :: ys => if n ≤ 2500 then (if 2500 < y.length then 2501 else textsL (n + y.length) ys) else n
def textsB (l : List (List UInt8)) : Nat := if 2500 < l.length then 2501 else textsL l.length l
def fieldsB : Nat → List FT → Option Nat
  | n, [] => some n
  | n, f :: fs => if n ≤ 2500 then (if 2500 < f.name.length then none else fieldsB (n + f.name.length + textsB f.aliases + tbulk5 0 f.dflt) fs) else some n
def nodesB : Nat → List NT → Nat
  | n, [] => n
  | n, x :: xs => if n ≤ 2500 then (if 2500 < x.name.length ∨ 2500 < x.fields.length ∨ 2500 < x.branches.length ∨ 2500 < x.dflt.length then 2501 else
      match fieldsB (n + x.name.length + x.fields.length + x.branches.length + x.dflt.length + textsB x.aliases + textsB x.symbols) x.fields with | none => 2501 | some m => nodesB m xs) else n
def sbulk (s : ST) : Nat := if 2500 < s.nodes.length then 2501 else nodesB s.nodes.length s.nodes
def FT.sm (N : Nat) (f : FT) : Prop := f.name.length ≤ N ∧ f.aliases.length ≤ N ∧ (∀ y ∈ f.aliases, y.length ≤ N) ∧ f.dflt.sm N
def NT.sm (N : Nat) (n : NT) : Prop := n.name.length ≤ N ∧ n.dflt.length ≤ N ∧ (n.aliases.length ≤ N ∧ ∀ y ∈ n.aliases, y.length ≤ N) ∧ (n.symbols.length ≤ N ∧ ∀ y ∈ n.symbols, y.length ≤ N) ∧ n.branches.length ≤ N ∧ (n.fields.length ≤ N ∧ ∀ f ∈ n.fields, f.sm N)
def ST.sm (N : Nat) (s : ST) : Prop := s.nodes.length ≤ N ∧ ∀ n ∈ s.nodes, n.sm N
theorem textsL_le : ∀ (l : List (List UInt8)) (n : Nat), n ≤ 5000 → textsL n l ≤ 5000
  | [], n, h => h
  | y :: ys, n, h => by
    rw [textsL]
    split
    · split
      · omega
      · exact textsL_le ys _ (by omega)
    · exact h
theorem textsL_ge : ∀ (l : List (List UInt8)) (n : Nat), n ≤ 2500 ∨ True → textsL n l ≤ 2500 → n ≤ textsL n l ∧ ∀ y ∈ l, y.length ≤ 2500
  | [], n, _, _ => ⟨Nat.le_refl _, by simp⟩
  | y :: ys, n, _, h => by
    rw [textsL] at h ⊢
    split at h
    · rename_i h1
      rw [if_pos h1]
      split at h
      · omega
      · rename_i h2
        rw [if_neg h2]
        obtain ⟨h3, h4⟩ := textsL_ge ys _ (.inr trivial) h
        refine ⟨by omega, fun z hz => ?_⟩
        rcases List.mem_cons.1 hz with rfl | hz
        · omega
        · exact h4 z hz
    · omega
theorem textsB_le (l : List (List UInt8)) : textsB l ≤ 5000 := by
  unfold textsB
  split
  · omega
  · exact textsL_le l _ (by omega)
theorem textsB_sm {l : List (List UInt8)} (h : textsB l ≤ 2500) : l.length ≤ 2500 ∧ ∀ y ∈ l, y.length ≤ 2500 := by
  unfold textsB at h
  split at h
  · omega
  · rename_i h1
    exact ⟨by omega, (textsL_ge l _ (.inr trivial) h).2⟩
theorem tbulk5_top (t : JT) : tbulk5 0 t ≤ 200000 := by
  have := tbulk5_le 0 t
  omega
theorem fieldsB_le : ∀ (l : List FT) (n m : Nat), n ≤ 300000 → fieldsB n l = some m → m ≤ 300000
  | [], n, m, h, e => by rw [fieldsB] at e; obtain rfl := Option.some.inj e; exact h
  | f :: fs, n, m, h, e => by
    rw [fieldsB] at e
    have h1 := textsB_le f.aliases
    have h2 := tbulk5_top f.dflt
    split at e
    · split at e
      · simp at e
      · exact fieldsB_le fs _ m (by omega) e
    · obtain rfl := Option.some.inj e; exact h
theorem fieldsB_sm : ∀ (l : List FT) (n m : Nat), fieldsB n l = some m → m ≤ 2500 → n ≤ m ∧ ∀ f ∈ l, f.sm 2500
  | [], n, m, e, h => by rw [fieldsB] at e; obtain rfl := Option.some.inj e; exact ⟨Nat.le_refl _, by simp⟩
  | f :: fs, n, m, e, h => by
    rw [fieldsB] at e
    split at e
    · split at e
      · simp at e
      · rename_i h1 h2
        obtain ⟨h3, h4⟩ := fieldsB_sm fs _ m e h
        refine ⟨by omega, fun g hg => ?_⟩
        rcases List.mem_cons.1 hg with rfl | hg
        · obtain ⟨h5, h6⟩ := textsB_sm (l := g.aliases) (by omega)
          exact ⟨by omega, h5, h6, bulk_sm5 0 _ (by omega)⟩
        · exact h4 g hg
    · obtain rfl := Option.some.inj e
      omega
theorem nodesB_sm : ∀ (l : List NT) (n : Nat), nodesB n l ≤ 2500 → n ≤ nodesB n l ∧ ∀ x ∈ l, x.sm 2500
  | [], n, h => ⟨Nat.le_refl _, by simp⟩
  | x :: xs, n, h => by
    rw [nodesB] at h ⊢
    split at h
    · rename_i h1
      rw [if_pos h1]
      split at h
      · omega
      · rename_i h2
        rw [if_neg h2]
        split at h
        · omega
        · rename_i m hm
          obtain ⟨h3, h4⟩ := nodesB_sm xs m h
          obtain ⟨h5, h6⟩ := fieldsB_sm _ _ m hm (by omega)
          refine ⟨by omega, fun y hy => ?_⟩
          rcases List.mem_cons.1 hy with rfl | hy
          · exact ⟨by omega, by omega, textsB_sm (by omega), textsB_sm (by omega), by omega, by omega, h6⟩
          · exact h4 y hy
    · omega
theorem sbulk_sm {s : ST} (h : sbulk s ≤ 2500) : s.sm 2500 := by
  unfold sbulk at h
  split at h
  · omega
  · exact ⟨by omega, (nodesB_sm _ _ h).2⟩
end Go.Proofs.YtmooihlndkgdaaaGreatDoor
