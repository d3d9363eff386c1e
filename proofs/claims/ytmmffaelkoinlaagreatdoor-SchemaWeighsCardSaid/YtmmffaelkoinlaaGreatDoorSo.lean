/- slices.Values, AppendSeq, Sort, Compact as contracts. -/
import Derived.RangeFuncNested
import Derived.RangeFuncBound
import Derived.RangeFuncCalls
import Derived.RangeFuncLeaves
import Derived.RangeFuncBox
import Derived.Shelf.Abstract
import Derived.Shelf.RegionOpen
import Derived.WalkKit
import Derived.OwnWalkIn
import Derived.TacticsInMore
import Derived.LoopNIn
import Derived.LoopIn
import Derived.Maps.AppendAt
import Derived.Sort.EveryDepth
import Derived.Test.YtmmffaelkoinlaaGreatDoorTy
import Derived.Test.YtmmffaelkoinlaaGreatDoorAt
import Derived.Test.YtmmffaelkoinlaaGreatDoorShelf
import Derived.Sort.OwnSorted
namespace Go.Proofs.YtmmffaelkoinlaaGreatDoor
open Go.RowKit Go.Shelf
attribute [local go_sem] Oper.semAt_some
set_option linter.unusedVariables false
set_option linter.unusedSimpArgs false

/-- What has come when k rounds are over. -/
def upTo {α : Type} (f : Nat → α) (k : Nat) : List α := (List.range k).map f
theorem upTo_succ {α : Type} (f : Nat → α) (k : Nat) : upTo f (k + 1) = upTo f k ++ [f k] := by simp [upTo, List.range_succ]
theorem upTo_length {α : Type} (f : Nat → α) (k : Nat) : (upTo f k).length = k := by simp [upTo]
theorem upTo_all {α : Type} [Inhabited α] (zs : List α) (d : α) : upTo (fun j => zs[j]?.getD d) zs.length = zs := by
  apply List.ext_getElem
  · simp [upTo]
  · intro i h1 h2
    simp [upTo, h2]
set_option maxRecDepth 100000 in
set_option maxHeartbeats 2000000 in
theorem values1_in (F : Fence) (n : Nat) (h7 : F.fn 162) (hro : F.round = none) (hn : 1 ≤ n) (l Bs o n₀ b off len cap : Nat) (zs : List (List UInt8)) (hreach : len * 16 ≤ 140737488351232) (hb : b < n₀) (J Jx : List (List UInt8) → World → Prop)
    (hY : ∀ pre x W, J pre W → pre.length < len → YieldAt F (n - 1) Tryz.prog l #[.string (str x)] W fun e W' =>
      (e = .returned (.bool true) ∧ J (pre ++ [x]) W' ∧ Below n₀ W W') ∨ (e = .returned (.bool false) ∧ Jx (pre ++ [x]) W'))
    (W : World) (hBs : W.cell? ⟨Bs, o, none⟩ = some (.slice (some ⟨b, off, none⟩) len cap)) (hc : ∀ j, j < len → W.cell? ⟨b, off + j, none⟩ = some (.string (str (zs[j]?.getD [])))) (h0 : J [] W) :
    CallsIn F n Tryz.prog 162 #[.func (.yield l) #[] #[], .pointer (some ⟨Bs, o, none⟩)] W fun e W' => (∃ v, e = .returned v) ∧
      ((∃ ys, ys = upTo (fun j => zs[j]?.getD []) len ∧ J ys W') ∨ (∃ pre, (∃ k, k ≤ len ∧ pre = upTo (fun j => zs[j]?.getD []) k) ∧ Jx pre W')) := by
  refine callsIn_of_wp Tryz.func162 rfl h7 ?_ hro
  simp only [Tryz.ntmps162, List.size_toArray, List.length_cons, List.length_nil, Nat.reduceAdd, Nat.reduceSub, Array.replicate_succ, Array.replicate_zero, List.push_toArray, List.append_toArray, List.nil_append, List.cons_append]
  gi_wp2
  gi_loopw [7] (fun i wr => ∃ k : Nat, k ≤ len ∧ i = .int .i64 k ∧ J (upTo (fun j => zs[j]?.getD []) k) wr ∧ Below n₀ W wr)
    (fun i _ => len - (intOf i).toNat)
  case atStart => exact ⟨0, Nat.zero_le _, rfl, h0, Below.refl _ _⟩
  case round =>
    obtain ⟨k, hk, rfl, hJs, hnx⟩ := hrel
    have hcx : k < len → wr.cell? ⟨b, off + k, none⟩ = some (.string (str (zs[k]?.getD []))) := fun h => (hnx.cell (p := ⟨b, off + k, none⟩) hb).trans (hc k h)
    by_cases hlt : k < len
    · obtain ⟨fn, tmps, assign, body, hy, hR⟩ := hY _ (zs[k]?.getD []) wr hJs (by rw [upTo_length]; exact hlt)
      have hcx' := hcx hlt
      gi_wp2
      refine hR.mono ?_
      rintro e W3 (⟨rfl, hJ3, hk3⟩ | ⟨rfl, hJx3⟩)
      · gi_wp2
        go_roundw
        case rel => exact ⟨k + 1, by omega, by simp, by rw [upTo_succ]; exact hJ3, hnx.trans hk3⟩
        case measure => simp [intOf]; omega
      · gi_wp2
        refine bodyPost_ret (results_none rfl _ _ _) rfl ?_
        exact ⟨⟨_, rfl⟩, .inr ⟨_, ⟨k + 1, by omega, (upTo_succ _ _).symm⟩, hJx3⟩⟩
    · obtain rfl : k = len := by omega
      gi_wp2
      go_end0
      exact ⟨⟨_, rfl⟩, .inl ⟨_, rfl, hJs⟩⟩

set_option maxRecDepth 100000 in
set_option maxHeartbeats 1000000 in
theorem values1_nil_in (F : Fence) (n : Nat) (h7 : F.fn 162) (hro : F.round = none) (l Bs o : Nat) (J : List (List UInt8) → World → Prop) (W : World) (a : Option Addr) (c : Nat) (hBs : W.cell? ⟨Bs, o, none⟩ = some (.slice a 0 c)) (h0 : J [] W) :
    CallsIn F n Tryz.prog 162 #[.func (.yield l) #[] #[], .pointer (some ⟨Bs, o, none⟩)] W fun e W' => (∃ v, e = .returned v) ∧ J [] W' := by
  refine callsIn_of_wp Tryz.func162 rfl h7 ?_ hro
  simp only [Tryz.ntmps162, List.size_toArray, List.length_cons, List.length_nil, Nat.reduceAdd, Nat.reduceSub, Array.replicate_succ, Array.replicate_zero, List.push_toArray, List.append_toArray, List.nil_append, List.cons_append]
  gi_wp2
  gi_loopw [7] (fun i wr => i = .int .i64 0 ∧ J [] wr) (fun _ _ => 0)
  case atStart => exact ⟨rfl, h0⟩
  case round =>
    obtain ⟨rfl, hJs⟩ := hrel
    gi_wp2
    go_end0
    exact ⟨⟨_, rfl⟩, hJs⟩
theorem upTo_take (zs : List (List UInt8)) {k : Nat} (hk : k ≤ zs.length) : upTo (fun j => zs[j]?.getD []) k = zs.take k := by
  apply List.ext_getElem
  · simp [upTo, hk]
  · intro i h1 h2
    have : i < zs.length := by simp [upTo] at h1; omega
    simp [upTo, this]
/-- The slice value sv holds the texts zs, in a block below n₀. -/
def Strs (n₀ : Nat) (W : World) (sv : Value) (zs : List (List UInt8)) : Prop :=
  ∃ a cap, sv = .slice a zs.length cap ∧ (zs ≠ [] → ∃ b off, a = some ⟨b, off, none⟩ ∧ b < n₀ ∧ ∀ j, j < zs.length → W.cell? ⟨b, off + j, none⟩ = some (.string (str (zs[j]?.getD []))))
theorem Strs.below {n₀ : Nat} {A B : World} (h : Below n₀ A B) {sv : Value} {zs : List (List UInt8)} : Strs n₀ A sv zs → Strs n₀ B sv zs
  | ⟨a, cap, e, hc⟩ => ⟨a, cap, e, fun hn => by
    obtain ⟨b, off, h1, h2, h3⟩ := hc hn
    exact ⟨b, off, h1, h2, fun j hj => (h.cell (p := ⟨b, off + j, none⟩) h2).trans (h3 j hj)⟩⟩
theorem values_stops (F : Fence) (n : Nat) (h7 : F.fn 162) (hro : F.round = none) (hn : 1 ≤ n) (Bs o n₀ : Nat) (sv : Value) (zs : List (List UInt8)) (hreach : zs.length * 16 ≤ 140737488351232) (w : World) (hBs : Bs < w.heap.size) (hn₀ : n₀ ≤ w.heap.size)
    (hc : w.cell? ⟨Bs, o, none⟩ = some sv) (hI : Strs n₀ w sv zs) :
    SeqStopsK F n Tryz.prog 162 #[.pointer (some ⟨Bs, o, none⟩)] (fun x : List UInt8 => #[Value.string (str x)]) (Below n₀) (fun ys => ys = zs) (fun pre => pre <+: zs) zs.length w := fun l J Jx W hW _ _ hY h0 => by
  have hc' := (hW.cell (p := ⟨Bs, o, none⟩) hBs).trans hc
  obtain ⟨a, cap, rfl, hcs⟩ := hI.below (hW.mono hn₀)
  by_cases hz : zs = []
  · subst hz
    exact (values1_nil_in F n h7 hro l Bs o J W a cap hc' h0).mono fun e W' ⟨he, hj⟩ => ⟨he, .inl ⟨_, rfl, hj⟩⟩
  · obtain ⟨b, off, rfl, hb, hcs⟩ := hcs hz
    refine (values1_in F n h7 hro hn l Bs o n₀ b off zs.length cap zs hreach hb J Jx hY W hc' hcs h0).mono ?_
    rintro e W' ⟨he, ⟨ys, rfl, hj⟩ | ⟨pre, ⟨k, hk, rfl⟩, hj⟩⟩
    · exact ⟨he, .inl ⟨_, upTo_all zs _, hj⟩⟩
    · exact ⟨he, .inr ⟨_, by rw [upTo_take zs hk]; exact List.take_prefix _ _, hj⟩⟩
def sV (s : List UInt8) : Value := .string (str s)
theorem sinfo : (Tryz.prog.info? 9).map (fun i => (i.zero, i.size, i.bytes)) = some (some (.string ⟨#[]⟩), 1, 16) := by kernel_rfl
set_option maxRecDepth 100000 in
set_option maxHeartbeats 2000000 in
theorem appendSeq_in (F : Fence) (n : Nat) (h3 : F.fn 163) (h7 : F.fn 162) (hro : F.round = none) (hn : 3 ≤ n) (Bs o : Nat) (sv : Value) (zs : List (List UInt8)) (hlen : zs.length ≤ maxLen) (hbytes : zs.length * 16 ≤ 140737488351232) (w : World) (hBs : Bs < w.heap.size)
    (hc : w.cell? ⟨Bs, o, none⟩ = some sv) (hI : Strs w.heap.size w sv zs) :
    CallsIn F n Tryz.prog 163 #[.slice none 0 0, .func (.func 162) #[] #[.pointer (some ⟨Bs, o, none⟩)]] w fun e W' => ∃ v, e = .returned v ∧ W'.ownsRow w.heap.size 9 1 v zs.length (zs.map sV) ∧ Below w.heap.size w W' := by
  have h1 : 1 ≤ n := by omega
  obtain ⟨i0, hi, hz0, hz1, hz2⟩ := info_parts sinfo
  refine callsIn_of_wp_marks Tryz.func163 rfl h3 ?_ hro
  simp only [Tryz.ntmps163, List.size_toArray, List.length_cons, List.length_nil, Nat.reduceAdd, Nat.reduceSub, Array.replicate_succ, Array.replicate_zero, List.push_toArray, List.append_toArray, List.nil_append, List.cons_append]
  gi_wp2
  have bO := Boxed.new w 28 (.slice none 0 0)
  have hB0 : Below w.heap.size w (w.alloc (.cells #[.slice none 0 0] 28)) := (Below.refl _ w).alloc (Nat.le_refl _) _
  refine wpIn_rangeFunc_ownG hro h1 (gf := 162) (lb := #[.pointer (some ⟨Bs, o, none⟩)]) rfl h7 (enters_of Tryz.func162 (by kernel_rfl) rfl)
    (values_stops F (n - 1) h7 hro (by omega) Bs o w.heap.size sv zs hbytes _ (by simp; omega) (by simp) ((hB0.cell (p := ⟨Bs, o, none⟩) hBs).trans hc) (hI.below hB0)) belowK_t (belowK_b (by simp)) (Below.refl _ _) (fun _ => rfl)
    (fun pre W => (∃ v, Boxed W w.heap.size 28 v ∧ W.ownsRow w.heap.size 9 1 v pre.length (pre.map sV) ∧ (v = .slice none 0 0 ↔ pre = [])) ∧ Below w.heap.size w W)
    (fun _ _ _ => False)
    (OwnFrom.and (Own.from (holdsRow_own w.heap.size w.heap.size 28 9 1 (fun pre => pre.length) (fun pre => pre.map sV) (fun pre v => v = .slice none 0 0 ↔ pre = [])) _) (ownFrom_below (Nat.le_refl _) (by simp)))
    (fun _ _ _ _ _ hs _ _ => hs)
    ⟨⟨_, bO, World.ownsRow_nil _ _ _ _, by simp⟩, hB0⟩
    (fun x => { tmps := #[.slice none 0 0, .func (.func 162) #[] #[.pointer (some ⟨Bs, o, none⟩)], .pointer (some ⟨w.heap.size, 0, none⟩), undef, .slice none 0 0, .string (str x), .func (.func 162) #[] #[.pointer (some ⟨Bs, o, none⟩)], .string (str x), undef, undef, undef, undef, undef], defers := [] }) ?assign ?body ?done ?stop
  case assign =>
    intro l x W K hK
    gi_wp2
    exact hK
  case body =>
    rintro l pre x W ⟨⟨v, hv, hrow, hnil⟩, hB⟩ hlt
    have hc := hv.cell
    gi_wp2_with (gi_at_builtin; refine wpListIn_append_own _ rfl _ _ 28 rfl w.heap.size 9 i0 (.string ⟨#[]⟩) 1 16 Tryz.underlying28 hi hz0 hz1 hz2 rfl (by decide) _ _ _ rfl (hrow.alloc _) ⟨W.heap.size, 0, none⟩ 1 1 [.string (str x)] rfl rfl (cell_one_new _ _ _) (by simp [Value.oneCell']) (by omega) (by omega) (by have := hB.size; simp; omega) ?_; intro v' w1 hown' hgrow _; obtain ⟨g', cap', rfl⟩ := ownsRow_succ hown'; obtain ⟨hv1, hv2, hr2, hk2, hb2⟩ := hv.appended (by decide) hrow hB.size (Nat.le_refl _) hown' hgrow; have hc1 := hv1.cell; have hf1 := hv1.frozen)
    exact ⟨hk2.from _, hb2, ⟨_, hv2, by simpa [sV] using hr2, by simp⟩, hB.trans hb2⟩
  case done =>
    rintro D ys W hD rfl ⟨⟨v, hv, hrow, hnil⟩, hB⟩ hK
    have hc := hv.cell
    gi_wp2
    refine ⟨by simp, .inl ⟨_, _, rfl, run_takeDeferred hK, ?_⟩⟩
    exact ⟨_, results_tmp rfl _ _ _, v, rfl, ownsRow_putObj hrow _ hK rfl, hB.trans (belowK_b (w := w) (Nat.le_refl _) W D _ _ (by simp at hD; omega) hK rfl rfl)⟩
  case stop =>
    rintro D c pre W _ _ h _
    exact h.elim
/-- The plain contract. -/
theorem appendSeq_plain (Bs o : Nat) (sv : Value) (zs : List (List UInt8)) (hlen : zs.length ≤ maxLen) (hbytes : zs.length * 16 ≤ 140737488351232) (w : World) (hBs : Bs < w.heap.size)
    (hc : w.cell? ⟨Bs, o, none⟩ = some sv) (hI : Strs w.heap.size w sv zs) :
    Calls Tryz.prog 163 #[.slice none 0 0, .func (.func 162) #[] #[.pointer (some ⟨Bs, o, none⟩)]] w fun e W' => ∃ v, e = .returned v ∧ W'.ownsRow w.heap.size 9 1 v zs.length (zs.map sV) ∧ Below w.heap.size w W' :=
  calls_of_every_depth (L := [163, 162]) (n := 3) fun D => appendSeq_in _ 3 (by simp [Fence.list]) (by simp [Fence.list]) rfl (Nat.le_refl _) Bs o sv zs hlen hbytes w hBs hc hI

end Go.Proofs.YtmmffaelkoinlaaGreatDoor

namespace Go.Proofs.YtmmffaelkoinlaaGreatDoor
open Go.RowKit Go.Sort
set_option linter.unusedVariables false
set_option linter.unusedSimpArgs false

/-- Texts as a row's elements. -/
def sA (l : List (List UInt8)) : List (List AV) := l.map fun s => [AV.c (.v (.string (str s)))]
/-- A row of texts of the call's own. -/
def sB (l : List (List UInt8)) : Blkd := ⟨true, 9, 1, sA l⟩
theorem sA_len (l : List (List UInt8)) : (sA l).length = l.length := by simp [sA]
theorem sA_ren (ρ : Nat → Nat) (l : List (List UInt8)) : (sA l).map (AV.renL ρ) = sA l := by
  induction l with
  | nil => rfl
  | cons x l ih => show AV.renL ρ _ :: (sA l).map _ = _; rw [ih]; rfl
theorem sA_sc {used : Nat → Prop} {h : Nat → Option Blkd} (l : List (List UInt8)) : (∀ e ∈ sA l, ∀ x ∈ e, Sc used h x) = True := eq_true fun e he x hx => by
  obtain ⟨b, _, rfl⟩ := List.mem_map.1 he
  simp at hx
  subst hx
  exact .c
theorem sA_pv (l : List (List UInt8)) : sA l = (l.map sPV).map fun e => e.map AV.c := by simp [sA, sPV]
theorem sA_flat (l : List (List UInt8)) : (sA l).flatten = l.map fun s => AV.c (.v (.string (str s))) := by
  induction l with
  | nil => rfl
  | cons x l ih => show _ ++ (sA l).flatten = _; rw [ih]; rfl
theorem own_of_brep {W : World} {ro : Nat → Prop} {φ : Nat → Value} {h : Nat → Option Blkd} {j : Nat} {l : List (List UInt8)} (hB : BRep W ro φ h j (sB l)) : W.ownsRow 0 9 1 (φ j) l.length (l.map sV) := by
  obtain ⟨h1, h2, vs, h3, h4⟩ := hB
  rw [if_pos (show (sB l).row = true from rfl)] at h4
  have hvs : vs = l.map sV := by
    have h5 : RepL W ro φ h (l.map fun s => AV.c (.v (.string (str s)))) vs := by rw [← sA_flat]; exact h3
    apply List.ext_getElem?
    intro k
    by_cases hk : k < l.length
    · have hkv : k < vs.length := by rw [h5.1]; simpa using hk
      have := h5.2 k _ _ (by rw [List.getElem?_map, List.getElem?_eq_getElem hk]; rfl) (List.getElem?_eq_getElem hkv)
      rw [List.getElem?_eq_getElem hkv, rep_prim this, List.getElem?_map, List.getElem?_eq_getElem hk]
      rfl
    · rw [List.getElem?_eq_none (by rw [h5.1]; simpa using hk), List.getElem?_eq_none (by simpa using hk)]
  subst hvs
  have : (sB l).len = l.length := sA_len l
  rw [this] at h4
  exact h4
theorem brep_of_own {W : World} {ro : Nat → Prop} {φ : Nat → Value} {h : Nat → Option Blkd} {j : Nat} {l : List (List UInt8)} (ho : W.ownsRow 0 9 1 (φ j) l.length (l.map sV)) : BRep W ro φ h j (sB l) := by
  refine ⟨fun i e he => ?_, fun e he x hx => ?_, l.map sV, ?_, ?_⟩
  · obtain ⟨s, _, rfl⟩ := List.mem_map.1 (List.mem_of_getElem? he)
    rfl
  · obtain ⟨s, _, rfl⟩ := List.mem_map.1 he
    simp at hx
    subst hx
    rfl
  · show RepL W ro φ h (sA l).flatten _
    rw [sA_flat]
    refine ⟨by simp, fun k x v hx hv => ?_⟩
    rw [List.getElem?_map] at hx hv
    obtain ⟨s, h1, rfl⟩ := Option.map_eq_some_iff.1 hx
    rw [h1] at hv
    obtain rfl := Option.some.inj hv
    exact .c (.v rfl)
  · rw [if_pos (show (sB l).row = true from rfl)]
    have : (sB l).len = l.length := sA_len l
    rw [this]
    exact ho
theorem hok_one {W : World} {ro : Nat → Prop} {φ : Nat → Value} {B : Blkd} (hB : BRep W ro φ (LentL [some B]) 1000000 B) (ho : ∀ b, blkOf (φ 1000000) = some b → ¬ ro b) : HOk W ro φ (LentL [some B]) := by
  have key : ∀ j B1, LentL [some B] j = some B1 → j = 1000000 ∧ B1 = B := by
    intro j B1 hj
    obtain ⟨h1, h2⟩ := lentL_some hj
    have h3 := (List.getElem?_eq_some_iff.1 h2).1
    simp at h3
    obtain rfl : j = 1000000 := by omega
    simp at h2
    exact ⟨rfl, h2.symm⟩
  refine ⟨fun j B1 hj => ?_, fun j k B1 B2 b hj hk hne => ?_, fun j B1 b hj hb => ?_⟩
  · obtain ⟨rfl, rfl⟩ := key j B1 hj
    exact hB
  · exact absurd ((key j B1 hj).1.trans (key k B2 hk).1.symm) hne
  · obtain ⟨rfl, rfl⟩ := key j B1 hj
    exact ho b hb
theorem row_arg {W : World} {ro : Nat → Prop} {φ : Nat → Value} {B : Blkd} {vs : List Value} {n : Nat} (hn : B.len = n) (hl : RepL W ro φ (LentL ([B].map some)) [.row 1000000 n] vs) : vs = [φ 1000000] := by
  obtain ⟨h1, h2⟩ := hl
  match vs, h1, h2 with
  | [v], _, h2 =>
    have := h2 0 _ v rfl rfl
    cases this with
    | row _ hv => rw [hv B (by simp [LentL]) hn]
def srt (l : List (List UInt8)) : List (List UInt8) := l.mergeSort fun x y => decide (x ≤ y)
theorem srt_len (l : List (List UInt8)) : (srt l).length = l.length := by simp [srt]
theorem appendSeq_told (l : List (List UInt8)) (hl : l.length ≤ 4294967296) :
    ToldM Tryz.prog 163 [.c (.v (.slice none 0 0)), .fn (.func 162) [] [.pp [.sl 1 (l.map sPV)]]] [] [some (sB l)] (.row 1000000 l.length) := by
  refine ⟨ent_163, trivial, ⟨?_, ?_⟩, fun W ro φ vs hro hgk hal hok => ?_⟩
  · exact .row ⟨by omega, by simp⟩ fun B hB => by simp [LentL] at hB; subst hB; exact Nat.le_of_eq (sA_len l).symm
  · intro b hb B hB e he
    simp at hb
    subst hb
    obtain rfl := Option.some.inj hB
    exact fun x hx => (of_eq_true (sA_sc l)) e he x hx
  · obtain ⟨h1, h2⟩ := hal
    match vs, h1, h2 with
    | [v0, v1], _, h2 =>
      have e0 := rep_prim (h2 0 _ v0 rfl rfl)
      have e1 := h2 1 _ v1 rfl rfl
      subst e0
      cases e1 with
      | @fn _ _ _ us us' q1 q2 q3 q4 =>
        obtain rfl : us = [] := List.eq_nil_of_length_eq_zero q1
        match us', q3, q4 with
        | [p], _, q4 =>
          have e2 := q4 0 _ p rfl rfl
          cases e2 with
          | @pp _ b off vs hb hc hp =>
            match vs, hp with
            | [sv], hp =>
              have hsv := hp.2 0 _ sv rfl rfl
              have hcell : W.cell? ⟨b, off, none⟩ = some sv := by have := hc 0 (by simp); simpa using this
              have hS : Strs W.heap.size W sv l := by
                cases hsv with
                | @sl _ _ a c vss hn hcc hnil ha hll hz hz' hx =>
                  refine ⟨a, c, by simp, fun hne => ?_⟩
                  obtain ⟨b', off', rfl, hb', hcs⟩ := ha (by simpa using hne)
                  refine ⟨b', off', rfl, hro b' hb', fun j hj => ?_⟩
                  have hjv : j < vss.length := by rw [hll]; simpa using hj
                  have hvj := List.getElem?_eq_getElem hjv
                  have hlen := hz' j _ hvj
                  have hx1 := hx j 0 (sPV l[j]) vss[j] (.v (.string (str l[j]))) (vss[j]'hjv)[0] (by rw [List.getElem?_map, List.getElem?_eq_getElem hj]; rfl) hvj rfl (List.getElem?_eq_getElem _)
                  have hcc := hcs j _ hvj 0 (by omega)
                  rw [List.getElem?_eq_getElem (by omega)] at hcc
                  have hxe := rep_prim (h := h0) (φ := φ0) (.c hx1)
                  rw [Nat.mul_one, Nat.add_zero] at hcc
                  rw [hcc, hxe, List.getElem?_eq_getElem hj]
                  rfl
              refine (appendSeq_plain b off sv l (by unfold maxLen; omega) (by omega) W (hro b hb) hcell hS).mono ?_
              rintro e W' ⟨v, rfl, hown, hbel⟩
              have hlt := World.ownsRow.lt hown
              refine ⟨v, ro, fun _ => v, rfl, ⟨hbel.os, hbel.tape, hbel.output, hbel.size, fun k hk _ => hbel.block k hk⟩, fun b h => h, fun b h => ⟨.inl h, Nat.lt_of_lt_of_le (hro b h) hbel.size⟩, ?_, ?_, ?_, ?_⟩
              · exact .row (by rcases hown.2 with ⟨q, _⟩ | ⟨_, _, _, q, _⟩ <;> rw [q] <;> rfl) fun B hB hn => rfl
              · refine hok_one (brep_of_own ?_) fun b hb' hrb => ?_
                · refine ⟨hown.1, ?_⟩
                  rcases hown.2 with h9 | ⟨g, cap, cur, h9, _, h10⟩
                  · exact .inl h9
                  · exact .inr ⟨g, cap, cur, h9, Nat.zero_le _, h10⟩
                · have := (hlt b (by rw [← own_blk hown]; exact hb')).1
                  have := hro b hrb
                  omega
              · intro j B' hj; exact absurd hj.2 (by have := hj.1; simp; omega)
              · intro j B b hj hb'
                exact .inl (hlt b (by rw [← own_blk hown]; exact hb')).1
theorem sort_told (l : List (List UInt8)) (hl : l.length ≤ 4294967296) : ToldM Tryz.prog 161 [.row 1000000 l.length] [sB l] [some (sB (srt l))] (.tup []) := by
  refine ⟨ent_161, ⟨rfl, trivial⟩, ⟨.tup (by simp), ?_⟩, fun W ro φ vs hro hgk hal hok => ?_⟩
  · intro b hb B hB e he
    simp at hb
    subst hb
    obtain rfl := Option.some.inj hB
    exact fun x hx => (of_eq_true (sA_sc (srt l))) e he x hx
  · obtain rfl := row_arg (B := sB l) (sA_len l) hal
    have hlen : LentL ([sB l].map some) 1000000 = some (sB l) := by simp [LentL]
    have hown := own_of_brep (hok.hp 1000000 _ hlen)
    have fin : ∀ W', W.grownBy W' (φ 1000000).ownBlock → W'.ownsRow 0 9 1 (φ 1000000) (srt l).length ((srt l).map sV) →
        ∃ v ro' φ', Ending.returned (.tuple #[]) = .returned v ∧ Keeps (fun b => ∃ j B, LentL ([sB l].map some) j = some B ∧ blkOf (φ j) = some b) W W' ∧ (∀ b, ro b → ro' b) ∧
          (∀ b, ro' b → (ro b ∨ W.heap.size ≤ b ∨ ∃ j B, LentL ([sB l].map some) j = some B ∧ blkOf (φ j) = some b) ∧ b < W'.heap.size) ∧ Rep W' ro' φ' (LentL [some (sB (srt l))]) (.tup []) v ∧ HOk W' ro' φ' (LentL [some (sB (srt l))]) ∧
          Goes (inL [sB l].length) φ φ' (LentL ([sB l].map some)) (LentL [some (sB (srt l))]) ∧ (∀ j B b, LentL [some (sB (srt l))] j = some B → blkOf (φ' j) = some b → W.heap.size ≤ b ∨ ∃ j B, LentL ([sB l].map some) j = some B ∧ blkOf (φ j) = some b) := by
      intro W' hg ho
      refine ⟨_, ro, φ, rfl, ⟨hg.os, hg.tape, hg.output, hg.size, fun k hk hm => hg.block k hk fun e => hm ⟨1000000, _, hlen, by rw [own_blk hown, e]⟩⟩, fun b h => h, fun b h => ⟨.inl h, Nat.lt_of_lt_of_le (hro b h) hg.size⟩, .tup (vs := []) rfl (by simp), hok_one (brep_of_own ho) fun b hb => hok.own 1000000 _ b hlen hb, ?_, ?_⟩
      · intro j B' hj hB'
        obtain rfl : j = 1000000 := by have := hj.1; have := hj.2; simp at this; omega
        simp [LentL] at hB'
        subst hB'
        exact ⟨_, hlen, .inr ⟨by show (sA l).length = (sA (srt l)).length; rw [sA_len, sA_len, srt_len], rfl, rfl⟩⟩
      · intro j B b hj hb
        obtain ⟨h1, h2⟩ := lentL_some hj
        have h3 := (List.getElem?_eq_some_iff.1 h2).1
        simp at h3
        obtain rfl : j = 1000000 := by omega
        exact .inr ⟨1000000, _, hlen, hb⟩
    rcases hown.2 with ⟨h1, h2⟩ | ⟨g, cap, cur, h1, _, h2, h3, h4, h5, h6⟩
    · obtain rfl : l = [] := List.eq_nil_of_length_eq_zero h2
      rw [h1]
      refine (Tryz.slices_Sort_string_none none 0 W).mono ?_
      rintro e W' ⟨rfl, rfl⟩
      exact fin W' ⟨rfl, rfl, rfl, Nat.le_refl _, fun _ _ _ => rfl⟩ (by rw [show srt [] = [] from by simp [srt]]; exact hown)
    · have hH : Holds encStr W g 0 l.toArray := holds_of_block h2 (by rw [← Nat.mul_one l.length]; exact h6)
      rw [h1]
      refine (Tryz.slices_Sort_string g 0 cap l W hH (Array.getElem?_eq_some_iff.1 h2).1 (by omega)).mono ?_
      rintro e W' ⟨rfl, n, os, rfl⟩
      refine fin _ ?_ ?_
      · rw [h1]; exact grownBy_sorted _
      · rw [h1]
        have := ownsRow_sorted (n := n) (os := os) (ts := srt l) (srt_len l) (Nat.zero_le g) h2 h3 h4 h5
        rw [srt_len]
        exact this

theorem lentL_gone (j : Nat) : LentL [none] j = none := by
  unfold LentL
  split
  · cases h : j - 1000000 with
    | zero => rfl
    | succ k => rfl
  · rfl
theorem compact_len (l : List (List UInt8)) : (Lib.compact l).length ≤ l.length := by
  unfold Lib.compact Lib.compactUpTo
  rw [List.length_map]
  exact Nat.le_trans (List.length_filter_le _ _) (by simp)
theorem compact_told (l : List (List UInt8)) (hl : l.length ≤ 4294967296) : ToldM Tryz.prog 155 [.row 1000000 l.length] [sB l] [none] (.c (.sl 1 ((Lib.compact l).map sPV))) := by
  refine ⟨ent_155, trivial, ⟨.c, fun b hb B hB => by simp at hb; subst hb; simp at hB⟩, fun W ro φ vs hro hgk hal hok => ?_⟩
  obtain rfl := row_arg (B := sB l) (sA_len l) hal
  have hlen : LentL ([sB l].map some) 1000000 = some (sB l) := by simp [LentL]
  have hown := own_of_brep (hok.hp 1000000 _ hlen)
  have hbl : ∀ b, blkOf (φ 1000000) = some b → b < W.heap.size := fun b hb => (World.ownsRow.lt hown b (by rw [← own_blk hown]; exact hb)).2
  have fin : ∀ (W' : World) (u : Value), W.grownBy W' (φ 1000000).ownBlock → PRep W' (fun b => ro b ∨ blkOf (φ 1000000) = some b) (.sl 1 ((Lib.compact l).map sPV)) u →
      ∃ v ro' φ', Ending.returned u = .returned v ∧ Keeps (fun b => ∃ j B, LentL ([sB l].map some) j = some B ∧ blkOf (φ j) = some b) W W' ∧ (∀ b, ro b → ro' b) ∧
        (∀ b, ro' b → (ro b ∨ W.heap.size ≤ b ∨ ∃ j B, LentL ([sB l].map some) j = some B ∧ blkOf (φ j) = some b) ∧ b < W'.heap.size) ∧ Rep W' ro' φ' (LentL [none]) (.c (.sl 1 ((Lib.compact l).map sPV))) v ∧ HOk W' ro' φ' (LentL [none]) ∧
        Goes (inL [sB l].length) φ φ' (LentL ([sB l].map some)) (LentL [none]) ∧ (∀ j B b, LentL [none] j = some B → blkOf (φ' j) = some b → W.heap.size ≤ b ∨ ∃ j B, LentL ([sB l].map some) j = some B ∧ blkOf (φ j) = some b) := by
    intro W' u hg hu
    refine ⟨u, _, φ, rfl, ⟨hg.os, hg.tape, hg.output, hg.size, fun k hk hm => hg.block k hk fun e => hm ⟨1000000, _, hlen, by rw [own_blk hown, e]⟩⟩, fun b h => .inl h, fun b h => ?_, .c hu, ⟨fun j B hj => ?_, fun j k B B' b hj => ?_, fun j B b hj => ?_⟩, fun j B hj hB => ?_, fun j B b hj => ?_⟩
    · rcases h with h | h
      · exact ⟨.inl h, Nat.lt_of_lt_of_le (hro b h) hg.size⟩
      · exact ⟨.inr (.inr ⟨1000000, _, hlen, h⟩), Nat.lt_of_lt_of_le (hbl b h) hg.size⟩
    all_goals first | (rw [lentL_gone] at hj; simp at hj) | (rw [lentL_gone] at hB; simp at hB)
  rcases hown.2 with ⟨h1, h2⟩ | ⟨g, cap, cur, h1, _, h2, h3, h4, h5, h6⟩
  · obtain rfl : l = [] := List.eq_nil_of_length_eq_zero h2
    rw [h1]
    refine (Tryz.slices_Compact_string_empty none 0 W).mono ?_
    rintro e W' ⟨rfl, rfl⟩
    exact fin W' _ ⟨rfl, rfl, rfl, Nat.le_refl _, fun _ _ _ => rfl⟩ (PRep.nil _ _ _)
  · have hH : Holds encStr W g 0 l.toArray := holds_of_block h2 (by rw [← Nat.mul_one l.length]; exact h6)
    rw [h1]
    refine (Tryz.slices_Compact_string g 0 cap l W hH (by omega) h3).mono ?_
    rintro e W' ⟨rfl, q, rfl⟩
    obtain ⟨ts, hts⟩ : ∃ ts, ts = Lib.compact l ++ List.replicate (l.length - (Lib.compact l).length) [] := ⟨_, rfl⟩
    have hcl := compact_len l
    have htl : ts.length = l.length := by rw [hts]; simp; omega
    rw [← hts]
    have hg := grownBy_sorted (w := W) (g := g) (n := q) (os := #[]) ts.toArray
    have ho := ownsRow_sorted (n := q) (os := #[]) (ts := ts) htl (Nat.zero_le g) h2 h3 h4 h5
    rw [grow_empty] at hg ho
    refine fin _ _ (by rw [h1]; exact hg) ?_
    rcases ho.2 with ⟨h7, _⟩ | ⟨g', cap', cur', h7, _, h8, h9, h10, h11, h12⟩
    · simp at h7
    · obtain ⟨rfl, rfl⟩ : g = g' ∧ cap = cap' := by simpa using h7
      have hm : ((Lib.compact l).map sPV).length = (Lib.compact l).length := by simp
      rw [← hm]
      refine .sl (vss := (Lib.compact l).map fun s => [sV s]) (by rw [hm]; omega) (by unfold maxLen at h4; omega) (fun h => by simp at h) (fun hne => ⟨g, 0, rfl, .inr (by rw [h1]; rfl), fun i vs hi => ?_⟩) (by simp) (fun i e he => ?_) (fun i vs hi => ?_) (fun i j e vs p v he hvs hp hv => ?_)
      · rw [List.getElem?_map] at hi
        obtain ⟨s, h13, rfl⟩ := Option.map_eq_some_iff.1 hi
        intro j hj
        obtain rfl : j = 0 := by simpa using hj
        have h14 : (cur'.toList.take (l.length * 1))[i]? = some (sV s) := by
          rw [h12, List.getElem?_map, hts, List.getElem?_append_left (List.getElem?_eq_some_iff.1 h13).1, h13]; rfl
        have hi2 : i < l.length := by have := (List.getElem?_eq_some_iff.1 h13).1; omega
        rw [List.getElem?_take_of_lt (by omega)] at h14
        have := cells_of_take h8 (l.length * 1) i (by rw [List.length_take]; simp; omega)
        rw [Nat.zero_add, List.getElem?_take_of_lt (by omega), h14] at this
        simpa using this
      · obtain ⟨s, _, rfl⟩ := List.mem_map.1 (List.mem_of_getElem? he); rfl
      · obtain ⟨s, _, rfl⟩ := List.mem_map.1 (List.mem_of_getElem? hi); rfl
      · rw [List.getElem?_map] at he hvs
        obtain ⟨s, h13, rfl⟩ := Option.map_eq_some_iff.1 he
        rw [h13] at hvs
        obtain rfl := Option.some.inj hvs
        match j, hp, hv with
        | 0, hp, hv =>
          obtain rfl := Option.some.inj hp
          obtain rfl := Option.some.inj hv
          exact .v rfl

end Go.Proofs.YtmmffaelkoinlaaGreatDoor
