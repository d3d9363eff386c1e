/- Texts that lead to the law DecodeBack, joined. -/
import Derived.RangeFuncNested
import Derived.RangeFuncBound
import Derived.RangeFuncCalls
import Derived.RangeFuncLeaves
import Derived.RangeFuncBox
import Derived.Shelf.Abstract
import Derived.Shelf.RegionOpen
import Derived.WalkKit
import Derived.OwnWalkIn
import Derived.TacticsInMore
import Derived.LoopNIn
import Derived.LoopIn
import Derived.Maps.AppendAt
import Derived.Sort.EveryDepth
import Derived.Test.YtllnlmchjljhlaaGreatDoorPkDecodeBackXTy
import Derived.Test.YtllnlmchjljhlaaGreatDoorPkDecodeBackA
import Derived.Test.YtllnlmchjljhlaaGreatDoorPkDecodeBackXShelf
import Derived.Sort.OwnSorted
import Derived.Test.YtllnlmchjljhlaaGreatDoorPkDecodeBackB
import Derived.Test.YtllnlmchjljhlaaGreatDoorPkDecodeBackD
namespace Go.Proofs.YtllnlmchjljhlaaGreatDoor
open Go.RowKit
set_option linter.unusedVariables false
set_option linter.unusedSimpArgs false
section
open Go.RowKit Go.Shelf
attribute [local go_sem] Oper.semAt_some
def upTo {α : Type} (f : Nat → α) (k : Nat) : List α := (List.range k).map f
theorem upTo_succ {α : Type} (f : Nat → α) (k : Nat) : upTo f (k + 1) = upTo f k ++ [f k] := by simp [upTo, List.range_succ]
theorem upTo_length {α : Type} (f : Nat → α) (k : Nat) : (upTo f k).length = k := by simp [upTo]
theorem upTo_all {α : Type} [Inhabited α] (zs : List α) (d : α) : upTo (fun j => zs[j]?.getD d) zs.length = zs := by
  apply List.ext_getElem
  · simp [upTo]
  · intro i h1 h2
    simp [upTo, h2]
set_option maxRecDepth 100000 in
set_option maxHeartbeats 2000000 in
theorem values1_in (F : Fence) (n : Nat) (h7 : F.fn 258) (hro : F.round = none) (hn : 1 ≤ n) (l Bs o n₀ b off len cap : Nat) (zs : List (List UInt8)) (hreach : len * 16 ≤ 140737488351232) (hb : b < n₀) (J Jx : List (List UInt8) → World → Prop)
    (hY : ∀ pre x W, J pre W → pre.length < len → YieldAt F (n - 1) Tryz.prog l #[.string (str x)] W fun e W' =>
      (e = .returned (.bool true) ∧ J (pre ++ [x]) W' ∧ Below n₀ W W') ∨ (e = .returned (.bool false) ∧ Jx (pre ++ [x]) W'))
    (W : World) (hBs : W.cell? ⟨Bs, o, none⟩ = some (.slice (some ⟨b, off, none⟩) len cap)) (hc : ∀ j, j < len → W.cell? ⟨b, off + j, none⟩ = some (.string (str (zs[j]?.getD [])))) (h0 : J [] W) :
    CallsIn F n Tryz.prog 258 #[.func (.yield l) #[] #[], .pointer (some ⟨Bs, o, none⟩)] W fun e W' => (∃ v, e = .returned v) ∧
      ((∃ ys, ys = upTo (fun j => zs[j]?.getD []) len ∧ J ys W') ∨ (∃ pre, (∃ k, k ≤ len ∧ pre = upTo (fun j => zs[j]?.getD []) k) ∧ Jx pre W')) := by
  refine callsIn_of_wp Tryz.func258 rfl h7 ?_ hro
  simp only [Tryz.ntmps258, List.size_toArray, List.length_cons, List.length_nil, Nat.reduceAdd, Nat.reduceSub, Array.replicate_succ, Array.replicate_zero, List.push_toArray, List.append_toArray, List.nil_append, List.cons_append]
  gi_wp2
  gi_loopw [7] (fun i wr => ∃ k : Nat, k ≤ len ∧ i = .int .i64 k ∧ J (upTo (fun j => zs[j]?.getD []) k) wr ∧ Below n₀ W wr)
    (fun i _ => len - (intOf i).toNat)
  case atStart => exact ⟨0, Nat.zero_le _, rfl, h0, Below.refl _ _⟩
  case round =>
    obtain ⟨k, hk, rfl, hJs, hnx⟩ := hrel
    have hcx : k < len → wr.cell? ⟨b, off + k, none⟩ = some (.string (str (zs[k]?.getD []))) := fun h => (hnx.cell (p := ⟨b, off + k, none⟩) hb).trans (hc k h)
    by_cases hlt : k < len
    · obtain ⟨fn, tmps, assign, body, hy, hR⟩ := hY _ (zs[k]?.getD []) wr hJs (by rw [upTo_length]; exact hlt)
      have hcx' := hcx hlt
      gi_wp2
      refine hR.mono ?_
      rintro e W3 (⟨rfl, hJ3, hk3⟩ | ⟨rfl, hJx3⟩)
      · gi_wp2
        go_roundw
        case rel => exact ⟨k + 1, by omega, by simp, by rw [upTo_succ]; exact hJ3, hnx.trans hk3⟩
        case measure => simp [intOf]; omega
      · gi_wp2
        refine bodyPost_ret (results_none rfl _ _ _) rfl ?_
        exact ⟨⟨_, rfl⟩, .inr ⟨_, ⟨k + 1, by omega, (upTo_succ _ _).symm⟩, hJx3⟩⟩
    · obtain rfl : k = len := by omega
      gi_wp2
      go_end0
      exact ⟨⟨_, rfl⟩, .inl ⟨_, rfl, hJs⟩⟩
set_option maxRecDepth 100000 in
set_option maxHeartbeats 1000000 in
theorem values1_nil_in (F : Fence) (n : Nat) (h7 : F.fn 258) (hro : F.round = none) (l Bs o : Nat) (J : List (List UInt8) → World → Prop) (W : World) (a : Option Addr) (c : Nat) (hBs : W.cell? ⟨Bs, o, none⟩ = some (.slice a 0 c)) (h0 : J [] W) :
    CallsIn F n Tryz.prog 258 #[.func (.yield l) #[] #[], .pointer (some ⟨Bs, o, none⟩)] W fun e W' => (∃ v, e = .returned v) ∧ J [] W' := by
  refine callsIn_of_wp Tryz.func258 rfl h7 ?_ hro
  simp only [Tryz.ntmps258, List.size_toArray, List.length_cons, List.length_nil, Nat.reduceAdd, Nat.reduceSub, Array.replicate_succ, Array.replicate_zero, List.push_toArray, List.append_toArray, List.nil_append, List.cons_append]
  gi_wp2
  gi_loopw [7] (fun i wr => i = .int .i64 0 ∧ J [] wr) (fun _ _ => 0)
  case atStart => exact ⟨rfl, h0⟩
  case round =>
    obtain ⟨rfl, hJs⟩ := hrel
    gi_wp2
    go_end0
    exact ⟨⟨_, rfl⟩, hJs⟩
theorem upTo_take (zs : List (List UInt8)) {k : Nat} (hk : k ≤ zs.length) : upTo (fun j => zs[j]?.getD []) k = zs.take k := by
  apply List.ext_getElem
  · simp [upTo, hk]
  · intro i h1 h2
    have : i < zs.length := by simp [upTo] at h1; omega
    simp [upTo, this]
def Strs (n₀ : Nat) (W : World) (sv : Value) (zs : List (List UInt8)) : Prop :=
  ∃ a cap, sv = .slice a zs.length cap ∧ (zs ≠ [] → ∃ b off, a = some ⟨b, off, none⟩ ∧ b < n₀ ∧ ∀ j, j < zs.length → W.cell? ⟨b, off + j, none⟩ = some (.string (str (zs[j]?.getD []))))
theorem Strs.below {n₀ : Nat} {A B : World} (h : Below n₀ A B) {sv : Value} {zs : List (List UInt8)} : Strs n₀ A sv zs → Strs n₀ B sv zs
  | ⟨a, cap, e, hc⟩ => ⟨a, cap, e, fun hn => by
    obtain ⟨b, off, h1, h2, h3⟩ := hc hn
    exact ⟨b, off, h1, h2, fun j hj => (h.cell (p := ⟨b, off + j, none⟩) h2).trans (h3 j hj)⟩⟩
theorem values_stops (F : Fence) (n : Nat) (h7 : F.fn 258) (hro : F.round = none) (hn : 1 ≤ n) (Bs o n₀ : Nat) (sv : Value) (zs : List (List UInt8)) (hreach : zs.length * 16 ≤ 140737488351232) (w : World) (hBs : Bs < w.heap.size) (hn₀ : n₀ ≤ w.heap.size)
    (hc : w.cell? ⟨Bs, o, none⟩ = some sv) (hI : Strs n₀ w sv zs) :
    SeqStopsK F n Tryz.prog 258 #[.pointer (some ⟨Bs, o, none⟩)] (fun x : List UInt8 => #[Value.string (str x)]) (Below n₀) (fun ys => ys = zs) (fun pre => pre <+: zs) zs.length w := fun l J Jx W hW _ _ hY h0 => by
  have hc' := (hW.cell (p := ⟨Bs, o, none⟩) hBs).trans hc
  obtain ⟨a, cap, rfl, hcs⟩ := hI.below (hW.mono hn₀)
  by_cases hz : zs = []
  · subst hz
    exact (values1_nil_in F n h7 hro l Bs o J W a cap hc' h0).mono fun e W' ⟨he, hj⟩ => ⟨he, .inl ⟨_, rfl, hj⟩⟩
  · obtain ⟨b, off, rfl, hb, hcs⟩ := hcs hz
    refine (values1_in F n h7 hro hn l Bs o n₀ b off zs.length cap zs hreach hb J Jx hY W hc' hcs h0).mono ?_
    rintro e W' ⟨he, ⟨ys, rfl, hj⟩ | ⟨pre, ⟨k, hk, rfl⟩, hj⟩⟩
    · exact ⟨he, .inl ⟨_, upTo_all zs _, hj⟩⟩
    · exact ⟨he, .inr ⟨_, by rw [upTo_take zs hk]; exact List.take_prefix _ _, hj⟩⟩
def sV (s : List UInt8) : Value := .string (str s)
theorem sinfo : (Tryz.prog.info? 9).map (fun i => (i.zero, i.size, i.bytes)) = some (some (.string ⟨#[]⟩), 1, 16) := by kernel_rfl
set_option maxRecDepth 100000 in
set_option maxHeartbeats 2000000 in
theorem appendSeq_in (F : Fence) (n : Nat) (h3 : F.fn 276) (h7 : F.fn 258) (hro : F.round = none) (hn : 3 ≤ n) (Bs o : Nat) (sv : Value) (zs : List (List UInt8)) (hlen : zs.length ≤ maxLen) (hbytes : zs.length * 16 ≤ 140737488351232) (w : World) (hBs : Bs < w.heap.size)
    (hc : w.cell? ⟨Bs, o, none⟩ = some sv) (hI : Strs w.heap.size w sv zs) :
    CallsIn F n Tryz.prog 276 #[.slice none 0 0, .func (.func 258) #[] #[.pointer (some ⟨Bs, o, none⟩)]] w fun e W' => ∃ v, e = .returned v ∧ W'.ownsRow w.heap.size 9 1 v zs.length (zs.map sV) ∧ Below w.heap.size w W' := by
  have h1 : 1 ≤ n := by omega
  obtain ⟨i0, hi, hz0, hz1, hz2⟩ := info_parts sinfo
  refine callsIn_of_wp_marks Tryz.func276 rfl h3 ?_ hro
  simp only [Tryz.ntmps276, List.size_toArray, List.length_cons, List.length_nil, Nat.reduceAdd, Nat.reduceSub, Array.replicate_succ, Array.replicate_zero, List.push_toArray, List.append_toArray, List.nil_append, List.cons_append]
  gi_wp2
  have bO := Boxed.new w 29 (.slice none 0 0)
  have hB0 : Below w.heap.size w (w.alloc (.cells #[.slice none 0 0] 29)) := (Below.refl _ w).alloc (Nat.le_refl _) _
  refine wpIn_rangeFunc_ownG hro h1 (gf := 258) (lb := #[.pointer (some ⟨Bs, o, none⟩)]) rfl h7 (enters_of Tryz.func258 (by kernel_rfl) rfl)
    (values_stops F (n - 1) h7 hro (by omega) Bs o w.heap.size sv zs hbytes _ (by simp; omega) (by simp) ((hB0.cell (p := ⟨Bs, o, none⟩) hBs).trans hc) (hI.below hB0)) belowK_t (belowK_b (by simp)) (Below.refl _ _) (fun _ => rfl)
    (fun pre W => (∃ v, Boxed W w.heap.size 29 v ∧ W.ownsRow w.heap.size 9 1 v pre.length (pre.map sV) ∧ (v = .slice none 0 0 ↔ pre = [])) ∧ Below w.heap.size w W)
    (fun _ _ _ => False)
    (OwnFrom.and (Own.from (holdsRow_own w.heap.size w.heap.size 29 9 1 (fun pre => pre.length) (fun pre => pre.map sV) (fun pre v => v = .slice none 0 0 ↔ pre = [])) _) (ownFrom_below (Nat.le_refl _) (by simp)))
    (fun _ _ _ _ _ hs _ _ => hs)
    ⟨⟨_, bO, World.ownsRow_nil _ _ _ _, by simp⟩, hB0⟩
    (fun x => { tmps := #[.slice none 0 0, .func (.func 258) #[] #[.pointer (some ⟨Bs, o, none⟩)], .pointer (some ⟨w.heap.size, 0, none⟩), undef, .slice none 0 0, .string (str x), .func (.func 258) #[] #[.pointer (some ⟨Bs, o, none⟩)], .string (str x), undef, undef, undef, undef, undef], defers := [] }) ?assign ?body ?done ?stop
  case assign =>
    intro l x W K hK
    gi_wp2
    exact hK
  case body =>
    rintro l pre x W ⟨⟨v, hv, hrow, hnil⟩, hB⟩ hlt
    have hc := hv.cell
    gi_wp2_with (gi_at_builtin; refine wpListIn_append_own _ rfl _ _ 29 rfl w.heap.size 9 i0 (.string ⟨#[]⟩) 1 16 Tryz.underlying29 hi hz0 hz1 hz2 rfl (by decide) _ _ _ rfl (hrow.alloc _) ⟨W.heap.size, 0, none⟩ 1 1 [.string (str x)] rfl rfl (cell_one_new _ _ _) (by simp [Value.oneCell']) (by omega) (by omega) (by have := hB.size; simp; omega) ?_; intro v' w1 hown' hgrow _; obtain ⟨g', cap', rfl⟩ := ownsRow_succ hown'; obtain ⟨hv1, hv2, hr2, hk2, hb2⟩ := hv.appended (by decide) hrow hB.size (Nat.le_refl _) hown' hgrow; have hc1 := hv1.cell; have hf1 := hv1.frozen)
    exact ⟨hk2.from _, hb2, ⟨_, hv2, by simpa [sV] using hr2, by simp⟩, hB.trans hb2⟩
  case done =>
    rintro D ys W hD rfl ⟨⟨v, hv, hrow, hnil⟩, hB⟩ hK
    have hc := hv.cell
    gi_wp2
    refine ⟨by simp, .inl ⟨_, _, rfl, run_takeDeferred hK, ?_⟩⟩
    exact ⟨_, results_tmp rfl _ _ _, v, rfl, ownsRow_putObj hrow _ hK rfl, hB.trans (belowK_b (w := w) (Nat.le_refl _) W D _ _ (by simp at hD; omega) hK rfl rfl)⟩
  case stop =>
    rintro D c pre W _ _ h _
    exact h.elim
theorem appendSeq_plain (Bs o : Nat) (sv : Value) (zs : List (List UInt8)) (hlen : zs.length ≤ maxLen) (hbytes : zs.length * 16 ≤ 140737488351232) (w : World) (hBs : Bs < w.heap.size)
    (hc : w.cell? ⟨Bs, o, none⟩ = some sv) (hI : Strs w.heap.size w sv zs) :
    Calls Tryz.prog 276 #[.slice none 0 0, .func (.func 258) #[] #[.pointer (some ⟨Bs, o, none⟩)]] w fun e W' => ∃ v, e = .returned v ∧ W'.ownsRow w.heap.size 9 1 v zs.length (zs.map sV) ∧ Below w.heap.size w W' :=
  calls_of_every_depth (L := [276, 258]) (n := 3) fun D => appendSeq_in _ 3 (by simp [Fence.list]) (by simp [Fence.list]) rfl (Nat.le_refl _) Bs o sv zs hlen hbytes w hBs hc hI
end
section
open Go.RowKit Go.Sort
def sA (l : List (List UInt8)) : List (List AV) := l.map fun s => [AV.c (.v (.string (str s)))]
def sB (l : List (List UInt8)) : Blkd := ⟨true, 9, 1, sA l⟩
theorem sA_len (l : List (List UInt8)) : (sA l).length = l.length := by simp [sA]
theorem sA_ren (ρ : Nat → Nat) (l : List (List UInt8)) : (sA l).map (AV.renL ρ) = sA l := by
  induction l with
  | nil => rfl
  | cons x l ih => show AV.renL ρ _ :: (sA l).map _ = _; rw [ih]; rfl
theorem sA_sc {used : Nat → Prop} {h : Nat → Option Blkd} (l : List (List UInt8)) : (∀ e ∈ sA l, ∀ x ∈ e, Sc used h x) = True := eq_true fun e he x hx => by
  obtain ⟨b, _, rfl⟩ := List.mem_map.1 he
  simp at hx
  subst hx
  exact .c
theorem sA_flat (l : List (List UInt8)) : (sA l).flatten = l.map fun s => AV.c (.v (.string (str s))) := by
  induction l with
  | nil => rfl
  | cons x l ih => show _ ++ (sA l).flatten = _; rw [ih]; rfl
theorem own_of_brep {W : World} {ro : Nat → Prop} {φ : Nat → Value} {h : Nat → Option Blkd} {j : Nat} {l : List (List UInt8)} (hB : BRep W ro φ h j (sB l)) : W.ownsRow 0 9 1 (φ j) l.length (l.map sV) := by
  obtain ⟨h1, h2, vs, h3, h4⟩ := hB
  rw [if_pos (show (sB l).row = true from rfl)] at h4
  have hvs : vs = l.map sV := by
    have h5 : RepL W ro φ h (l.map fun s => AV.c (.v (.string (str s)))) vs := by rw [← sA_flat]; exact h3
    apply List.ext_getElem?
    intro k
    by_cases hk : k < l.length
    · have hkv : k < vs.length := by rw [h5.1]; simpa using hk
      have := h5.2 k _ _ (by rw [List.getElem?_map, List.getElem?_eq_getElem hk]; rfl) (List.getElem?_eq_getElem hkv)
      rw [List.getElem?_eq_getElem hkv, rep_prim this, List.getElem?_map, List.getElem?_eq_getElem hk]
      rfl
    · rw [List.getElem?_eq_none (by rw [h5.1]; simpa using hk), List.getElem?_eq_none (by simpa using hk)]
  subst hvs
  have : (sB l).len = l.length := sA_len l
  rw [this] at h4
  exact h4
theorem brep_of_own {W : World} {ro : Nat → Prop} {φ : Nat → Value} {h : Nat → Option Blkd} {j : Nat} {l : List (List UInt8)} (ho : W.ownsRow 0 9 1 (φ j) l.length (l.map sV)) : BRep W ro φ h j (sB l) := by
  refine ⟨fun i e he => ?_, fun e he x hx => ?_, l.map sV, ?_, ?_⟩
  · obtain ⟨s, _, rfl⟩ := List.mem_map.1 (List.mem_of_getElem? he)
    rfl
  · obtain ⟨s, _, rfl⟩ := List.mem_map.1 he
    simp at hx
    subst hx
    rfl
  · show RepL W ro φ h (sA l).flatten _
    rw [sA_flat]
    refine ⟨by simp, fun k x v hx hv => ?_⟩
    rw [List.getElem?_map] at hx hv
    obtain ⟨s, h1, rfl⟩ := Option.map_eq_some_iff.1 hx
    rw [h1] at hv
    obtain rfl := Option.some.inj hv
    exact .c (.v rfl)
  · rw [if_pos (show (sB l).row = true from rfl)]
    have : (sB l).len = l.length := sA_len l
    rw [this]
    exact ho
theorem hok_one {W : World} {ro : Nat → Prop} {φ : Nat → Value} {B : Blkd} (hB : BRep W ro φ (LentL [some B]) 1000000 B) (ho : ∀ b, blkOf (φ 1000000) = some b → ¬ ro b) : HOk W ro φ (LentL [some B]) := by
  have key : ∀ j B1, LentL [some B] j = some B1 → j = 1000000 ∧ B1 = B := by
    intro j B1 hj
    obtain ⟨h1, h2⟩ := lentL_some hj
    have h3 := (List.getElem?_eq_some_iff.1 h2).1
    simp at h3
    obtain rfl : j = 1000000 := by omega
    simp at h2
    exact ⟨rfl, h2.symm⟩
  refine ⟨fun j B1 hj => ?_, fun j k B1 B2 b hj hk hne => ?_, fun j B1 b hj hb => ?_⟩
  · obtain ⟨rfl, rfl⟩ := key j B1 hj
    exact hB
  · exact absurd ((key j B1 hj).1.trans (key k B2 hk).1.symm) hne
  · obtain ⟨rfl, rfl⟩ := key j B1 hj
    exact ho b hb
theorem row_arg {W : World} {ro : Nat → Prop} {φ : Nat → Value} {B : Blkd} {vs : List Value} {n : Nat} (hn : B.len = n) (hl : RepL W ro φ (LentL ([B].map some)) [.row 1000000 n] vs) : vs = [φ 1000000] := by
  obtain ⟨h1, h2⟩ := hl
  match vs, h1, h2 with
  | [v], _, h2 =>
    have := h2 0 _ v rfl rfl
    cases this with
    | row _ hv => rw [hv B (by simp [LentL]) hn]
def srt (l : List (List UInt8)) : List (List UInt8) := l.mergeSort fun x y => decide (x ≤ y)
theorem srt_len (l : List (List UInt8)) : (srt l).length = l.length := by simp [srt]
theorem appendSeq_told (l : List (List UInt8)) (hl : l.length ≤ 4294967296) :
    ToldM Tryz.prog 276 [.c (.v (.slice none 0 0)), .fn (.func 258) [] [.pp [.sl 1 (l.map sPV)]]] [] [some (sB l)] (.row 1000000 l.length) := by
  refine ⟨ent_276, trivial, ⟨?_, ?_⟩, fun W ro φ vs hro hgk hal hok => ?_⟩
  · exact .row ⟨by omega, by simp⟩ fun B hB => by simp [LentL] at hB; subst hB; exact Nat.le_of_eq (sA_len l).symm
  · intro b hb B hB e he
    simp at hb
    subst hb
    obtain rfl := Option.some.inj hB
    exact fun x hx => (of_eq_true (sA_sc l)) e he x hx
  · obtain ⟨h1, h2⟩ := hal
    match vs, h1, h2 with
    | [v0, v1], _, h2 =>
      have e0 := rep_prim (h2 0 _ v0 rfl rfl)
      have e1 := h2 1 _ v1 rfl rfl
      subst e0
      cases e1 with
      | @fn _ _ _ us us' q1 q2 q3 q4 =>
        obtain rfl : us = [] := List.eq_nil_of_length_eq_zero q1
        match us', q3, q4 with
        | [p], _, q4 =>
          have e2 := q4 0 _ p rfl rfl
          cases e2 with
          | @pp _ b off vs hb hc hp =>
            match vs, hp with
            | [sv], hp =>
              have hsv := hp.2 0 _ sv rfl rfl
              have hcell : W.cell? ⟨b, off, none⟩ = some sv := by have := hc 0 (by simp); simpa using this
              have hS : Strs W.heap.size W sv l := by
                cases hsv with
                | @sl _ _ a c vss hn hcc hnil ha hll hz hz' hx =>
                  refine ⟨a, c, by simp, fun hne => ?_⟩
                  obtain ⟨b', off', rfl, hb', hcs⟩ := ha (by simpa using hne)
                  refine ⟨b', off', rfl, hro b' hb', fun j hj => ?_⟩
                  have hjv : j < vss.length := by rw [hll]; simpa using hj
                  have hvj := List.getElem?_eq_getElem hjv
                  have hlen := hz' j _ hvj
                  have hx1 := hx j 0 (sPV l[j]) vss[j] (.v (.string (str l[j]))) (vss[j]'hjv)[0] (by rw [List.getElem?_map, List.getElem?_eq_getElem hj]; rfl) hvj rfl (List.getElem?_eq_getElem _)
                  have hcc := hcs j _ hvj 0 (by omega)
                  rw [List.getElem?_eq_getElem (by omega)] at hcc
                  have hxe := rep_prim (h := h0) (φ := φ0) (.c hx1)
                  rw [Nat.mul_one, Nat.add_zero] at hcc
                  rw [hcc, hxe, List.getElem?_eq_getElem hj]
                  rfl
              refine (appendSeq_plain b off sv l (by unfold maxLen; omega) (by omega) W (hro b hb) hcell hS).mono ?_
              rintro e W' ⟨v, rfl, hown, hbel⟩
              have hlt := World.ownsRow.lt hown
              refine ⟨v, ro, fun _ => v, rfl, ⟨hbel.os, hbel.tape, hbel.output, hbel.size, fun k hk _ => hbel.block k hk⟩, fun b h => h, fun b h => ⟨.inl h, Nat.lt_of_lt_of_le (hro b h) hbel.size⟩, ?_, ?_, ?_, ?_⟩
              · exact .row (by rcases hown.2 with ⟨q, _⟩ | ⟨_, _, _, q, _⟩ <;> rw [q] <;> rfl) fun B hB hn => rfl
              · refine hok_one (brep_of_own ?_) fun b hb' hrb => ?_
                · refine ⟨hown.1, ?_⟩
                  rcases hown.2 with h9 | ⟨g, cap, cur, h9, _, h10⟩
                  · exact .inl h9
                  · exact .inr ⟨g, cap, cur, h9, Nat.zero_le _, h10⟩
                · have := (hlt b (by rw [← own_blk hown]; exact hb')).1
                  have := hro b hrb
                  omega
              · intro j B' hj; exact absurd hj.2 (by have := hj.1; simp; omega)
              · intro j B b hj hb'
                exact .inl (hlt b (by rw [← own_blk hown]; exact hb')).1
theorem sort_told (l : List (List UInt8)) (hl : l.length ≤ 4294967296) : ToldM Tryz.prog 257 [.row 1000000 l.length] [sB l] [some (sB (srt l))] (.tup []) := by
  refine ⟨ent_257, ⟨rfl, trivial⟩, ⟨.tup (by simp), ?_⟩, fun W ro φ vs hro hgk hal hok => ?_⟩
  · intro b hb B hB e he
    simp at hb
    subst hb
    obtain rfl := Option.some.inj hB
    exact fun x hx => (of_eq_true (sA_sc (srt l))) e he x hx
  · obtain rfl := row_arg (B := sB l) (sA_len l) hal
    have hlen : LentL ([sB l].map some) 1000000 = some (sB l) := by simp [LentL]
    have hown := own_of_brep (hok.hp 1000000 _ hlen)
    have fin : ∀ W', W.grownBy W' (φ 1000000).ownBlock → W'.ownsRow 0 9 1 (φ 1000000) (srt l).length ((srt l).map sV) →
        ∃ v ro' φ', Ending.returned (.tuple #[]) = .returned v ∧ Keeps (fun b => ∃ j B, LentL ([sB l].map some) j = some B ∧ blkOf (φ j) = some b) W W' ∧ (∀ b, ro b → ro' b) ∧
          (∀ b, ro' b → (ro b ∨ W.heap.size ≤ b ∨ ∃ j B, LentL ([sB l].map some) j = some B ∧ blkOf (φ j) = some b) ∧ b < W'.heap.size) ∧ Rep W' ro' φ' (LentL [some (sB (srt l))]) (.tup []) v ∧ HOk W' ro' φ' (LentL [some (sB (srt l))]) ∧
          Goes (inL [sB l].length) φ φ' (LentL ([sB l].map some)) (LentL [some (sB (srt l))]) ∧ (∀ j B b, LentL [some (sB (srt l))] j = some B → blkOf (φ' j) = some b → W.heap.size ≤ b ∨ ∃ j B, LentL ([sB l].map some) j = some B ∧ blkOf (φ j) = some b) := by
      intro W' hg ho
      refine ⟨_, ro, φ, rfl, ⟨hg.os, hg.tape, hg.output, hg.size, fun k hk hm => hg.block k hk fun e => hm ⟨1000000, _, hlen, by rw [own_blk hown, e]⟩⟩, fun b h => h, fun b h => ⟨.inl h, Nat.lt_of_lt_of_le (hro b h) hg.size⟩, .tup (vs := []) rfl (by simp), hok_one (brep_of_own ho) fun b hb => hok.own 1000000 _ b hlen hb, ?_, ?_⟩
      · intro j B' hj hB'
        obtain rfl : j = 1000000 := by have := hj.1; have := hj.2; simp at this; omega
        simp [LentL] at hB'
        subst hB'
        exact ⟨_, hlen, .inr ⟨by show (sA l).length = (sA (srt l)).length; rw [sA_len, sA_len, srt_len], rfl, rfl⟩⟩
      · intro j B b hj hb
        obtain ⟨h1, h2⟩ := lentL_some hj
        have h3 := (List.getElem?_eq_some_iff.1 h2).1
        simp at h3
        obtain rfl : j = 1000000 := by omega
        exact .inr ⟨1000000, _, hlen, hb⟩
    rcases hown.2 with ⟨h1, h2⟩ | ⟨g, cap, cur, h1, _, h2, h3, h4, h5, h6⟩
    · obtain rfl : l = [] := List.eq_nil_of_length_eq_zero h2
      rw [h1]
      refine (Tryz.slices_Sort_string_none none 0 W).mono ?_
      rintro e W' ⟨rfl, rfl⟩
      exact fin W' ⟨rfl, rfl, rfl, Nat.le_refl _, fun _ _ _ => rfl⟩ (by rw [show srt [] = [] from by simp [srt]]; exact hown)
    · have hH : Holds encStr W g 0 l.toArray := holds_of_block h2 (by rw [← Nat.mul_one l.length]; exact h6)
      rw [h1]
      refine (Tryz.slices_Sort_string g 0 cap l W hH (Array.getElem?_eq_some_iff.1 h2).1 (by omega)).mono ?_
      rintro e W' ⟨rfl, n, os, rfl⟩
      refine fin _ ?_ ?_
      · rw [h1]; exact grownBy_sorted _
      · rw [h1]
        have := ownsRow_sorted (n := n) (os := os) (ts := srt l) (srt_len l) (Nat.zero_le g) h2 h3 h4 h5
        rw [srt_len]
        exact this
theorem lentL_gone (j : Nat) : LentL [none] j = none := by
  unfold LentL
  split
  · cases h : j - 1000000 with
    | zero => rfl
    | succ k => rfl
  · rfl
theorem compact_len (l : List (List UInt8)) : (Lib.compact l).length ≤ l.length := by
  unfold Lib.compact Lib.compactUpTo
  rw [List.length_map]
  exact Nat.le_trans (List.length_filter_le _ _) (by simp)
theorem compact_told (l : List (List UInt8)) (hl : l.length ≤ 4294967296) : ToldM Tryz.prog 229 [.row 1000000 l.length] [sB l] [none] (.c (.sl 1 ((Lib.compact l).map sPV))) := by
  refine ⟨ent_229, trivial, ⟨.c, fun b hb B hB => by simp at hb; subst hb; simp at hB⟩, fun W ro φ vs hro hgk hal hok => ?_⟩
  obtain rfl := row_arg (B := sB l) (sA_len l) hal
  have hlen : LentL ([sB l].map some) 1000000 = some (sB l) := by simp [LentL]
  have hown := own_of_brep (hok.hp 1000000 _ hlen)
  have hbl : ∀ b, blkOf (φ 1000000) = some b → b < W.heap.size := fun b hb => (World.ownsRow.lt hown b (by rw [← own_blk hown]; exact hb)).2
  have fin : ∀ (W' : World) (u : Value), W.grownBy W' (φ 1000000).ownBlock → PRep W' (fun b => ro b ∨ blkOf (φ 1000000) = some b) (.sl 1 ((Lib.compact l).map sPV)) u →
      ∃ v ro' φ', Ending.returned u = .returned v ∧ Keeps (fun b => ∃ j B, LentL ([sB l].map some) j = some B ∧ blkOf (φ j) = some b) W W' ∧ (∀ b, ro b → ro' b) ∧
        (∀ b, ro' b → (ro b ∨ W.heap.size ≤ b ∨ ∃ j B, LentL ([sB l].map some) j = some B ∧ blkOf (φ j) = some b) ∧ b < W'.heap.size) ∧ Rep W' ro' φ' (LentL [none]) (.c (.sl 1 ((Lib.compact l).map sPV))) v ∧ HOk W' ro' φ' (LentL [none]) ∧
        Goes (inL [sB l].length) φ φ' (LentL ([sB l].map some)) (LentL [none]) ∧ (∀ j B b, LentL [none] j = some B → blkOf (φ' j) = some b → W.heap.size ≤ b ∨ ∃ j B, LentL ([sB l].map some) j = some B ∧ blkOf (φ j) = some b) := by
    intro W' u hg hu
    refine ⟨u, _, φ, rfl, ⟨hg.os, hg.tape, hg.output, hg.size, fun k hk hm => hg.block k hk fun e => hm ⟨1000000, _, hlen, by rw [own_blk hown, e]⟩⟩, fun b h => .inl h, fun b h => ?_, .c hu, ⟨fun j B hj => ?_, fun j k B B' b hj => ?_, fun j B b hj => ?_⟩, fun j B hj hB => ?_, fun j B b hj => ?_⟩
    · rcases h with h | h
      · exact ⟨.inl h, Nat.lt_of_lt_of_le (hro b h) hg.size⟩
      · exact ⟨.inr (.inr ⟨1000000, _, hlen, h⟩), Nat.lt_of_lt_of_le (hbl b h) hg.size⟩
    all_goals first | (rw [lentL_gone] at hj; simp at hj) | (rw [lentL_gone] at hB; simp at hB)
  rcases hown.2 with ⟨h1, h2⟩ | ⟨g, cap, cur, h1, _, h2, h3, h4, h5, h6⟩
  · obtain rfl : l = [] := List.eq_nil_of_length_eq_zero h2
    rw [h1]
    refine (Tryz.slices_Compact_string_empty none 0 W).mono ?_
    rintro e W' ⟨rfl, rfl⟩
    exact fin W' _ ⟨rfl, rfl, rfl, Nat.le_refl _, fun _ _ _ => rfl⟩ (PRep.nil _ _ _)
  · have hH : Holds encStr W g 0 l.toArray := holds_of_block h2 (by rw [← Nat.mul_one l.length]; exact h6)
    rw [h1]
    refine (Tryz.slices_Compact_string g 0 cap l W hH (by omega) h3).mono ?_
    rintro e W' ⟨rfl, q, rfl⟩
    obtain ⟨ts, hts⟩ : ∃ ts, ts = Lib.compact l ++ List.replicate (l.length - (Lib.compact l).length) [] := ⟨_, rfl⟩
    have hcl := compact_len l
    have htl : ts.length = l.length := by rw [hts]; simp; omega
    rw [← hts]
    have hg := grownBy_sorted (w := W) (g := g) (n := q) (os := #[]) ts.toArray
    have ho := ownsRow_sorted (n := q) (os := #[]) (ts := ts) htl (Nat.zero_le g) h2 h3 h4 h5
    rw [grow_empty] at hg ho
    refine fin _ _ (by rw [h1]; exact hg) ?_
    rcases ho.2 with ⟨h7, _⟩ | ⟨g', cap', cur', h7, _, h8, h9, h10, h11, h12⟩
    · simp at h7
    · obtain ⟨rfl, rfl⟩ : g = g' ∧ cap = cap' := by simpa using h7
      have hm : ((Lib.compact l).map sPV).length = (Lib.compact l).length := by simp
      rw [← hm]
      refine .sl (vss := (Lib.compact l).map fun s => [sV s]) (by rw [hm]; omega) (by unfold maxLen at h4; omega) (fun h => by simp at h) (fun hne => ⟨g, 0, rfl, .inr (by rw [h1]; rfl), fun i vs hi => ?_⟩) (by simp) (fun i e he => ?_) (fun i vs hi => ?_) (fun i j e vs p v he hvs hp hv => ?_)
      · rw [List.getElem?_map] at hi
        obtain ⟨s, h13, rfl⟩ := Option.map_eq_some_iff.1 hi
        intro j hj
        obtain rfl : j = 0 := by simpa using hj
        have h14 : (cur'.toList.take (l.length * 1))[i]? = some (sV s) := by
          rw [h12, List.getElem?_map, hts, List.getElem?_append_left (List.getElem?_eq_some_iff.1 h13).1, h13]; rfl
        have hi2 : i < l.length := by have := (List.getElem?_eq_some_iff.1 h13).1; omega
        rw [List.getElem?_take_of_lt (by omega)] at h14
        have := cells_of_take h8 (l.length * 1) i (by rw [List.length_take]; simp; omega)
        rw [Nat.zero_add, List.getElem?_take_of_lt (by omega), h14] at this
        simpa using this
      · obtain ⟨s, _, rfl⟩ := List.mem_map.1 (List.mem_of_getElem? he); rfl
      · obtain ⟨s, _, rfl⟩ := List.mem_map.1 (List.mem_of_getElem? hi); rfl
      · rw [List.getElem?_map] at he hvs
        obtain ⟨s, h13, rfl⟩ := Option.map_eq_some_iff.1 he
        rw [h13] at hvs
        obtain rfl := Option.some.inj hvs
        match j, hp, hv with
        | 0, hp, hv =>
          obtain rfl := Option.some.inj hp
          obtain rfl := Option.some.inj hv
          exact .v rfl
end
section
attribute [local go_sem] opx opE ev okx gcond bnd okO AV.get AV.okb cAV upd_at putd_some putd_none wrs_nil wrs_cons look_nil look_cons st argT_at bpick_and bpick_or bpick_true bpick_false binV binI binS binVOk binOk isShift binSOk unV unVOk loadV loadP cellsA zeroA Blkd.len setE grown moreA moreR moreOk eqRes pv fillA fillE putSeg AV.cellish AV.pureL AV.pureB lentL_is ex_some AV.ren AV.renL renL_c Blkd.ren rho wrM renN lentOk rhoE keepM endOk tyA_2 tyA_3 tyA_4 tyA_5 tyA_6 tyA_7 tyA_8 tyA_9 tyA_10 tyA_11 tyA_12 tyA_13 tyA_14 tyA_15 tyA_16 tyA_17 tyA_18 tyA_19 tyA_21 tyA_22 tyA_23 tyA_24 tyA_29 tyA_30 tyA_31 tyA_32 tyA_33 tyA_34 tyA_35 tyA_36 tyA_37 tyA_38 tyA_39 tyA_40 tyA_41 tyA_42 tyA_43 tyA_49 tyA_85 tyA_89 tyA_99 tyA_100 tyA_101 tyA_105 tyA_106 tyA_107 tyA_108 tyA_109 tyA_111 tyA_112 tyA_113 tyA_114 tyA_123 tyA_126 tyA_127 tyA_128 tyA_129 tyA_130 tyA_153 tyA_163 tyA_164 tyA_165 tyA_179 tyA_185 tyA_191 tyA_192 tyA_193 tyA_194 tyA_195 tyA_196 tyA_209 tyA_213 tyA_214 tyA_215 tyA_241 tyA_248 tyA_274 tyA_275 tyA_276 tyA_292 tyA_294 tyA_302 tyA_307 tyA_315 tyA_319 tyA_321 tyA_324 tyA_325 tyA_326 tyA_327 tyA_328 tyA_329 tyA_330 tyA_332 tyA_333 Option.map_some Option.map_none Option.getD_some Option.getD_none Option.bind_some Option.bind_none List.getElem?_cons_zero List.getElem?_cons_succ List.getElem?_nil List.getElem?_toArray List.length_cons List.length_nil List.length_map List.forall_mem_map List.map_cons List.map_nil List.drop_zero List.drop_succ_cons List.drop_nil List.take_zero List.take_succ_cons List.take_nil List.mem_cons List.not_mem_nil or_false forall_eq_or_imp forall_eq List.set_cons_zero List.set_cons_succ List.cons_append List.nil_append List.append_nil List.foldl_cons List.foldl_nil List.replicate_succ List.replicate_zero List.all_cons List.all_nil if_true if_false Bool.false_eq_true ne_eq not_false_eq_true not_true_eq_false true_and and_true and_self true_implies imp_self implies_true forall_const beq_self_eq_true Bool.and_true Bool.true_and Bool.and_false Bool.false_and Bool.or_true Bool.true_or Bool.or_false Bool.false_or Bool.not_true Bool.not_false Bool.not_eq_eq_eq_not intKindOf Value.oneCell' Int.toNat_natCast beq_true beq_false Bool.not_eq_true false_implies false_or true_or or_true Nat.zero_add Nat.add_zero decide_true decide_false Int.cast_ofNat_Int Int.toNat_zero Int.toNat_one eq_self

mutual
def JT.sm (N : Nat) : JT → Prop
  | .mk k n s ks xs => s.length ≤ N ∧ ks.length ≤ N ∧ (∀ y ∈ ks, y.length ≤ N) ∧ xs.length ≤ N ∧ JT.smL N xs
def JT.smL (N : Nat) : List JT → Prop
  | [] => True
  | x :: xs => x.sm N ∧ JT.smL N xs
end
theorem smL_mem {N : Nat} : ∀ {xs : List JT}, JT.smL N xs → ∀ x ∈ xs, x.sm N
  | x :: xs, h, y, hy => by
    rcases List.mem_cons.1 hy with rfl | hy
    · exact h.1
    · exact smL_mem h.2 y hy
def jbare : JT → Bool
  | .mk k n s ks xs =>
    if k = 1 then (n == 0) && s.isEmpty && xs.isEmpty else if k = 2 then (n == 0 || n == 1) && s.isEmpty && xs.isEmpty else if k = 3 then s.isEmpty && xs.isEmpty
    else if k = 4 then (n == 0) && xs.isEmpty && isRight s else if k = 5 ∨ k = 6 then (n == 0) && s.isEmpty else false
theorem str_empty (s : List UInt8) : (!((str s).toList == (⟨#[]⟩ : ByteArray).toList)) = !s.isEmpty := by
  rw [str_toList, show (⟨#[]⟩ : ByteArray) = str [] from rfl, str_toList]
  cases s <;> rfl
theorem nn_eq (n m : Int) : (!(n != m)) = (n == m) := by cases h : n == m <;> simp_all [bne]
set_option maxRecDepth 100000 in
set_option maxHeartbeats 800000 in
theorem jbare_told (t : JT) (ht : t.sm 140737488355328) : Told Tryz.prog 173 [t.av] (.c (.v (.bool (jbare t)))) := by
  cases t with
  | mk k n s ks xs =>
  have hs : s.length ≤ 140737488355328 := ht.1
  have hR := uright_told s (by omega)
  refine VC.told ent_173 Tryz.func173 rfl Tryz.ntmps173 (by simp) rfl rfl fun hb => ?_
  clear hb
  have g1 : decide ((xs.length : Int) > 0) = !xs.isEmpty := by cases xs <;> simp <;> omega
  refine walkGF (And.intro @JT.av_eq (And.intro @cells_mk (And.intro @str_empty g1))) ?_
  refine VC.cond (by rfl) (by trivial) (fun h1 => ?_) (fun h1 => ?_)
  · refine walkG ?_
    refine ⟨by first | exact .inr rfl | exact .inl rfl, ?_⟩; rw [Tryz.results173]; simp only [resOk, resV, go_sem, simprocAttr]
    refine frz_c ?_
    simp only [beq_iff_eq] at h1
    simp only [jbare, h1, if_true, nn_eq, bpick_and, Bool.not_not]
  refine walkGF (And.intro @JT.av_eq @cells_mk) ?_
  refine VC.cond (by rfl) (by trivial) (fun h2 => ?_) (fun h2 => ?_)
  · refine walkGF (And.intro @cells_mk (And.intro @str_empty g1)) ?_
    refine ⟨by first | exact .inr rfl | exact .inl rfl, ?_⟩; rw [Tryz.results173]; simp only [resOk, resV, go_sem, simprocAttr]
    refine frz_c ?_
    obtain rfl : k = 2 := by simpa using h2
    simp [jbare]
  refine walkGF (And.intro @JT.av_eq @cells_mk) ?_
  refine VC.cond (by rfl) (by trivial) (fun h3 => ?_) (fun h3 => ?_)
  · refine walkGF (And.intro @cells_mk (And.intro @str_empty g1)) ?_
    refine ⟨by first | exact .inr rfl | exact .inl rfl, ?_⟩; rw [Tryz.results173]; simp only [resOk, resV, go_sem, simprocAttr]
    refine frz_c ?_
    obtain rfl : k = 3 := by simpa using h3
    simp [jbare]
  refine walkGF (And.intro @JT.av_eq @cells_mk) ?_
  refine VC.cond (by rfl) (by trivial) (fun h4 => ?_) (fun h4 => ?_)
  · obtain rfl : k = 4 := by simpa using h4
    refine walkGF (And.intro @cells_mk (And.intro @str_empty (And.intro g1 (And.intro @str_size hs)))) ?_
    refine walkDF (@str_dl) (hR) ?_
    refine walkG ?_
    refine ⟨by first | exact .inr rfl | exact .inl rfl, ?_⟩; rw [Tryz.results173]; simp only [resOk, resV, go_sem, simprocAttr]
    refine frz_c ?_
    simp only [jbare, nn_eq, bpick_and, Bool.not_not]
    simp
  refine walkGF (And.intro @JT.av_eq @cells_mk) ?_
  refine VC.cond (by rfl) (by trivial) (fun h5 => ?_) (fun h5 => ?_)
  · obtain rfl : k = 5 := by simpa using h5
    refine walkGF (@cells_mk) ?_
    refine VC.condT (by rfl) (by trivial) ?_
    refine walkGF (And.intro @cells_mk (And.intro @str_empty g1)) ?_
    refine ⟨by first | exact .inr rfl | exact .inl rfl, ?_⟩; rw [Tryz.results173]; simp only [resOk, resV, go_sem, simprocAttr]
    refine frz_c ?_
    simp only [jbare, nn_eq, bpick_and, Bool.not_not]
    simp
  refine walkGF (And.intro @JT.av_eq @cells_mk) ?_
  refine VC.cond (by rfl) (by trivial) (fun h6 => ?_) (fun h6 => ?_)
  · obtain rfl : k = 6 := by simpa using h6
    refine walkGF (And.intro @cells_mk (And.intro @str_empty g1)) ?_
    refine ⟨by first | exact .inr rfl | exact .inl rfl, ?_⟩; rw [Tryz.results173]; simp only [resOk, resV, go_sem, simprocAttr]
    refine frz_c ?_
    simp only [jbare, nn_eq, bpick_and, Bool.not_not]
    simp
  · refine walkGF (And.intro @cells_mk (And.intro @str_empty g1)) ?_
    refine ⟨by first | exact .inr rfl | exact .inl rfl, ?_⟩; rw [Tryz.results173]; simp only [resOk, resV, go_sem, simprocAttr]
    refine frz_c ?_
    simp only [beq_eq_false_iff_ne] at h1 h2 h3 h4 h5 h6
    simp [jbare, h1, h2, h3, h4, h5, h6]
section
open Go.RowKit Go.Sort
set_option maxRecDepth 100000 in
set_option maxHeartbeats 400000 in
theorem valuesS_told (l : List (List UInt8)) : Told Tryz.prog 227 [.c (.sl 1 (l.map sPV))] (.fn (.func 258) [] [.pp [.sl 1 (l.map sPV)]]) := by
  refine VC.told ent_227 Tryz.func227 rfl Tryz.ntmps227 (by simp) (by first | rfl | simp [AV.pureB, AV.pureL, pureL_c, pures]) (by first | rfl | simp [AV.pureB, AV.pureL, pureL_c, pures]) fun hb => ?_
  clear hb
  refine walkG ?_
  refine ⟨by first | exact .inr rfl | exact .inl rfl, ?_⟩; rw [Tryz.results227]; simp only [resOk, resV, go_sem, simprocAttr]
  exact .fnL .nil (.cons (.refP (es := [.sl 1 (l.map sPV)]) rfl rfl rfl rfl rfl) .nil)
set_option maxRecDepth 100000 in
set_option maxHeartbeats 400000 in
theorem collect_told (l : List (List UInt8)) (hl : l.length ≤ 4294967296) : ToldM Tryz.prog 256 [.fn (.func 258) [] [.pp [.sl 1 (l.map sPV)]]] [] [some (sB l)] (.row 1000000 l.length) := by
  have h := appendSeq_told l hl
  unfold sB at h ⊢
  refine VC.toldM ent_256 [16] Tryz.func256 rfl Tryz.ntmps256 (by simp) (by simp only [ sA_len, sA_sc, ScM, zOk, inL, eq_self, used_is, sc_any, sc_c, sc_pp, sc_ref, sc_row, sc_agg, sc_tup, sc_fn, ScL, some_imp, List.forall_mem_map, Nat.le_refl, go_sem, simprocAttr]) (by simp only [ sA_len, sA_sc, ScM, zOk, inL, eq_self, used_is, sc_any, sc_c, sc_pp, sc_ref, sc_row, sc_agg, sc_tup, sc_fn, ScL, some_imp, List.forall_mem_map, Nat.le_refl, go_sem, simprocAttr]) (by simp only [ sA_len, sA_sc, ScM, zOk, inL, eq_self, used_is, sc_any, sc_c, sc_pp, sc_ref, sc_row, sc_agg, sc_tup, sc_fn, ScL, some_imp, List.forall_mem_map, Nat.le_refl, go_sem, simprocAttr]) (by simp only [ sA_len, sA_sc, ScM, zOk, inL, eq_self, used_is, sc_any, sc_c, sc_pp, sc_ref, sc_row, sc_agg, sc_tup, sc_fn, ScL, some_imp, List.forall_mem_map, Nat.le_refl, go_sem, simprocAttr]) (by simp) fun hb hbL => ?_
  clear hb hbL
  refine walkG ?_
  ((refine AO.step fun K hK => ?_; simp only [go_sem, Int.reduceBEq, Int.reduceLE, Int.reduceLT, Int.reduceNeg, Nat.reduceAdd, Nat.reduceEqDiff, Nat.reduceLT, Nat.reduceLeDiff, Nat.reduceMul, Nat.reduceSub, reduceCtorEq, ↓reduceIte, sA_ren]; (first | refine gsel_go ?_ | skip)); refine .inr (.inr (.inl ⟨?vy1, [], ?va1, ?vl1, ?vm1, ?cond1, ?cont1⟩)); (case cond1 => ((repeat' apply And.intro) <;> (try ((with_reducible show ToldM _ _ _ _ _ _); exact h))); (all_goals first | trivial | (simp only [sA_ren, go_sem, simprocAttr]; done) | (simp; done) | rfl)); (first | refine hK _ _ _ ?_ | (simp only [sA_ren, go_sem, simprocAttr]; first | refine hK _ _ _ ?_ | refine ⟨rfl, hK _ _ _ ?_⟩)); clear hK K)
  refine walkGF (And.intro @sA_ren @sA_len) ?_
  refine ⟨by first | exact .inr rfl | exact .inl rfl, ?_⟩; rw [Tryz.results256]; simp only [sA_ren, sA_len, resOk, resV, go_sem, simprocAttr]
  exact .keepW rfl
set_option maxRecDepth 100000 in
set_option maxHeartbeats 400000 in
theorem sorted_told (l : List (List UInt8)) (hl : l.length ≤ 4294967296) : ToldM Tryz.prog 226 [.fn (.func 258) [] [.pp [.sl 1 (l.map sPV)]]] [] [some (sB (srt l))] (.row 1000000 l.length) := by
  have h := collect_told l hl
  have h2 := sort_told l hl
  have hsl := srt_len l
  unfold sB at h h2 ⊢
  refine VC.toldM ent_226 [16] Tryz.func226 rfl Tryz.ntmps226 (by simp) (by simp only [ sA_len, sA_sc, hsl, ScM, zOk, inL, eq_self, used_is, sc_any, sc_c, sc_pp, sc_ref, sc_row, sc_agg, sc_tup, sc_fn, ScL, some_imp, List.forall_mem_map, Nat.le_refl, go_sem, simprocAttr]) (by simp only [ sA_len, sA_sc, hsl, ScM, zOk, inL, eq_self, used_is, sc_any, sc_c, sc_pp, sc_ref, sc_row, sc_agg, sc_tup, sc_fn, ScL, some_imp, List.forall_mem_map, Nat.le_refl, go_sem, simprocAttr]) (by simp only [ sA_len, sA_sc, hsl, ScM, zOk, inL, eq_self, used_is, sc_any, sc_c, sc_pp, sc_ref, sc_row, sc_agg, sc_tup, sc_fn, ScL, some_imp, List.forall_mem_map, Nat.le_refl, go_sem, simprocAttr]) (by simp only [ sA_len, sA_sc, hsl, ScM, zOk, inL, eq_self, used_is, sc_any, sc_c, sc_pp, sc_ref, sc_row, sc_agg, sc_tup, sc_fn, ScL, some_imp, List.forall_mem_map, Nat.le_refl, go_sem, simprocAttr]) (by simp) fun hb hbL => ?_
  clear hb hbL
  refine walkG ?_
  ((refine AO.step fun K hK => ?_; simp only [go_sem, Int.reduceBEq, Int.reduceLE, Int.reduceLT, Int.reduceNeg, Nat.reduceAdd, Nat.reduceEqDiff, Nat.reduceLT, Nat.reduceLeDiff, Nat.reduceMul, Nat.reduceSub, reduceCtorEq, ↓reduceIte, sA_ren]; (first | refine gsel_go ?_ | skip)); refine .inr (.inr (.inl ⟨?vy2, [], ?va2, ?vl2, ?vm2, ?cond2, ?cont2⟩)); (case cond2 => ((repeat' apply And.intro) <;> (try ((with_reducible show ToldM _ _ _ _ _ _); exact h))); (all_goals first | trivial | (simp only [sA_ren, go_sem, simprocAttr]; done) | (simp; done) | rfl)); (first | refine hK _ _ _ ?_ | (simp only [sA_ren, go_sem, simprocAttr]; first | refine hK _ _ _ ?_ | refine ⟨rfl, hK _ _ _ ?_⟩)); clear hK K)
  refine walkGF (And.intro @sA_ren @sA_len) ?_
  ((refine AO.step fun K hK => ?_; simp only [go_sem, Int.reduceBEq, Int.reduceLE, Int.reduceLT, Int.reduceNeg, Nat.reduceAdd, Nat.reduceEqDiff, Nat.reduceLT, Nat.reduceLeDiff, Nat.reduceMul, Nat.reduceSub, reduceCtorEq, ↓reduceIte, sA_ren]; (first | refine gsel_go ?_ | skip)); refine .inr (.inr (.inl ⟨?vy3, [16], ?va3, ?vl3, ?vm3, ?cond3, ?cont3⟩)); (case cond3 => ((repeat' apply And.intro) <;> (try ((with_reducible show ToldM _ _ _ _ _ _); exact h2))); (all_goals first | trivial | (simp only [sA_ren, go_sem, simprocAttr]; done) | (simp; done) | rfl)); (first | refine hK _ _ _ ?_ | (simp only [sA_ren, go_sem, simprocAttr]; first | refine hK _ _ _ ?_ | refine ⟨rfl, hK _ _ _ ?_⟩)); clear hK K)
  refine walkGF (And.intro @sA_ren @sA_len) ?_
  refine ⟨by first | exact .inr rfl | exact .inl rfl, ?_⟩; rw [Tryz.results226]; simp only [sA_ren, sA_len, resOk, resV, go_sem, simprocAttr]
  exact .keepW rfl
set_option maxRecDepth 100000 in
set_option maxHeartbeats 400000 in
theorem keyed1_told (s : List UInt8) (hs : s.length ≤ 140737488355328) : Told Tryz.prog 228 [.c (.v (.string (str s)))] (.c (.v (.bool (!isRight s)))) := by
  have h := uright_told s (by omega)
  refine VC.told ent_228 Tryz.func228 rfl Tryz.ntmps228 (by simp) (by first | rfl | simp [AV.pureB, AV.pureL, pureL_c, pures]) (by first | rfl | simp [AV.pureB, AV.pureL, pureL_c, pures]) fun hb => ?_
  clear hb
  refine walkGF (And.intro @str_size hs) ?_
  refine walkCF (@str_dl) (h) ?_
  refine walkG ?_
  refine ⟨by first | exact .inr rfl | exact .inl rfl, ?_⟩; rw [Tryz.results228]; simp only [resOk, resV, go_sem, simprocAttr]
  exact .c _
def jkeyed : JT → Bool
  | .mk k n s ks xs => if k ≠ 6 then ks.isEmpty else decide (ks.length = xs.length) && (decide ((Lib.compact (srt ks)).length = ks.length) && ks.all isRight)
set_option maxRecDepth 100000 in
set_option maxHeartbeats 800000 in
theorem jkeyed_told (t : JT) (ht : t.sm 4294967296) : Told Tryz.prog 174 [t.av] (.c (.v (.bool (jkeyed t)))) := by
  cases t with
  | mk k n s ks xs =>
  obtain ⟨_, hk, hks, _, _⟩ := ht
  have hV := valuesS_told ks
  have hS := sorted_told ks hk
  have hC := compact_told (srt ks) (by rw [srt_len]; exact hk)
  have hF := cnfS_told (g := 228) (fs := []) (cs := []) rfl rfl ks (fun s => !isRight s) fun s hs => keyed1_told s (by have := hks s hs; omega)
  unfold sB at hS hC
  rw [srt_len] at hC
  refine VC.told ent_174 Tryz.func174 rfl Tryz.ntmps174 (by simp) rfl rfl fun hb => ?_
  clear hb
  refine walkGF (And.intro @JT.av_eq @cells_mk) ?_
  refine VC.cond (by rfl) (by trivial) (fun h6 => ?_) (fun h6 => ?_)
  · refine walkGF (@cells_mk) ?_
    refine ⟨by first | exact .inr rfl | exact .inl rfl, ?_⟩; rw [Tryz.results174]; simp only [resOk, resV, go_sem, simprocAttr]
    refine frz_c ?_
    simp only [bne_iff_ne] at h6
    simp only [jkeyed]
    rw [if_pos h6]
    cases ks <;> simp <;> omega
  · refine walkGF (@cells_mk) ?_
    refine walkC (hV) ?_
    refine walkG ?_
    ((refine AO.step fun K hK => ?_; simp only [go_sem, Int.reduceBEq, Int.reduceLE, Int.reduceLT, Int.reduceNeg, Nat.reduceAdd, Nat.reduceEqDiff, Nat.reduceLT, Nat.reduceLeDiff, Nat.reduceMul, Nat.reduceSub, reduceCtorEq, ↓reduceIte, sA_ren]; (first | refine gsel_go ?_ | skip)); refine .inr (.inr (.inl ⟨?vy4, [], ?va4, ?vl4, ?vm4, ?cond4, ?cont4⟩)); (case cond4 => ((repeat' apply And.intro) <;> (try ((with_reducible show ToldM _ _ _ _ _ _); exact hS))); (all_goals first | trivial | (simp only [sA_ren, go_sem, simprocAttr]; done) | (simp; done) | rfl)); (first | refine hK _ _ _ ?_ | (simp only [sA_ren, go_sem, simprocAttr]; first | refine hK _ _ _ ?_ | refine ⟨rfl, hK _ _ _ ?_⟩)); clear hK K)
    simp only [bne_eq_false_iff_eq] at h6
    subst h6
    by_cases hkx : ks.length = xs.length
    · have hg : ((ks.length : Int) == (xs.length : Int)) = true := by simp [hkx]
      refine walkGF (And.intro @sA_ren (And.intro @sA_len (And.intro @cells_mk hg))) ?_
      ((refine AO.step fun K hK => ?_; simp only [go_sem, Int.reduceBEq, Int.reduceLE, Int.reduceLT, Int.reduceNeg, Nat.reduceAdd, Nat.reduceEqDiff, Nat.reduceLT, Nat.reduceLeDiff, Nat.reduceMul, Nat.reduceSub, reduceCtorEq, ↓reduceIte, sA_ren, sA_len, srt_len]; (first | refine gsel_go ?_ | skip)); refine .inr (.inr (.inl ⟨?vy5, [64], ?va5, ?vl5, ?vm5, ?cond5, ?cont5⟩)); (case cond5 => ((repeat' apply And.intro) <;> (try ((with_reducible show ToldM _ _ _ _ _ _); exact hC))); (all_goals first | trivial | (simp only [sA_ren, sA_len, srt_len, go_sem, simprocAttr]; done) | (simp; done) | rfl)); (first | refine hK _ _ _ ?_ | (simp only [sA_ren, sA_len, srt_len, go_sem, simprocAttr]; first | refine hK _ _ _ ?_ | refine ⟨rfl, hK _ _ _ ?_⟩)); clear hK K)
      refine walkGF (And.intro @sA_ren (And.intro @sA_len (And.intro @cells_mk hg))) ?_
      refine walkDF (@cells_mk) (hF) ?_
      refine walkG ?_
      refine ⟨by first | exact .inr rfl | exact .inl rfl, ?_⟩; rw [Tryz.results174]; simp only [resOk, resV, go_sem, simprocAttr]
      refine frz_c ?_
      have e1 : (!ks.any fun s => !isRight s) = ks.all isRight := by rw [List.not_any_eq_all_not]; simp
      have e2 : (((Lib.compact (srt ks)).length : Int) == (ks.length : Int)) = decide ((Lib.compact (srt ks)).length = ks.length) := by
        rw [Bool.eq_iff_iff]
        simp
        omega
      rw [e1, e2]
      simp [jkeyed, hkx]
    · have hg : ((ks.length : Int) == (xs.length : Int)) = false := by simp; omega
      refine walkGF (And.intro @sA_ren (And.intro @sA_len (And.intro @cells_mk hg))) ?_
      refine ⟨by first | exact .inr rfl | exact .inl rfl, ?_⟩; rw [Tryz.results174]; simp only [resOk, resV, go_sem, simprocAttr]
      refine frz_c ?_
      simp [jkeyed, hkx]
end

set_option maxRecDepth 100000 in
set_option maxHeartbeats 400000 in
theorem ixfJ_told {g : FuncId} {fs cs : List AV} (hp : AV.pureL fs = true) (hp' : AV.pureL cs = true) (l : List (JT)) (p : JT → Bool) (hk : ∀ x ∈ l, Told Tryz.prog g (fs ++ ([x.av] ++ cs)) (.c (.v (.bool (p x))))) :
    Told Tryz.prog 230 [.c (.sl 5 (l.map JT.cells)), .fn (.func g) fs cs] (.c (.v (.int .i64 (idxP p l)))) := by
  refine VC.told ent_230 Tryz.func230 rfl Tryz.ntmps230 (by simp) (by simp [AV.pureB, AV.pureL, hp, hp']) rfl fun hb => ?_
  simp only [List.mem_cons, List.not_mem_nil, or_false, forall_eq_or_imp, forall_eq, abd_c, pbd_sl, List.length_map] at hb
  have h1 := hb.1.1
  clear hb
  refine walkG ?_
  refine VC.loop (ι := {i : Nat // i ≤ l.length ∧ ∀ j x, j < i → l[j]? = some x → p x = false}) (fun i => [(0, .c (.sl 5 (l.map JT.cells))), (1, .fn (.func g) fs cs), (7, .c (.v (.int .i64 l.length))), (8, .c (.v (.int .i64 i.1)))]) (fun _ => []) 0 (fun i => l.length - i.1) ⟨0, Nat.zero_le _, by intro j x hj; omega⟩ ?_ ?_
  · simp only [sc_pureL hp, sc_pureL hp', Weak, eq_self, used_is, sc_any, sc_c, sc_pp, sc_ref, sc_row, sc_agg, sc_fn, ScL, some_imp, List.forall_mem_map, go_sem, Int.reduceBEq, Int.reduceLE, Int.reduceLT, Int.reduceNeg, Nat.reduceAdd, Nat.reduceEqDiff, Nat.reduceLT, Nat.reduceLeDiff, Nat.reduceMul, Nat.reduceSub, reduceCtorEq, ↓reduceIte]
    all_goals rfl
  rintro ⟨i, hi, ht⟩
  refine walkG ?_
  refine VC.cond (by rfl) (by trivial) (fun hc => ?_) (fun hc => ?_)
  · simp only [decide_eq_true_eq] at hc
    obtain ⟨x, hx⟩ : ∃ x, l[i]? = some x := ⟨l[i]'(by omega), List.getElem?_eq_getElem _⟩
    have hw : IntKind.i64.wrap ((i : Int) + 1) = (i : Int) + 1 := wrap64_id (by omega) (by omega)
    have hkx := hk x (List.mem_of_getElem? hx)
    (repeat (first | refine pass ?_ | refine VC.region (by rfl) (by rfl) ?_ | (refine AO.step fun K hK => ?_; simp only [List.getElem?_map, hx, JT.av, len_cells, take_cells, take_cellsC, go_sem, Int.reduceBEq, Int.reduceLE, Int.reduceLT, Int.reduceNeg, Nat.reduceAdd, Nat.reduceEqDiff, Nat.reduceLT, Nat.reduceLeDiff, Nat.reduceMul, Nat.reduceSub, reduceCtorEq, ↓reduceIte]; (first | refine gsel_skip ?_ | refine gsel_go ?_ | skip); (first | refine hK _ _ _ ?_ | refine ⟨by first | omega | exact ⟨_, rfl, rfl⟩ | exact fun _ => ⟨_, rfl, rfl⟩ | (intro h; simp only [List.getElem?_map, hx, JT.av, len_cells, take_cells, take_cellsC, h, true_and]; omega) | (clear hK; intro h; simp_all <;> omega), hK _ _ _ ?_⟩); clear hK K) | refine VC.draw mixP (by rfl) (by rfl) ?_ | refine ⟨okd_of (by kernel_rfl), ?_⟩ | refine BQ.other (by decide) ?_ | refine VC.seq ?_ | refine AO.nil ?_ | refine VC.block ?_))
    ((refine AO.step fun K hK => ?_; simp only [go_sem, Int.reduceBEq, Int.reduceLE, Int.reduceLT, Int.reduceNeg, Nat.reduceAdd, Nat.reduceEqDiff, Nat.reduceLT, Nat.reduceLeDiff, Nat.reduceMul, Nat.reduceSub, reduceCtorEq, ↓reduceIte, JT.av, len_cells, take_cells, take_cellsC, hp, hp', pureL_app, pureL_c, List.append_assoc]; (first | refine gsel_go ?_ | skip)); refine .inl ⟨_, hkx, hK _ _ _ ?_⟩; clear hK K)
    refine walkG ?_
    refine VC.cond (by rfl) (by trivial) (fun hpx => ?_) (fun hpx => ?_)
    · have hr := idxP_at hx hpx ht
      refine walkG ?_
      refine ⟨by first | exact .inr rfl | exact .inl rfl, ?_⟩; rw [Tryz.results230]; simp only [resOk, resV, go_sem, simprocAttr]
      rw [hr]
      exact .c _
    · refine walkGF (hw) ?_
      refine .next ⟨i + 1, by omega, fun j y hj hy => ?_⟩ ?_ (by simp only []; omega)
      · rcases Nat.lt_or_ge j i with h | h
        · exact ht j y h hy
        · obtain rfl : j = i := by omega
          rw [hx] at hy
          obtain rfl := Option.some.inj hy
          exact hpx
      simp only [sc_pureL hp, sc_pureL hp', Weak, eq_self, used_is, sc_any, sc_c, sc_pp, sc_ref, sc_row, sc_agg, sc_fn, ScL, some_imp, List.forall_mem_map, go_sem, Int.reduceBEq, Int.reduceLE, Int.reduceLT, Int.reduceNeg, Nat.reduceAdd, Nat.reduceEqDiff, Nat.reduceLT, Nat.reduceLeDiff, Nat.reduceMul, Nat.reduceSub, reduceCtorEq, ↓reduceIte]
      exact cI (by omega)
  · simp only [decide_eq_false_iff_not] at hc
    obtain rfl : i = l.length := by omega
    have hr := idxP_none ht
    refine walkG ?_
    refine ⟨by first | exact .inr rfl | exact .inl rfl, ?_⟩; rw [Tryz.results230]; simp only [resOk, resV, go_sem, simprocAttr]
    rw [hr]
    exact .c _
set_option maxRecDepth 100000 in
set_option maxHeartbeats 400000 in
theorem cnfJ_told {g : FuncId} {fs cs : List AV} (hp : AV.pureL fs = true) (hp' : AV.pureL cs = true) (l : List (JT)) (p : JT → Bool) (hk : ∀ x ∈ l, Told Tryz.prog g (fs ++ ([x.av] ++ cs)) (.c (.v (.bool (p x))))) :
    Told Tryz.prog 175 [.c (.sl 5 (l.map JT.cells)), .fn (.func g) fs cs] (.c (.v (.bool (l.any p)))) := by
  have hi := ixfJ_told hp hp' l p hk
  refine VC.told ent_175 Tryz.func175 rfl Tryz.ntmps175 (by simp) (by simp [AV.pureB, AV.pureL, hp, hp']) rfl fun hb => ?_
  clear hb
  refine walkG ?_
  refine walkCF (And.intro hp hp') (hi) ?_
  refine walkG ?_
  refine ⟨by first | exact .inr rfl | exact .inl rfl, ?_⟩; rw [Tryz.results175]; simp only [resOk, resV, go_sem, simprocAttr]
  exact frz_c (by rw [idxP_any])

def JT.kids : JT → List JT
  | .mk _ _ _ _ xs => xs
mutual
theorem sm_le {N M : Nat} (h : N ≤ M) : ∀ t : JT, t.sm N → t.sm M
  | .mk k n s ks xs => fun ⟨h1, h2, h3, h4, h5⟩ => ⟨Nat.le_trans h1 h, Nat.le_trans h2 h, fun y hy => Nat.le_trans (h3 y hy) h, Nat.le_trans h4 h, smL_le h xs h5⟩
theorem smL_le {N M : Nat} (h : N ≤ M) : ∀ xs : List JT, JT.smL N xs → JT.smL M xs
  | [] => fun _ => trivial
  | x :: xs => fun hx => ⟨sm_le h x hx.1, smL_le h xs hx.2⟩
end
mutual
def jright (d : Nat) : JT → Bool
  | .mk k n s ks xs => jbare (.mk k n s ks xs) && jkeyed (.mk k n s ks xs) && !(decide (32 ≤ d) && (decide (k = 5) || decide (k = 6))) && jrights (d + 1) xs
def jrights (d : Nat) : List JT → Bool
  | [] => true
  | x :: xs => jright d x && jrights d xs
end
theorem jrights_any (d : Nat) : ∀ xs : List JT, (!xs.any fun x => !jright d x) = jrights d xs
  | [] => rfl
  | x :: xs => by rw [jrights, ← jrights_any d xs]; simp
set_option maxRecDepth 100000 in
set_option maxHeartbeats 400000 in
theorem right1_told {x : JT} {z : Int} {b : Bool} (h0 : 0 ≤ z) (h1 : z ≤ 32) (h : Told Tryz.prog 99 [x.av, .c (.v (.int .i64 (z + 1)))] (.c (.v (.bool b)))) : Told Tryz.prog 176 [x.av, .pp [.v (.int .i64 z)]] (.c (.v (.bool (!b)))) := by
  have hw : IntKind.i64.wrap (z + 1) = z + 1 := wrap64_id (by omega) (by omega)
  refine VC.told ent_176 Tryz.func176 rfl Tryz.ntmps176 (by simp) (by simp [AV.pureB, AV.pureL, JT.av, pureL_c]) rfl fun hb => ?_
  clear hb
  refine walkGF (And.intro @JT.av_eq (And.intro @len_cells (And.intro @take_cells (And.intro @take_cellsC hw)))) ?_
  refine walkCF (And.intro @JT.av_eq (And.intro @len_cells (And.intro @take_cells (And.intro @take_cellsC (And.intro hw @pureL_c))))) (h) ?_
  refine walkG ?_
  refine ⟨by first | exact .inr rfl | exact .inl rfl, ?_⟩; rw [Tryz.results176]; simp only [resOk, resV, go_sem, simprocAttr]
  exact .c _
theorem bare_kids {k n : Int} {s : List UInt8} {ks : List (List UInt8)} {xs : List JT} (h : jbare (.mk k n s ks xs) = true) (h5 : k ≠ 5) (h6 : k ≠ 6) : xs = [] := by
  rw [jbare] at h
  split at h
  · simp at h; exact h.2
  · split at h
    · simp at h; exact h.2
    · split at h
      · simp at h; exact h.2
      · split at h
        · simp at h; exact h.1.2
        · rw [if_neg (by simp [h5, h6])] at h
          exact absurd h (by simp)
set_option maxRecDepth 100000 in
set_option maxHeartbeats 800000 in
theorem right_told : ∀ (m : Nat) (t : JT), SizeOf.sizeOf t ≤ m → t.sm 4294967296 → ∀ (d : Nat) (z : Int), d ≤ 32 → z = (d : Int) → Told Tryz.prog 99 [t.av, .c (.v (.int .i64 z))] (.c (.v (.bool (jright d t)))) := by
  intro m
  induction m with
  | zero => intro t ht; cases t; simp at ht
  | succ m ih =>
  intro t ht hsm d z hd hz
  have hB := jbare_told t (sm_le (by omega) t hsm)
  have hKy := jkeyed_told t hsm
  have hx : ∀ x ∈ t.kids, Told Tryz.prog 99 [x.av, .c (.v (.int .i64 (z + 1)))] (.c (.v (.bool (jright (d + 1) x)))) ∨ 32 ≤ d := by
    intro x hx
    by_cases h32 : 32 ≤ d
    · exact .inr h32
    · cases t with
      | mk k n s ks xs => exact .inl (ih x (by have := List.sizeOf_lt_of_mem (show x ∈ xs from hx); simp at ht; omega) (smL_mem hsm.2.2.2.2 x hx) (d + 1) (z + 1) (by omega) (by omega))
  clear ih ht hsm
  obtain ⟨V, hV⟩ : ∃ V, V = jright d t := ⟨_, rfl⟩
  rw [← hV]
  cases t with
  | mk k n s ks xs =>
  rw [jright] at hV
  replace hx : ∀ x ∈ xs, _ := hx
  obtain ⟨b1, hb1⟩ : ∃ b1, b1 = jbare (.mk k n s ks xs) := ⟨_, rfl⟩
  obtain ⟨b2, hb2⟩ : ∃ b2, b2 = jkeyed (.mk k n s ks xs) := ⟨_, rfl⟩
  rw [← hb1] at hB hV
  rw [← hb2] at hKy hV
  simp only [JT.av, cells_mk, List.map_cons, List.map_nil] at hB hKy
  refine VC.told ent_99 Tryz.func99 rfl Tryz.ntmps99 (by simp) rfl rfl fun hb => ?_
  clear hb
  refine walkGF (And.intro @JT.av_eq @cells_mk) ?_
  refine walkCF (And.intro @JT.av_eq @cells_mk) (hB) ?_
  refine walkGF (And.intro @JT.av_eq @cells_mk) ?_
  refine walkDF (And.intro @JT.av_eq @cells_mk) (hKy) ?_
  refine walkGF (And.intro @JT.av_eq @cells_mk) ?_
  refine VC.cond (by rfl) (by trivial) (fun hc => ?_) (fun hc => ?_)
  · have hVf : V = false := by
      rw [hV]
      cases b1 <;> cases b2 <;> simp_all
      omega
    rw [hVf]
    refine walkG ?_
    refine ⟨by first | exact .inr rfl | exact .inl rfl, ?_⟩; rw [Tryz.results99]; simp only [resOk, resV, go_sem, simprocAttr]
    exact .c _
  · have hb12 : b1 = true ∧ b2 = true ∧ (32 ≤ d → k ≠ 5 ∧ k ≠ 6) := by
      cases b1 <;> cases b2 <;> simp_all
      intro h32
      exact hc (by omega)
    obtain ⟨rfl, rfl, hk56⟩ := hb12
    have hx2 : ∀ x ∈ xs, Told Tryz.prog 99 [x.av, .c (.v (.int .i64 (z + 1)))] (.c (.v (.bool (jright (d + 1) x)))) := by
      intro x hxm
      rcases hx x hxm with h | h
      · exact h
      · obtain ⟨h5, h6⟩ := hk56 h
        rw [bare_kids hb1.symm h5 h6] at hxm
        simp at hxm
    have hVt : V = jrights (d + 1) xs := by
      rw [hV]
      by_cases h32 : 32 ≤ d
      · obtain ⟨h5, h6⟩ := hk56 h32
        simp [h5, h6]
      · simp [h32]
    have hF := cnfJ_told (g := 176) (fs := []) (cs := [.pp [.v (.int .i64 z)]]) rfl rfl xs (fun x => !jright (d + 1) x) fun x hxm => right1_told (by omega) (by omega) (hx2 x hxm)
    refine VC.skip ?_; refine SQ.normal ?_
    refine VC.frz [8] [(2, .ref 0 1 0 0), (3, .pp [.v (.int .i64 z)])] [(0, ⟨false, 36, 5, [(JT.mk k n s ks xs).cells.map .c]⟩)] 400 ?_ ?_
    · simp only [cells_mk, WeakF, used_is, sc_any, sc_c, sc_pp, sc_ref, sc_row, sc_agg, sc_fn, ScL, some_imp, List.forall_mem_map, go_sem, Int.reduceBEq, Int.reduceLE, Int.reduceLT, Int.reduceNeg, Nat.reduceAdd, Nat.reduceEqDiff, Nat.reduceLT, Nat.reduceLeDiff, Nat.reduceMul, Nat.reduceSub, reduceCtorEq, ↓reduceIte]
      exact ⟨⟨.same _, .ref (es := [.v (.int .i64 z)]) (by simp) rfl rfl rfl rfl⟩, .same _⟩
    refine walkGF (@cells_mk) ?_
    refine walkCF (@cells_mk) (hF) ?_
    refine walkG ?_
    refine ⟨by first | exact .inr rfl | exact .inl rfl, ?_⟩; rw [Tryz.results99]; simp only [resOk, resV, go_sem, simprocAttr]
    rw [hVt, ← jrights_any]
    exact .c _
def jR (t : JT) : Bool := jright 0 t
set_option maxRecDepth 100000 in
set_option maxHeartbeats 400000 in
theorem jRight_told (t : JT) (ht : t.sm 4294967296) : Told Tryz.prog 65 [t.av] (.c (.v (.bool (jR t)))) := by
  have h := right_told _ t (Nat.le_refl _) ht 0 0 (by omega) rfl
  refine VC.told ent_65 Tryz.func65 rfl Tryz.ntmps65 (by simp) (by simp [AV.pureB, AV.pureL, JT.av, pureL_c]) rfl fun hb => ?_
  clear hb
  refine walkGF (And.intro @JT.av_eq (And.intro @len_cells (And.intro @take_cells @take_cellsC))) ?_
  refine walkCF (And.intro @JT.av_eq (And.intro @len_cells (And.intro @take_cells (And.intro @take_cellsC @pureL_c)))) (h) ?_
  refine walkG ?_
  refine ⟨by first | exact .inr rfl | exact .inl rfl, ?_⟩; rw [Tryz.results65]; simp only [resOk, resV, go_sem, simprocAttr]
  exact .c _

theorem nodup_of {ks : List (List UInt8)} (h : (Lib.compact (srt ks)).length = ks.length) : ks.Nodup := by
  have hperm : (srt ks).Perm ks := List.mergeSort_perm ks _
  have hlen := srt_len ks
  have hsort : (srt ks).Pairwise fun a b => a ≤ b := by
    have := List.pairwise_mergeSort (le := fun x y : List UInt8 => decide (x ≤ y)) (fun a b c h1 h2 => by simp only [decide_eq_true_eq] at h1 h2 ⊢; exact List.le_trans h1 h2) (fun a b => by simp only [Bool.or_eq_true, decide_eq_true_eq]; exact List.le_total a b) ks
    exact this.imp fun h => by simpa using h
  generalize srt ks = L at h hperm hlen hsort
  refine hperm.nodup_iff.1 ?_
  have hk : ∀ j, j < L.length → Lib.keeps L.toArray j = true := by
    rw [← hlen] at h
    unfold Lib.compact Lib.compactUpTo at h
    rw [List.length_map] at h
    have h2 : ((List.range L.length).filter (Lib.keeps L.toArray)).length = (List.range L.length).length := by rw [h, List.length_range]
    intro j hj
    exact List.length_filter_eq_length_iff.1 h2 j (List.mem_range.2 hj)
  rw [List.nodup_iff_pairwise_ne, List.pairwise_iff_getElem]
  intro i j hi hj hij heq
  have h1 := List.pairwise_iff_getElem.1 hsort
  have hk1 := hk (i + 1) (by omega)
  have hle1 := h1 i (i + 1) hi (by omega) (by omega)
  have hle2 : L[i + 1]'(by omega) ≤ L[j] := by
    rcases Nat.lt_or_ge (i + 1) j with h2 | h2
    · exact h1 (i + 1) j (by omega) hj h2
    · have : i + 1 = j := by omega
      subst this
      exact List.le_refl _
  rw [← heq] at hle2
  have he := List.le_antisymm hle1 hle2
  unfold Lib.keeps at hk1
  have g1 : L.toArray[i + 1]! = L[i + 1]'(by omega) := by simp [show i + 1 < L.length by omega]
  have g2 : L.toArray[i + 1 - 1]! = L[i] := by simp [hi]
  rw [g1, g2, he] at hk1
  simp at hk1
theorem compact_nodup {ks : List (List UInt8)} (h : ks.Nodup) : (Lib.compact (srt ks)).length = ks.length := by
  have hperm : (srt ks).Perm ks := List.mergeSort_perm ks _
  have hlen := srt_len ks
  have hnd := hperm.nodup_iff.2 h
  generalize srt ks = L at hperm hlen hnd ⊢
  have hk : ∀ j, j < L.length → Lib.keeps L.toArray j = true := by
    intro j hj
    unfold Lib.keeps
    by_cases h0 : j = 0
    · simp [h0]
    · have g1 : L.toArray[j]! = L[j] := by simp [hj]
      have g2 : L.toArray[j - 1]! = L[j - 1]'(by omega) := by simp [show j - 1 < L.length by omega]
      rw [g1, g2]
      have := List.pairwise_iff_getElem.1 (List.nodup_iff_pairwise_ne.1 hnd) (j - 1) j (by omega) hj (by omega)
      exact decide_eq_true (.inr fun e => this e.symm)
  unfold Lib.compact Lib.compactUpTo
  rw [List.length_map, List.length_filter_eq_length_iff.2 fun j hj => hk j (List.mem_range.1 hj), List.length_range, hlen]

def rfail : JT → Bool
  | .mk k n s ks xs => decide (k < 1) || decide (k > 6) || (decide (k ≠ 2) && decide (k ≠ 3) && decide (n ≠ 0)) || (decide (k = 2) && decide (n ≠ 0) && decide (n ≠ 1)) || (decide (k ≠ 4) && !s.isEmpty) || !isRight s
      || (decide (k < 5) && !xs.isEmpty) || (decide (k ≠ 6) && !ks.isEmpty) || (decide (k = 6) && decide (ks.length ≠ xs.length))
mutual
def rshape : JT → Bool
  | .mk k n s ks xs => !rfail (.mk k n s ks xs) && (ks.all isRight && decide ks.Nodup) && rshapes xs
def rshapes : List JT → Bool
  | [] => true
  | x :: xs => rshape x && rshapes xs
end
theorem right_empty : isRight [] = true := by decide +kernel
theorem deeps_le (m : Nat) : ∀ (xs : List JT) (n : Nat), tdeeps n xs ≤ m ↔ n ≤ m ∧ ∀ x ∈ xs, 1 + tdeep x ≤ m
  | [], n => by simp [tdeeps]
  | x :: xs, n => by
    rw [tdeeps, deeps_le m xs]
    simp only [List.mem_cons, forall_eq_or_imp]
    constructor
    · rintro ⟨h1, h2⟩; exact ⟨by omega, by omega, h2⟩
    · rintro ⟨h1, h2, h3⟩; exact ⟨by omega, h3⟩
theorem keyed_iff {k n : Int} {s : List UInt8} {ks : List (List UInt8)} {xs : List JT} : jkeyed (.mk k n s ks xs) = ((if k ≠ 6 then ks.isEmpty else decide (ks.length = xs.length)) && (ks.all isRight && decide ks.Nodup)) := by
  rw [jkeyed]
  by_cases h6 : k = 6
  · rw [if_neg (by simp [h6]), if_neg (by simp [h6])]
    have : decide ((Lib.compact (srt ks)).length = ks.length) = decide ks.Nodup := by
      rw [Bool.eq_iff_iff]
      simp only [decide_eq_true_eq]
      exact ⟨nodup_of, compact_nodup⟩
    rw [this, Bool.and_comm (ks.all isRight)]
  · rw [if_pos h6, if_pos h6]
    cases ks with
    | nil => simp
    | cons y ks => simp
theorem bare_iff (k n : Int) (s : List UInt8) (ks : List (List UInt8)) (xs : List JT) : (jbare (.mk k n s ks xs) && (if k ≠ 6 then ks.isEmpty else decide (ks.length = xs.length))) = !rfail (.mk k n s ks xs) := by
  rw [Bool.eq_iff_iff]
  unfold rfail
  rw [jbare]
  have hr := right_empty
  by_cases h1 : k = 1
  · subst h1; cases s <;> cases xs <;> cases ks <;> simp [hr]
  by_cases h2 : k = 2
  · subst h2; cases s <;> cases xs <;> cases ks <;> simp [hr]
    all_goals omega
  by_cases h3 : k = 3
  · subst h3; cases s <;> cases xs <;> cases ks <;> simp [hr]
  by_cases h4 : k = 4
  · subst h4; cases s <;> cases xs <;> cases ks <;> simp [hr]
  by_cases h5 : k = 5
  · subst h5; cases s <;> cases xs <;> cases ks <;> simp [hr]
  by_cases h6 : k = 6
  · subst h6; cases s <;> cases xs <;> cases ks <;> simp [hr]
  · have : k < 1 ∨ k > 6 := by omega
    simp [h1, h2, h3, h4, h5, h6, this]
    omega
mutual
theorem right_shape (d : Nat) (hd : d ≤ 32) : ∀ t : JT, jright d t = (decide (d + tdeep t ≤ 32) && rshape t)
  | .mk k n s ks xs => by
    rw [jright, rshape, keyed_iff, ← bare_iff, tdeep]
    by_cases hb : jbare (.mk k n s ks xs) = true
    · by_cases h56 : k = 5 ∨ k = 6
      · rw [if_pos h56]
        by_cases h32 : d = 32
        · subst h32
          have := (deeps_le 0 xs 1)
          have h1 : ¬ 32 + tdeeps 1 xs ≤ 32 := by
            intro h
            have := (deeps_le 0 xs 1).1 (by omega)
            omega
          rw [Bool.eq_iff_iff]
          simp [h1]
          omega
        · rw [rights_shapes (d + 1) (by omega) xs]
          have h2 : decide (d + tdeeps 1 xs ≤ 32) = (xs.all fun x => decide (d + 1 + tdeep x ≤ 32)) := by
            rw [Bool.eq_iff_iff]
            simp only [decide_eq_true_eq, List.all_eq_true]
            have := deeps_le (32 - d) xs 1
            constructor
            · intro h x hx
              have := (this.1 (by omega)).2 x hx
              omega
            · intro h
              have := this.2 ⟨by omega, fun x hx => by have := h x hx; omega⟩
              omega
          have h3 : decide (32 ≤ d) = false := by simp; omega
          rw [h2, hb, h3]
          simp only [Bool.false_and, Bool.not_false, Bool.and_true, Bool.true_and]
          generalize (xs.all fun x => decide (d + 1 + tdeep x ≤ 32)) = A
          generalize ((if k ≠ 6 then ks.isEmpty else decide (ks.length = xs.length)) && (ks.all isRight && decide ks.Nodup)) = Z
          cases A <;> cases Z <;> simp
      · rw [if_neg h56, bare_kids hb (fun h => h56 (.inl h)) (fun h => h56 (.inr h))]
        have h5 : decide (k = 5) = false := by simp; exact fun h => h56 (.inl h)
        have h6 : decide (k = 6) = false := by simp; exact fun h => h56 (.inr h)
        rw [h5, h6]
        simp [jrights, rshapes, hd, Bool.and_assoc]
    · simp [hb]
theorem rights_shapes (d : Nat) (hd : d ≤ 32) : ∀ xs : List JT, jrights d xs = ((xs.all fun x => decide (d + tdeep x ≤ 32)) && rshapes xs)
  | [] => rfl
  | x :: xs => by
    rw [jrights, rshapes, right_shape d hd x, rights_shapes d hd xs, List.all_cons]
    cases decide (d + tdeep x ≤ 32) <;> cases rshape x <;> simp
end

theorem taken_next {α : Type} [DecidableEq α] {ks ls : List α} {i : Nat} {x y : α} (hx : ks[i]? = some x) (hy : ls[i]? = some y) (ht : ks.take i = ls.take i) : ks.take (i + 1) = ls.take (i + 1) ↔ x = y := by
  rw [List.take_add_one, List.take_add_one, hx, hy, ht]
  simp
set_option maxRecDepth 100000 in
set_option maxHeartbeats 400000 in
theorem sequal_told (ks ls : List (List UInt8)) : Told Tryz.prog 61 [.c (.sl 1 (ks.map sPV)), .c (.sl 1 (ls.map sPV))] (.c (.v (.bool (ks == ls)))) := by
  refine VC.told ent_61 Tryz.func61 rfl Tryz.ntmps61 (by simp) rfl rfl fun hb => ?_
  simp only [abd_c, pbd_sl, List.mem_cons, List.not_mem_nil, or_false, forall_eq_or_imp, forall_eq, List.length_map] at hb
  have h1 := hb.1.1
  have h2 := hb.2.1
  clear hb
  refine walkG ?_
  refine VC.cond (by rfl) (by trivial) (fun hc => ?_) (fun hc => ?_)
  · have hne : (ks == ls) = false := by
      rw [beq_eq_false_iff_ne]
      intro e
      subst e
      simp at hc
    refine walkG ?_
    refine ⟨.inr rfl, ?_⟩
    rw [Tryz.results61, hne]
    simp only [resOk, resV, go_sem, simprocAttr]
    exact .c _
  · have hlen : ks.length = ls.length := by
      simp at hc
      omega
    refine walkG ?_
    refine VC.loop (ι := {i : Nat // i ≤ ks.length ∧ ks.take i = ls.take i}) (fun i => [(0, .c (.sl 1 (ks.map sPV))), (1, .c (.sl 1 (ls.map sPV))), (12, .c (.v (.int .i64 ks.length))), (13, .c (.v (.int .i64 i.1)))]) (fun _ => []) 0 (fun i => ks.length - i.1) ⟨0, Nat.zero_le _, rfl⟩ ?_ ?_
    · simp only [Weak, eq_self, used_is, sc_any, sc_c, sc_pp, sc_ref, sc_row, sc_agg, sc_fn, ScL, some_imp, List.forall_mem_map, go_sem, Int.reduceBEq, Int.reduceLE, Int.reduceLT, Int.reduceNeg, Nat.reduceAdd, Nat.reduceEqDiff, Nat.reduceLT, Nat.reduceLeDiff, Nat.reduceMul, Nat.reduceSub, reduceCtorEq, ↓reduceIte]
      all_goals rfl
    rintro ⟨i, hi, ht⟩
    refine walkG ?_
    refine VC.cond (by rfl) (by trivial) (fun hc => ?_) (fun hc => ?_)
    · simp only [decide_eq_true_eq] at hc
      obtain ⟨x, hx⟩ : ∃ x, ks[i]? = some x := ⟨ks[i], List.getElem?_eq_getElem (by omega)⟩
      obtain ⟨y, hy⟩ : ∃ y, ls[i]? = some y := ⟨ls[i], List.getElem?_eq_getElem (by omega)⟩
      have hw : IntKind.i64.wrap ((i : Int) + 1) = (i : Int) + 1 := wrap64_id (by omega) (by omega)
      have htn := taken_next hx hy ht
      (repeat (first | refine pass ?_ | refine VC.region (by rfl) (by rfl) ?_ | (refine AO.step fun K hK => ?_; simp only [List.getElem?_map, hx, hy, sPV, str_toList, go_sem, Int.reduceBEq, Int.reduceLE, Int.reduceLT, Int.reduceNeg, Nat.reduceAdd, Nat.reduceEqDiff, Nat.reduceLT, Nat.reduceLeDiff, Nat.reduceMul, Nat.reduceSub, reduceCtorEq, ↓reduceIte]; (first | refine gsel_skip ?_ | refine gsel_go ?_ | skip); (first | refine hK _ _ _ ?_ | refine ⟨by first | omega | exact ⟨_, rfl, rfl⟩ | exact fun _ => ⟨_, rfl, rfl⟩ | (intro h; simp only [List.getElem?_map, hx, hy, sPV, str_toList, h, true_and]; omega) | (clear hK; intro h; simp_all <;> omega), hK _ _ _ ?_⟩); clear hK K) | refine VC.draw mixP (by rfl) (by rfl) ?_ | refine ⟨okd_of (by kernel_rfl), ?_⟩ | refine BQ.other (by decide) ?_ | refine VC.seq ?_ | refine AO.nil ?_ | refine VC.block ?_))
      refine VC.cond (by rfl) (by trivial) (fun hc2 => ?_) (fun hc2 => ?_)
      · have hne : (ks == ls) = false := by
          rw [beq_eq_false_iff_ne]
          intro e
          subst e
          rw [hx] at hy
          obtain rfl := Option.some.inj hy
          simp at hc2
        refine walkG ?_
        refine ⟨.inr rfl, ?_⟩
        rw [Tryz.results61, hne]
        simp only [resOk, resV, go_sem, simprocAttr]
        exact .c _
      · have hxy : x = y := by simpa using hc2
        refine walkGF (hw) ?_
        refine .next ⟨i + 1, by omega, htn.2 hxy⟩ ?_ (by simp only []; omega)
        simp only [Weak, eq_self, used_is, sc_any, sc_c, sc_pp, sc_ref, sc_row, sc_agg, sc_fn, ScL, some_imp, List.forall_mem_map, go_sem, Int.reduceBEq, Int.reduceLE, Int.reduceLT, Int.reduceNeg, Nat.reduceAdd, Nat.reduceEqDiff, Nat.reduceLT, Nat.reduceLeDiff, Nat.reduceMul, Nat.reduceSub, reduceCtorEq, ↓reduceIte]
        exact cI (by omega)
    · simp only [decide_eq_false_iff_not] at hc
      obtain rfl : i = ks.length := by omega
      have heq : (ks == ls) = true := by
        rw [List.take_length, hlen, List.take_length] at ht
        simp [ht]
      refine walkG ?_
      refine ⟨.inr rfl, ?_⟩
      rw [Tryz.results61, heq]
      simp only [resOk, resV, go_sem, simprocAttr]
      exact .c _
noncomputable def jeq (a b : JT) : Bool := @decide (a = b) (Classical.propDecidable _)
theorem jeq_iff (a b : JT) : jeq a b = true ↔ a = b := by simp [jeq]
theorem jeq_self (a : JT) : jeq a a = true := (jeq_iff a a).2 rfl
noncomputable def jeqL (a b : List JT) : Bool := @decide (a = b) (Classical.propDecidable _)
theorem jeqL_iff (a b : List JT) : jeqL a b = true ↔ a = b := by simp [jeqL]
theorem jeqL_false (a b : List JT) : jeqL a b = false ↔ a ≠ b := by simp [jeqL]
theorem jeq_mk (k n k' n' : Int) (s s' : List UInt8) (ks ks' : List (List UInt8)) (xs xs' : List JT) : jeq (.mk k n s ks xs) (.mk k' n' s' ks' xs') = ((((k == k' && n == n') && s == s') && ks == ks') && jeqL xs xs') := by
  rw [Bool.eq_iff_iff]
  simp only [jeq_iff, Bool.and_eq_true, beq_iff_eq, jeqL_iff, JT.mk.injEq]
  constructor
  · rintro ⟨rfl, rfl, rfl, rfl, rfl⟩; simp
  · rintro ⟨⟨⟨⟨rfl, rfl⟩, rfl⟩, rfl⟩, rfl⟩; simp
set_option maxRecDepth 100000 in
set_option maxHeartbeats 400000 in
theorem eqfunc_told (xs ys : List JT) (hcall : ∀ x ∈ xs, ∀ y, Told Tryz.prog 93 [x.av, y.av] (.c (.v (.bool (jeq x y))))) :
    Told Tryz.prog 172 [.c (.sl 5 (xs.map JT.cells)), .c (.sl 5 (ys.map JT.cells)), .fn (.func 93) [] []] (.c (.v (.bool (jeqL xs ys)))) := by
  refine VC.told ent_172 Tryz.func172 rfl Tryz.ntmps172 (by simp) rfl rfl fun hb => ?_
  simp only [abd_c, pbd_sl, List.mem_cons, List.not_mem_nil, or_false, forall_eq_or_imp, forall_eq, List.length_map] at hb
  have h1 := hb.1.1
  have h2 := hb.2.1.1
  clear hb
  refine walkG ?_
  refine VC.cond (by rfl) (by trivial) (fun hc => ?_) (fun hc => ?_)
  · have hne : jeqL xs ys = false := by
      rw [jeqL_false]
      intro e
      subst e
      simp at hc
    refine walkG ?_
    refine ⟨.inr rfl, ?_⟩
    rw [Tryz.results172, hne]
    simp only [resOk, resV, go_sem, simprocAttr]
    exact .c _
  · have hlen : xs.length = ys.length := by
      simp at hc
      omega
    refine walkG ?_
    refine VC.loop (ι := {i : Nat // i ≤ xs.length ∧ xs.take i = ys.take i}) (fun i => [(1, .c (.sl 5 (ys.map JT.cells))), (2, .fn (.func 93) [] []), (15, .c (.sl 5 (xs.map JT.cells))), (16, .c (.v (.int .i64 xs.length))), (17, .c (.v (.int .i64 i.1)))]) (fun _ => []) 0 (fun i => xs.length - i.1) ⟨0, Nat.zero_le _, rfl⟩ ?_ ?_
    · simp only [Weak, eq_self, used_is, sc_any, sc_c, sc_pp, sc_ref, sc_row, sc_agg, sc_fn, ScL, some_imp, List.forall_mem_map, go_sem, Int.reduceBEq, Int.reduceLE, Int.reduceLT, Int.reduceNeg, Nat.reduceAdd, Nat.reduceEqDiff, Nat.reduceLT, Nat.reduceLeDiff, Nat.reduceMul, Nat.reduceSub, reduceCtorEq, ↓reduceIte]
      all_goals rfl
    rintro ⟨i, hi, ht⟩
    refine walkG ?_
    refine VC.cond (by rfl) (by trivial) (fun hc => ?_) (fun hc => ?_)
    · simp only [decide_eq_true_eq] at hc
      obtain ⟨x, hx⟩ : ∃ x, xs[i]? = some x := ⟨xs[i], List.getElem?_eq_getElem (by omega)⟩
      obtain ⟨y, hy⟩ : ∃ y, ys[i]? = some y := ⟨ys[i], List.getElem?_eq_getElem (by omega)⟩
      have hw : IntKind.i64.wrap ((i : Int) + 1) = (i : Int) + 1 := wrap64_id (by omega) (by omega)
      have hcl := hcall x (List.mem_of_getElem? hx) y
      (repeat (first | refine pass ?_ | refine VC.region (by rfl) (by rfl) ?_ | (refine AO.step fun K hK => ?_; simp only [List.getElem?_map, hx, hy, len_cells, take_cells, take_cellsC, go_sem, Int.reduceBEq, Int.reduceLE, Int.reduceLT, Int.reduceNeg, Nat.reduceAdd, Nat.reduceEqDiff, Nat.reduceLT, Nat.reduceLeDiff, Nat.reduceMul, Nat.reduceSub, reduceCtorEq, ↓reduceIte]; (first | refine gsel_skip ?_ | refine gsel_go ?_ | skip); (first | refine hK _ _ _ ?_ | refine ⟨by first | omega | exact ⟨_, rfl, rfl⟩ | exact fun _ => ⟨_, rfl, rfl⟩ | (intro h; simp only [List.getElem?_map, hx, hy, len_cells, take_cells, take_cellsC, h, true_and]; omega) | (clear hK; intro h; simp_all <;> omega), hK _ _ _ ?_⟩); clear hK K) | refine VC.draw mixP (by rfl) (by rfl) ?_ | refine ⟨okd_of (by kernel_rfl), ?_⟩ | refine BQ.other (by decide) ?_ | refine VC.seq ?_ | refine AO.nil ?_ | refine VC.block ?_))
      (refine AO.step fun K hK => ?_; simp only [go_sem, Int.reduceBEq, Int.reduceLE, Int.reduceLT, Int.reduceNeg, Nat.reduceAdd, Nat.reduceEqDiff, Nat.reduceLT, Nat.reduceLeDiff, Nat.reduceMul, Nat.reduceSub, reduceCtorEq, ↓reduceIte, pureL_c]; (first | refine gsel_go ?_ | skip))
      refine .inl ⟨_, hcl, hK _ _ _ ?_⟩
      clear hK K
      refine walkG ?_
      refine VC.cond (by rfl) (by trivial) (fun hc2 => ?_) (fun hc2 => ?_)
      · have hne : jeqL xs ys = false := by
          rw [jeqL_false]
          intro e
          subst e
          rw [hx] at hy
          obtain rfl := Option.some.inj hy
          rw [jeq_self] at hc2
          simp at hc2
        refine walkG ?_
        refine ⟨.inr rfl, ?_⟩
        rw [Tryz.results172, hne]
        simp only [resOk, resV, go_sem, simprocAttr]
        exact .c _
      · have hxy : x = y := by
          rw [← jeq_iff]
          simpa using hc2
        refine walkGF (hw) ?_
        refine .next ⟨i + 1, by omega, ?_⟩ ?_ (by simp only []; omega)
        · rw [List.take_add_one, List.take_add_one, hx, hy, ht, hxy]
        simp only [Weak, eq_self, used_is, sc_any, sc_c, sc_pp, sc_ref, sc_row, sc_agg, sc_fn, ScL, some_imp, List.forall_mem_map, go_sem, Int.reduceBEq, Int.reduceLE, Int.reduceLT, Int.reduceNeg, Nat.reduceAdd, Nat.reduceEqDiff, Nat.reduceLT, Nat.reduceLeDiff, Nat.reduceMul, Nat.reduceSub, reduceCtorEq, ↓reduceIte]
        exact cI (by omega)
    · simp only [decide_eq_false_iff_not] at hc
      obtain rfl : i = xs.length := by omega
      have heq : jeqL xs ys = true := by
        rw [List.take_length, hlen, List.take_length] at ht
        rw [jeqL_iff, ht]
      refine walkG ?_
      refine ⟨.inr rfl, ?_⟩
      rw [Tryz.results172, heq]
      simp only [resOk, resV, go_sem, simprocAttr]
      exact .c _
set_option maxRecDepth 100000 in
set_option maxHeartbeats 400000 in
theorem same_told : ∀ (m : Nat) (a b : JT), SizeOf.sizeOf a ≤ m → Told Tryz.prog 93 [a.av, b.av] (.c (.v (.bool (jeq a b)))) := by
  intro m
  induction m with
  | zero => intro a b ha; cases a; simp at ha
  | succ m ih =>
  intro a b ha
  cases a with
  | mk k n s ks xs =>
  cases b with
  | mk k' n' s' ks' xs' =>
  refine VC.told ent_93 Tryz.func93 rfl Tryz.ntmps93 (by simp) rfl rfl fun hb => ?_
  clear hb
  simp only [JT.av, cells_mk, List.map_cons, List.map_nil]
  have hE := eqfunc_told xs xs' fun x hx y => ih x y (by
    have h1 := List.sizeOf_lt_of_mem hx
    simp at ha
    omega)
  refine walkGF (@str_toList) ?_
  (refine AO.step fun K hK => ?_; simp only [go_sem, Int.reduceBEq, Int.reduceLE, Int.reduceLT, Int.reduceNeg, Nat.reduceAdd, Nat.reduceEqDiff, Nat.reduceLT, Nat.reduceLeDiff, Nat.reduceMul, Nat.reduceSub, reduceCtorEq, ↓reduceIte]; (first | refine gsel_go ?_ | skip))
  refine .inl ⟨_, fun _ => sequal_told ks ks', hK _ _ _ ?_⟩
  clear hK K
  refine walkG ?_
  (refine AO.step fun K hK => ?_; simp only [go_sem, Int.reduceBEq, Int.reduceLE, Int.reduceLT, Int.reduceNeg, Nat.reduceAdd, Nat.reduceEqDiff, Nat.reduceLT, Nat.reduceLeDiff, Nat.reduceMul, Nat.reduceSub, reduceCtorEq, ↓reduceIte]; (first | refine gsel_go ?_ | skip))
  refine .inl ⟨_, fun _ => hE, hK _ _ _ ?_⟩
  clear hK K
  refine walkG ?_
  refine ⟨.inr rfl, ?_⟩
  rw [Tryz.results93]
  simp only [resOk, resV, go_sem, simprocAttr]
  rw [jeq_mk]
  exact .c _

/-! Names. -/
def isLet (c : UInt8) : Bool := (decide (97 ≤ c.toNat) && decide (c.toNat ≤ 122)) || ((decide (65 ≤ c.toNat) && decide (c.toNat ≤ 90)) || decide (c.toNat = 95))
def isDig (c : UInt8) : Bool := decide (48 ≤ c.toNat) && decide (c.toNat ≤ 57)
def simp1 : List UInt8 → Bool
  | [] => false
  | c :: cs => isLet c && cs.all fun c => isLet c || isDig c
def simpleM (s : List UInt8) : Bool := decide (s.length ≤ 100) && simp1 s
def fullF : Nat → List UInt8 → Bool
  | 0, _ => false
  | n + 1, s => simp1 (s.takeWhile (· != 46)) && (match s.dropWhile (· != 46) with | [] => true | _ :: r => fullF n r)
def fullM (s : List UInt8) : Bool := decide (s.length ≤ 100) && fullF (s.length + 1) s
theorem fullF_fuel : ∀ (n m : Nat) (s : List UInt8), s.length < n → s.length < m → fullF n s = fullF m s
  | 0, _, _, h, _ => by omega
  | _, 0, _, _, h => by omega
  | n + 1, m + 1, s, h1, h2 => by
    rw [fullF, fullF]
    congr 1
    have hd : (s.dropWhile (· != 46)).length ≤ s.length := (List.dropWhile_sublist _).length_le
    split
    · rfl
    · rename_i x r hr
      rw [hr] at hd
      simp at hd
      exact fullF_fuel n m r (by omega) (by omega)
def kwords : List (List UInt8) := [[], [110, 117, 108, 108], [98, 111, 111, 108, 101, 97, 110], [105, 110, 116], [108, 111, 110, 103], [102, 108, 111, 97, 116], [100, 111, 117, 98, 108, 101], [98, 121, 116, 101, 115], [115, 116, 114, 105, 110, 103], [114, 101, 99, 111, 114, 100], [101, 110, 117, 109], [97, 114, 114, 97, 121], [109, 97, 112], [], [102, 105, 120, 101, 100]]
def kindM (s : List UInt8) : Nat := if s = [] then 0 else match kwords.findIdx? (· == s) with | some i => i | none => 0
/-! Schemas that may be. -/
def diffM (rule : List UInt8 → Bool) (l : List (List UInt8)) : Bool := l.all rule && decide l.Nodup
def allM (rule : List UInt8 → Bool) (l : List (List UInt8)) : Bool := decide (l.length ≤ 40) && l.all rule
def jzero : JT := .mk 0 0 [] [] []
def bareM (n : NT) : Bool :=
  (namedK n.kind || (n.name.isEmpty && n.aliases.isEmpty)) && ((n.kind == 9 || n.fields.isEmpty) && ((n.kind == 10 || (n.symbols.isEmpty && (!n.has && n.dflt.isEmpty))) && ((n.kind == 14 || n.size == 0) && ((n.kind == 11 || n.kind == 12 || n.items == 0) && (n.kind == 13 || n.branches.isEmpty)))))
noncomputable def fieldM (f : FT) : Bool := allM simpleM f.aliases && (if f.has = true then jR f.dflt else jeq f.dflt jzero)
noncomputable def fieldsM (l : List FT) : Bool := l.all fieldM && (decide (l.length ≤ 40) && diffM simpleM (l.map (·.name)))
def branchM (ns : List NT) (l : List Int) (k : Int) : Bool := kindAt ns k.toNat != 13 && !l.any fun m => m == k || (!namedK (kindAt ns k.toNat) && kindAt ns m.toNat == kindAt ns k.toNat)
def branchesM (ns : List NT) : List Int → List Int → Bool
  | _, [] => true
  | l, k :: ks => branchM ns l k && branchesM ns (l ++ [k]) ks
def unionM (ns : List NT) (l : List Int) : Bool := decide (1 ≤ l.length) && (decide (l.length ≤ 10) && branchesM ns [] l)
noncomputable def nodeM (ns : List NT) (n : NT) : Bool :=
  (decide (1 ≤ n.kind) && (decide (n.kind ≤ 14) && bareM n)) && ((!namedK n.kind || (fullM n.name && (kindM n.name == 0 && allM fullM n.aliases))) && (
    if n.kind = 9 then fieldsM n.fields else if n.kind = 10 then ((n.has == n.symbols.contains n.dflt) && (n.has || n.dflt.isEmpty)) && (decide (1 ≤ n.symbols.length) && (decide (n.symbols.length ≤ 40) && diffM simpleM n.symbols))
    else if n.kind = 14 then decide (0 ≤ n.size) && decide (n.size ≤ 1000) else if n.kind = 13 then unionM ns n.branches else true))
def weighK (f : Nat → List Int → Int × List Int) : List FT → Int → List Int → Int × List Int
  | [], n, kn => (n, kn)
  | x :: xs, n, kn => weighK f xs (min (n + (f x.type.toNat kn).1) 1001) (f x.type.toNat kn).2
def knAt (kn : List Int) (k : Nat) : Int := match kn[k]? with | some n => n | none => 0
def fieldsAt (ns : List NT) (k : Nat) : List FT := match ns[k]? with | some n => (if n.kind = 9 then n.fields else []) | none => []
def weighM (ns : List NT) : Nat → Nat → List Int → Int × List Int
  | 0, _, kn => (1001, kn)
  | d + 1, p, kn => if knAt kn p < 0 then (1001, kn) else if 0 < knAt kn p then (knAt kn p, kn) else
      ((weighK (weighM ns d) (fieldsAt ns p) 1 (kn.set p (-1))).1, (weighK (weighM ns d) (fieldsAt ns p) 1 (kn.set p (-1))).2.set p (weighK (weighM ns d) (fieldsAt ns p) 1 (kn.set p (-1))).1)
noncomputable def rightL (ns : List NT) : List NT → Nat → List Int → Bool
  | [], _, _ => true
  | n :: r, p, kn => nodeM ns n && (decide ((weighM ns (ns.length + 1) p kn).1 ≤ 1000) && rightL ns r (p + 1) (weighM ns (ns.length + 1) p kn).2)
def namesM (ns : List NT) : List (List UInt8) := (ns.filter fun n => namedK n.kind).map (·.name)
noncomputable def rightM (s : ST) : Bool := orderedM s && (rightL s.nodes s.nodes 0 (List.replicate s.nodes.length 0) && diffM fullM (namesM s.nodes))
theorem right_ordered {s : ST} (h : rightM s = true) : orderedM s = true := by
  unfold rightM at h
  simp only [Bool.and_eq_true] at h
  exact h.1

set_option maxRecDepth 100000 in
set_option maxHeartbeats 800000 in
theorem each_told (s : ST) (xs : List VT) (hl : xs.length ≤ 1000000) (f : Nat → Int) (g : FuncId) (c : List PV) (hg : ∀ i, i < xs.length → Told Tryz.prog g [.c (.v (.int .i64 (i : Int))), .pp c] (.c (.v (.int .i64 (f i)))))
    (hx : ∀ (i : Nat) (x : VT), xs[i]? = some x → Told Tryz.prog 82 [s.av, .c (.v (.int .i64 (f i))), x.av] (.c (.v (.bool (isM s.nodes (f i) x))))) :
    Told Tryz.prog 158 [s.av, .c (.sl 6 (xs.map VT.cells)), .fn (.func g) [] [.pp c]] (.c (.v (.bool (eachM s.nodes f xs && decide (xs.length ≤ 300))))) := by
  obtain ⟨V, hV⟩ : ∃ V, V = (eachM s.nodes f xs && decide (xs.length ≤ 300)) := ⟨_, rfl⟩
  rw [← hV]
  simp only [ST.av_eq, scells_mk, List.map_cons, List.map_nil] at hx
  rw [ST.av_eq, scells_mk]
  refine VC.told ent_158 Tryz.func158 rfl Tryz.ntmps158 (by simp) (by first | rfl | simp [AV.pureB, AV.pureL, pureL_c, pures]) (by first | rfl | simp [AV.pureB, AV.pureL, pureL_c, pures]) fun hb => ?_
  clear hb
  refine walkG ?_
  refine VC.loop (ι := {i : Nat // i ≤ xs.length ∧ ∀ (j : Nat) (x : VT), j < i → xs[j]? = some x → isM s.nodes (f j) x = true}) (fun q => [(1, .c (.sl 6 (xs.map VT.cells))), (2, .fn (.func g) [] [.pp c]), (3, .ref 0 1 0 0), (9, .c (.sl 6 (xs.map VT.cells))), (10, .c (.v (.int .i64 (xs.length : Int)))), (11, .c (.v (.int .i64 (q.1 : Int))))])
    (fun _ => [(0, ⟨false, 24, 2, [[.c (.sl 10 (s.nodes.map NT.cells)), .c (.v (.int .i64 s.root))]]⟩)]) 800 (fun q => xs.length - q.1) ⟨0, Nat.zero_le _, by intro j x h; omega⟩ ?_ ?_
  · simp only [Weak, eq_self, used_is, sc_any, sc_c, sc_pp, sc_ref, sc_row, sc_agg, sc_fn, ScL, some_imp, List.forall_mem_map, go_sem, Int.reduceBEq, Int.reduceLE, Int.reduceLT, Int.reduceNeg, Nat.reduceAdd, Nat.reduceEqDiff, Nat.reduceLT, Nat.reduceLeDiff, Nat.reduceMul, Nat.reduceSub, reduceCtorEq, ↓reduceIte]
  rintro ⟨i, hi, ht⟩
  simp only []
  refine walkG ?_
  refine VC.cond (by rfl) (by trivial) (fun hc => ?_) (fun hc => ?_)
  · have hlt : i < xs.length := by simp at hc; omega
    obtain ⟨x, hxi⟩ : ∃ x, xs[i]? = some x := ⟨xs[i], List.getElem?_eq_getElem hlt⟩
    have hw : IntKind.i64.wrap ((i : Int) + 1) = (i : Int) + 1 := wrap64_id (by omega) (by omega)
    have hG := hg i hlt
    have hX := hx i x hxi
    clear hg hx
    have hxp : (xs.map VT.cells)[i]? = some x.cells := by rw [List.getElem?_map, hxi]; rfl
    rw [VT.av_eq] at hX
    have hB := fun h => eachM_false (ns := s.nodes) (f := f) hxi h
    obtain ⟨B, hBt⟩ : ∃ B, B = isM s.nodes (f i) x := ⟨_, rfl⟩
    rw [← hBt] at hX hB
    replace hBt := hBt.symm
    refine walkGF (And.intro hxp (And.intro @len_vcells (And.intro @take_vcells @take_vcellsC))) ?_
    refine walkC (hG) ?_
    refine walkGF (And.intro hxp (And.intro @len_vcells (And.intro @take_vcells @take_vcellsC))) ?_
    refine walkCF (@pureL_c) (hX) ?_
    refine walkG ?_
    refine VC.cond (by rfl) (by trivial) (fun hc2 => ?_) (fun hc2 => ?_)
    · have hf : B = false := by simpa using hc2
      obtain rfl : V = false := by rw [hV, hB hf]; rfl
      refine walkG ?_
      refine ⟨by first | exact .inr rfl | exact .inl rfl, ?_⟩; rw [Tryz.results158]; simp only [resOk, resV, go_sem, simprocAttr]
      exact .c _
    · have hf : B = true := by simpa using hc2
      refine walkGF (hw) ?_
      refine .next ⟨i + 1, by omega, ?_⟩ ?_ (by simp only []; omega)
      · intro j y hj hy
        by_cases hji : j < i
        · exact ht j y hji hy
        · obtain rfl : j = i := by omega
          rw [hxi] at hy
          obtain rfl := Option.some.inj hy
          exact hBt.trans hf
      simp only [Weak, eq_self, used_is, sc_any, sc_c, sc_pp, sc_ref, sc_row, sc_agg, sc_fn, ScL, some_imp, List.forall_mem_map, go_sem, Int.reduceBEq, Int.reduceLE, Int.reduceLT, Int.reduceNeg, Nat.reduceAdd, Nat.reduceEqDiff, Nat.reduceLT, Nat.reduceLeDiff, Nat.reduceMul, Nat.reduceSub, reduceCtorEq, ↓reduceIte]
      exact cI (by omega)
  · have hie : i = xs.length := by simp at hc; omega
    have hall : eachM s.nodes f xs = true := (eachM_iff _ _ _).2 fun j x hj => ht j x (by have := (List.getElem?_eq_some_iff.1 hj).1; omega) hj
    have hv : V = decide ((xs.length : Int) ≤ 300) := by
      rw [hV, hall, Bool.true_and]
      exact decide_eq_decide.2 (by omega)
    clear hV
    refine walkG ?_
    refine ⟨by first | exact .inr rfl | exact .inl rfl, ?_⟩; rw [Tryz.results158]; simp only [resOk, resV, go_sem, simprocAttr]
    rw [hv]
    exact .c _
set_option maxRecDepth 100000 in
set_option maxHeartbeats 400000 in
theorem conf1_told (nd : NT) (i : Nat) (hi : i < nd.fields.length) : Told Tryz.prog 159 [.c (.v (.int .i64 (i : Int))), .pp nd.cells] (.c (.v (.int .i64 (typeAt nd i)))) := by
  obtain ⟨f, hf⟩ : ∃ f, nd.fields[i]? = some f := ⟨nd.fields[i], List.getElem?_eq_getElem hi⟩
  have hfp : (nd.fields.map FT.cells)[i]? = some f.cells := by rw [List.getElem?_map, hf]; rfl
  rw [show typeAt nd i = f.type by rw [typeAt, hf], ncells_mk]
  refine VC.told ent_159 Tryz.func159 rfl Tryz.ntmps159 (by simp) (by first | rfl | simp [AV.pureB, AV.pureL, pureL_c, pures]) (by first | rfl | simp [AV.pureB, AV.pureL, pureL_c, pures]) fun hb => ?_
  clear hb
  refine walkGF (And.intro hfp @fcells_mk) ?_
  refine ⟨by first | exact .inr rfl | exact .inl rfl, ?_⟩; rw [Tryz.results159]; simp only [resOk, resV, go_sem, simprocAttr]
  exact .c _
set_option maxRecDepth 100000 in
set_option maxHeartbeats 400000 in
theorem conf2_told (nd : NT) (i : Int) : Told Tryz.prog 161 [.c (.v (.int .i64 i)), .pp nd.cells] (.c (.v (.int .i64 nd.items))) := by
  rw [ncells_mk]
  refine VC.told ent_161 Tryz.func161 rfl Tryz.ntmps161 (by simp) (by first | rfl | simp [AV.pureB, AV.pureL, pureL_c, pures]) (by first | rfl | simp [AV.pureB, AV.pureL, pureL_c, pures]) fun hb => ?_
  clear hb
  refine walkG ?_
  refine ⟨by first | exact .inr rfl | exact .inl rfl, ?_⟩; rw [Tryz.results161]; simp only [resOk, resV, go_sem, simprocAttr]
  exact .c _
theorem view_fn1 {h : Nat → Option Blkd} {f : Fn} {x y : AV} (hv : View h x y) : View h (.fn f [] [x]) (.fn f [] [y]) := by
  refine .fn rfl (by simp) rfl fun k u z h1 h2 => ?_
  match k with
  | 0 => obtain rfl := Option.some.inj h1; obtain rfl := Option.some.inj h2; exact hv
  | k + 1 => simp at h1
theorem shr32 (b : Int) (hb : 0 ≤ b) : (b.fdiv (2 ^ min (Int.toNat 32) 64) == 0) = decide (b < 4294967296) := by
  rw [show (2 : Int) ^ min (Int.toNat 32) 64 = 4294967296 from rfl, Int.fdiv_eq_ediv_of_nonneg _ (by decide), Bool.eq_iff_iff]
  simp only [beq_iff_eq, decide_eq_true_eq]
  omega
theorem vbare_items {k n b : Int} {s : List UInt8} {m : Nat} {ks : List (List UInt8)} (h : vbare k n b s m ks = true) (h9 : k ≠ 9) (h11 : k ≠ 11) (h12 : k ≠ 12) (h13 : k ≠ 13) : m = 0 := by
  unfold vbare at h
  simp only [Bool.and_eq_true, Bool.or_eq_true, beq_iff_eq] at h
  omega
theorem vbare_keys {k n b : Int} {s : List UInt8} {m : Nat} {ks : List (List UInt8)} (h : vbare k n b s m ks = true) (h12 : k ≠ 12) : ks = [] := by
  unfold vbare at h
  simp only [Bool.and_eq_true, Bool.or_eq_true, beq_iff_eq, List.isEmpty_iff] at h
  rcases h.2.2.2.2 with h | h
  · exact absurd h h12
  · exact h
set_option maxRecDepth 100000 in
set_option maxHeartbeats 1600000 in
theorem conforms_told (s : ST) (hkd : ∀ n ∈ s.nodes, ∀ k ∈ kidsN n, 0 ≤ k ∧ k < (s.nodes.length : Int)) : ∀ (m : Nat) (v : VT), SizeOf.sizeOf v ≤ m → v.sm 1000000 → ∀ (a : Int), 0 ≤ a → a < (s.nodes.length : Int) → Told Tryz.prog 82 [s.av, .c (.v (.int .i64 a)), v.av] (.c (.v (.bool (isM s.nodes a v)))) := by
  intro m
  induction m with
  | zero => intro v hv; cases v; simp at hv
  | succ m ih =>
  intro v hv hsm a ha0 ha
  cases v with
  | mk k n b t xs ks =>
  obtain ⟨nd, hnd⟩ : ∃ nd, s.nodes[a.toNat]? = some nd := ⟨s.nodes[a.toNat]'(by omega), List.getElem?_eq_getElem (by omega)⟩
  have hnp : (s.nodes.map NT.cells)[a.toNat]? = some nd.cells := by rw [List.getElem?_map, hnd]; rfl
  have hkn := hkd nd (List.mem_of_getElem? hnd)
  obtain ⟨V, hV⟩ : ∃ V, V = isM s.nodes a (.mk k n b t xs ks) := ⟨_, rfl⟩
  rw [← hV]
  rw [isM_eq hnd] at hV
  obtain ⟨⟨hb0, hb1⟩, hs1, hs2, hs3, hs4, hs5⟩ := hsm
  have hit : ∀ (i : Nat) (x : VT), xs[i]? = some x → ∀ (f : Int), 0 ≤ f → f < (s.nodes.length : Int) → Told Tryz.prog 82 [s.av, .c (.v (.int .i64 f)), x.av] (.c (.v (.bool (isM s.nodes f x)))) := fun i x hx f h1 h2 => ih x (by
    have h3 := List.sizeOf_lt_of_mem (List.mem_of_getElem? hx)
    simp at hv
    omega) (vsmL_mem hs5 x (List.mem_of_getElem? hx)) f h1 h2
  have hB := vbare_told k n b t xs ks
  rw [VT.av_eq, vcells_mk] at hB
  have hR := uright_told t (by omega)
  have hKy := vkeyed_told ks hs3
  clear ih hkd
  obtain ⟨nk, a1, a2, a3, a4, a5, a6, a7, a8, a9⟩ := nd
  rw [VT.av_eq, vcells_mk, ST.av_eq, scells_mk]
  rw [ncells_mk] at hnp
  refine VC.told ent_82 Tryz.func82 rfl Tryz.ntmps82 (by simp) (by first | rfl | simp [AV.pureB, AV.pureL, pureL_c, pures]) (by first | rfl | simp [AV.pureB, AV.pureL, pureL_c, pures]) fun hb => ?_
  clear hb
  refine walkGF (hnp) ?_
  refine walkD (hB) ?_
  refine walkGF (@bytePV_len) ?_
  unfold headM at hV
  simp only [] at hV
  obtain ⟨bv, hbv⟩ : ∃ bv, bv = vbare k n b t xs.length ks := ⟨_, rfl⟩
  rw [← hbv] at hV ⊢
  refine VC.cond (by rfl) (by trivial) (fun hc => ?_) (fun hc => ?_)
  · have hh : (k == nk && (bv && decide (t.length ≤ 20000))) = false := by
      rw [Bool.eq_false_iff]
      intro h
      simp only [Bool.and_eq_true, beq_iff_eq, decide_eq_true_eq] at h
      obtain ⟨rfl, rfl, h⟩ := h
      simp at hc
      omega
    obtain rfl : V = false := by rw [hV, hh]; rfl
    refine walkG ?_
    refine ⟨by first | exact .inr rfl | exact .inl rfl, ?_⟩; rw [Tryz.results82]; simp only [resOk, resV, go_sem, simprocAttr]
    exact .c _
  have hh : (k == nk && (bv && decide (t.length ≤ 20000))) = true := by
    simp at hc
    simp only [Bool.and_eq_true, beq_iff_eq, decide_eq_true_eq]
    exact ⟨hc.1.1, hc.1.2, by omega⟩
  rw [hh, Bool.true_and] at hV
  simp only [Bool.and_eq_true, beq_iff_eq, decide_eq_true_eq] at hh
  obtain ⟨rfl, rfl, hh⟩ := hh
  clear hc hB
  replace hbv := hbv.symm
  refine walkG ?_
  by_cases h2 : k = 2
  · subst h2
    obtain rfl : xs = [] := List.length_eq_zero_iff.1 (vbare_items hbv (by decide) (by decide) (by decide) (by decide))
    refine walkB ?_
    refine ⟨by first | exact .inr rfl | exact .inl rfl, ?_⟩; rw [Tryz.results82]; simp only [resOk, resV, go_sem, simprocAttr]
    refine frz_c ?_
    rw [hV, eachM]
    simp
  by_cases h3 : k = 3
  · subst h3
    obtain rfl : xs = [] := List.length_eq_zero_iff.1 (vbare_items hbv (by decide) (by decide) (by decide) (by decide))
    refine walkB ?_
    refine ⟨by first | exact .inr rfl | exact .inl rfl, ?_⟩; rw [Tryz.results82]; simp only [resOk, resV, go_sem, simprocAttr]
    refine frz_c ?_
    rw [hV, eachM]
    simp
  by_cases h5 : k = 5
  · subst h5
    obtain rfl : xs = [] := List.length_eq_zero_iff.1 (vbare_items hbv (by decide) (by decide) (by decide) (by decide))
    refine walkB ?_
    refine ⟨by first | exact .inr rfl | exact .inl rfl, ?_⟩; rw [Tryz.results82]; simp only [resOk, resV, go_sem, simprocAttr]
    refine frz_c ?_
    rw [hV, eachM]
    rw [show (b.fdiv (2 ^ min 32 64) == 0) = decide (b < 4294967296) from shr32 b hb0]
    simp
  by_cases h8 : k = 8
  · subst h8
    obtain rfl : xs = [] := List.length_eq_zero_iff.1 (vbare_items hbv (by decide) (by decide) (by decide) (by decide))
    refine walkB ?_
    refine walkC (hR) ?_
    refine walkG ?_
    refine ⟨by first | exact .inr rfl | exact .inl rfl, ?_⟩; rw [Tryz.results82]; simp only [resOk, resV, go_sem, simprocAttr]
    refine frz_c ?_
    rw [hV, eachM]
    simp
  by_cases h14 : k = 14
  · subst h14
    obtain rfl : xs = [] := List.length_eq_zero_iff.1 (vbare_items hbv (by decide) (by decide) (by decide) (by decide))
    refine walkBF (@bytePV_len) ?_
    refine ⟨by first | exact .inr rfl | exact .inl rfl, ?_⟩; rw [Tryz.results82]; simp only [resOk, resV, go_sem, simprocAttr]
    refine frz_c ?_
    rw [hV, eachM]
    simp
  by_cases h10 : k = 10
  · subst h10
    obtain rfl : xs = [] := List.length_eq_zero_iff.1 (vbare_items hbv (by decide) (by decide) (by decide) (by decide))
    refine walkB ?_
    refine ⟨by first | exact .inr rfl | exact .inl rfl, ?_⟩; rw [Tryz.results82]; simp only [resOk, resV, go_sem, simprocAttr]
    refine frz_c ?_
    rw [hV, eachM]
    simp
  by_cases h9 : k = 9
  · subst h9
    have hkn9 : ∀ i, i < a3.length → 0 ≤ typeAt ⟨9, a1, a2, a3, a4, a5, a6, a7, a8, a9⟩ i ∧ typeAt ⟨9, a1, a2, a3, a4, a5, a6, a7, a8, a9⟩ i < (s.nodes.length : Int) := by
      intro i hi
      rw [typeAt]
      simp only [List.getElem?_eq_getElem hi]
      exact hkn _ (by rw [kidsN, if_pos rfl]; exact List.mem_map.2 ⟨_, List.getElem_mem hi, rfl⟩)
    by_cases hlen : xs.length = a3.length
    · have hE := each_told s xs hs4 (typeAt ⟨9, a1, a2, a3, a4, a5, a6, a7, a8, a9⟩) 159 (NT.cells ⟨9, a1, a2, a3, a4, a5, a6, a7, a8, a9⟩) (fun i hi => conf1_told _ i (by simp only []; omega)) fun i x hx => hit i x hx _ (hkn9 i (by have := (List.getElem?_eq_some_iff.1 hx).1; omega)).1 (hkn9 i (by have := (List.getElem?_eq_some_iff.1 hx).1; omega)).2
      have hle : ((xs.length : Int) == (a3.length : Int)) = true := by simp; omega
      rw [show itemAt ⟨9, a1, a2, a3, a4, a5, a6, a7, a8, a9⟩ n = typeAt ⟨9, a1, a2, a3, a4, a5, a6, a7, a8, a9⟩ from by funext i; simp [itemAt]] at hV
      generalize eachM s.nodes (typeAt ⟨9, a1, a2, a3, a4, a5, a6, a7, a8, a9⟩) xs = E at hE hV
      simp only [ST.av_eq, scells_mk, List.map_cons, List.map_nil] at hE
      refine walkBF (hle) ?_
      (refine AO.step fun K hK => ?_; simp only [go_sem, Int.reduceBEq, Int.reduceLE, Int.reduceLT, Int.reduceNeg, Nat.reduceAdd, Nat.reduceEqDiff, Nat.reduceLT, Nat.reduceLeDiff, Nat.reduceMul, Nat.reduceSub, reduceCtorEq, ↓reduceIte]; (first | refine gsel_go ?_ | skip))
      refine .inr (.inl ⟨.c (.v (.bool (E && decide (xs.length ≤ 300)))), [.agg [.c (.sl 10 (s.nodes.map NT.cells)), .c (.v (.int .i64 s.root))], .c (.sl 6 (xs.map VT.cells)), .fn (.func 159) [] [.pp (NT.cells ⟨9, a1, a2, a3, a4, a5, a6, a7, a8, a9⟩)]], [64], ⟨by rfl, rfl, fun k x z h5 h6 => ?_, rfl, hE⟩, hK _ _ _ ?_⟩)
      · match k with
        | 0 => obtain rfl := Option.some.inj h5; obtain rfl := Option.some.inj h6; exact .same _
        | 1 => obtain rfl := Option.some.inj h5; obtain rfl := Option.some.inj h6; exact .same _
        | 2 =>
          obtain rfl := Option.some.inj h5
          obtain rfl := Option.some.inj h6
          exact view_fn1 (View.ref (es := NT.cells ⟨9, a1, a2, a3, a4, a5, a6, a7, a8, a9⟩) rfl rfl rfl rfl)
        | k + 3 => simp at h5
      clear hK K
      refine walkG ?_
      refine ⟨by first | exact .inr rfl | exact .inl rfl, ?_⟩; rw [Tryz.results82]; simp only [resOk, resV, go_sem, simprocAttr]
      refine frz_c ?_
      rw [hV]
      simp [hlen, Bool.and_comm]
    · have hle : ((xs.length : Int) == (a3.length : Int)) = false := by simp; omega
      refine walkBF (hle) ?_
      refine ⟨by first | exact .inr rfl | exact .inl rfl, ?_⟩; rw [Tryz.results82]; simp only [resOk, resV, go_sem, simprocAttr]
      refine frz_c ?_
      rw [hV]
      simp [hlen]
  by_cases h12 : k = 12
  · subst h12
    have hki := hkn a8 (by rw [kidsN, if_neg (by simp), if_pos (by simp)]; simp)
    have hE := each_told s xs hs4 (fun _ => a8) 161 (NT.cells ⟨12, a1, a2, a3, a4, a5, a6, a7, a8, a9⟩) (fun i _ => conf2_told ⟨12, a1, a2, a3, a4, a5, a6, a7, a8, a9⟩ i) fun i x hx => hit i x hx a8 hki.1 hki.2
    rw [show itemAt ⟨12, a1, a2, a3, a4, a5, a6, a7, a8, a9⟩ n = fun _ => a8 from by funext i; simp [itemAt]] at hV
    generalize eachM s.nodes (fun _ => a8) xs = E at hE hV
    simp only [ST.av_eq, scells_mk, List.map_cons, List.map_nil] at hE
    by_cases hlen : ks.length = xs.length
    · have hle : ((ks.length : Int) != (xs.length : Int)) = false := by simp; omega
      rw [show (ks.length == xs.length) = true by simpa using hlen, Bool.true_and] at hV
      generalize ks.all keyM = bk at hKy hV
      refine walkBF (hle) ?_
      refine walkC (hKy) ?_
      refine walkG ?_
      cases bk with
      | false =>
        refine walkB ?_
        refine ⟨by first | exact .inr rfl | exact .inl rfl, ?_⟩; rw [Tryz.results82]; simp only [resOk, resV, go_sem, simprocAttr]
        refine frz_c ?_
        rw [hV]
        simp
      | true =>
        refine walkB ?_
        (refine AO.step fun K hK => ?_; simp only [go_sem, Int.reduceBEq, Int.reduceLE, Int.reduceLT, Int.reduceNeg, Nat.reduceAdd, Nat.reduceEqDiff, Nat.reduceLT, Nat.reduceLeDiff, Nat.reduceMul, Nat.reduceSub, reduceCtorEq, ↓reduceIte]; (first | refine gsel_go ?_ | skip))
        refine .inr (.inl ⟨.c (.v (.bool (E && decide (xs.length ≤ 300)))), [.agg [.c (.sl 10 (s.nodes.map NT.cells)), .c (.v (.int .i64 s.root))], .c (.sl 6 (xs.map VT.cells)), .fn (.func 161) [] [.pp (NT.cells ⟨12, a1, a2, a3, a4, a5, a6, a7, a8, a9⟩)]], [64], ⟨by rfl, rfl, fun k x z h5 h6 => ?_, rfl, hE⟩, hK _ _ _ ?_⟩)
        · match k with
          | 0 => obtain rfl := Option.some.inj h5; obtain rfl := Option.some.inj h6; exact .same _
          | 1 => obtain rfl := Option.some.inj h5; obtain rfl := Option.some.inj h6; exact .same _
          | 2 =>
            obtain rfl := Option.some.inj h5
            obtain rfl := Option.some.inj h6
            exact view_fn1 (View.ref (es := NT.cells ⟨12, a1, a2, a3, a4, a5, a6, a7, a8, a9⟩) rfl rfl rfl rfl)
          | k + 3 => simp at h5
        clear hK K
        refine walkG ?_
        refine ⟨by first | exact .inr rfl | exact .inl rfl, ?_⟩; rw [Tryz.results82]; simp only [resOk, resV, go_sem, simprocAttr]
        refine frz_c ?_
        rw [hV]
        simp [Bool.and_comm]
    · have hle : ((ks.length : Int) != (xs.length : Int)) = true := by simp; omega
      refine walkBF (hle) ?_
      refine ⟨by first | exact .inr rfl | exact .inl rfl, ?_⟩; rw [Tryz.results82]; simp only [resOk, resV, go_sem, simprocAttr]
      refine frz_c ?_
      rw [hV]
      simp [hlen]
  by_cases h11 : k = 11
  · subst h11
    have hki := hkn a8 (by rw [kidsN, if_neg (by simp), if_pos (by simp)]; simp)
    have hE := each_told s xs hs4 (fun _ => a8) 161 (NT.cells ⟨11, a1, a2, a3, a4, a5, a6, a7, a8, a9⟩) (fun i _ => conf2_told ⟨11, a1, a2, a3, a4, a5, a6, a7, a8, a9⟩ i) fun i x hx => hit i x hx a8 hki.1 hki.2
    rw [show itemAt ⟨11, a1, a2, a3, a4, a5, a6, a7, a8, a9⟩ n = fun _ => a8 from by funext i; simp [itemAt]] at hV
    generalize eachM s.nodes (fun _ => a8) xs = E at hE hV
    simp only [ST.av_eq, scells_mk, List.map_cons, List.map_nil] at hE
    refine walkB ?_
    (refine AO.step fun K hK => ?_; simp only [go_sem, Int.reduceBEq, Int.reduceLE, Int.reduceLT, Int.reduceNeg, Nat.reduceAdd, Nat.reduceEqDiff, Nat.reduceLT, Nat.reduceLeDiff, Nat.reduceMul, Nat.reduceSub, reduceCtorEq, ↓reduceIte]; (first | refine gsel_go ?_ | skip))
    refine .inr (.inl ⟨.c (.v (.bool (E && decide (xs.length ≤ 300)))), [.agg [.c (.sl 10 (s.nodes.map NT.cells)), .c (.v (.int .i64 s.root))], .c (.sl 6 (xs.map VT.cells)), .fn (.func 161) [] [.pp (NT.cells ⟨11, a1, a2, a3, a4, a5, a6, a7, a8, a9⟩)]], [64], ⟨by rfl, rfl, fun k x z h5 h6 => ?_, rfl, hE⟩, hK _ _ _ ?_⟩)
    · match k with
      | 0 => obtain rfl := Option.some.inj h5; obtain rfl := Option.some.inj h6; exact .same _
      | 1 => obtain rfl := Option.some.inj h5; obtain rfl := Option.some.inj h6; exact .same _
      | 2 =>
        obtain rfl := Option.some.inj h5
        obtain rfl := Option.some.inj h6
        exact view_fn1 (View.ref (es := NT.cells ⟨11, a1, a2, a3, a4, a5, a6, a7, a8, a9⟩) rfl rfl rfl rfl)
      | k + 3 => simp at h5
    clear hK K
    refine walkG ?_
    refine ⟨by first | exact .inr rfl | exact .inl rfl, ?_⟩; rw [Tryz.results82]; simp only [resOk, resV, go_sem, simprocAttr]
    refine frz_c ?_
    rw [hV]
    simp [Bool.and_comm]
  by_cases h13 : k = 13
  · subst h13
    by_cases hg : (0 ≤ n ∧ n < (a9.length : Int)) ∧ xs.length = 1
    · obtain ⟨⟨hg1, hg2⟩, hg3⟩ := hg
      obtain ⟨x, rfl⟩ := List.length_eq_one_iff.1 hg3
      have hnl : n.toNat < a9.length := by omega
      obtain ⟨q, hq⟩ : ∃ q, a9[n.toNat]? = some q := ⟨a9[n.toNat], List.getElem?_eq_getElem hnl⟩
      have hqp : (a9.map iPV)[n.toNat]? = some (iPV q) := by rw [List.getElem?_map, hq]; rfl
      have hki := hkn q (by rw [kidsN, if_neg (by simp), if_neg (by simp), if_pos rfl]; exact List.mem_of_getElem? hq)
      have hX := hit 0 x rfl q hki.1 hki.2
      have e1 : decide (n ≥ 0) = true := by simpa using hg1
      have e2 : decide (n < (a9.length : Int)) = true := by simpa using hg2
      have hv2 : V = isM s.nodes q x := by
        have hib : itemAt ⟨13, a1, a2, a3, a4, a5, a6, a7, a8, a9⟩ n 0 = q := by
          show (if (13 : Int) = 9 then _ else if (13 : Int) = 13 then branchAt _ n else _) = q
          rw [if_neg (by decide), if_pos rfl, branchAt]
          simp only [hq]
        rw [hV, eachM, eachM, hib]
        simp [hg1, hg2]
      clear hV
      generalize isM s.nodes q x = E at hX hv2
      simp only [ST.av_eq, VT.av_eq, scells_mk, List.map_cons, List.map_nil] at hX
      refine walkBF (And.intro e1 (And.intro e2 (And.intro hqp (And.intro @iPV_eq (And.intro @len_vcells (And.intro @take_vcells @take_vcellsC)))))) ?_
      refine walkCF (@pureL_c) (hX) ?_
      refine walkG ?_
      refine ⟨by first | exact .inr rfl | exact .inl rfl, ?_⟩; rw [Tryz.results82]; simp only [resOk, resV, go_sem, simprocAttr]
      rw [hv2]
      exact .c _
    · have hvf : V = false := by
        have : (decide (0 ≤ n) && (decide (n < (a9.length : Int)) && xs.length == 1)) = false := by
          rw [Bool.eq_false_iff]
          intro h
          simp only [Bool.and_eq_true, decide_eq_true_eq, beq_iff_eq] at h
          exact hg ⟨⟨h.1, h.2.1⟩, h.2.2⟩
        rw [hV]
        simp only [Int.reduceEq, if_false, if_true]
        rw [this]
        rfl
      clear hV
      by_cases hg1 : 0 ≤ n
      · have e1 : decide (n ≥ 0) = true := by simpa using hg1
        by_cases hg2 : n < (a9.length : Int)
        · have e2 : decide (n < (a9.length : Int)) = true := by simpa using hg2
          have e3 : ((xs.length : Int) == 1) = false := by
            simp only [beq_eq_false_iff_ne]
            intro h
            exact hg ⟨⟨hg1, hg2⟩, by omega⟩
          refine walkBF (And.intro e1 (And.intro e2 e3)) ?_
          refine ⟨by first | exact .inr rfl | exact .inl rfl, ?_⟩; rw [Tryz.results82]; simp only [resOk, resV, go_sem, simprocAttr]
          rw [hvf]
          exact .c _
        · have e2 : decide (n < (a9.length : Int)) = false := by simpa using hg2
          refine walkBF (And.intro e1 e2) ?_
          refine ⟨by first | exact .inr rfl | exact .inl rfl, ?_⟩; rw [Tryz.results82]; simp only [resOk, resV, go_sem, simprocAttr]
          rw [hvf]
          exact .c _
      · have e1 : decide (n ≥ 0) = false := by simpa using hg1
        refine walkBF (e1) ?_
        refine ⟨by first | exact .inr rfl | exact .inl rfl, ?_⟩; rw [Tryz.results82]; simp only [resOk, resV, go_sem, simprocAttr]
        rw [hvf]
        exact .c _
  have e2 : (k == 2) = false := by simpa using h2
  have e3 : (k == 3) = false := by simpa using h3
  have e5 : (k == 5) = false := by simpa using h5
  have e8 : (k == 8) = false := by simpa using h8
  have e14 : (k == 14) = false := by simpa using h14
  have e10 : (k == 10) = false := by simpa using h10
  have e9 : (k == 9) = false := by simpa using h9
  have e12 : (k == 12) = false := by simpa using h12
  have e11 : (k == 11) = false := by simpa using h11
  have e13 : (k == 13) = false := by simpa using h13
  obtain rfl : xs = [] := List.length_eq_zero_iff.1 (vbare_items hbv h9 h11 h12 h13)
  rw [e2]
  refine walkBF (And.intro e2 (And.intro e3 (And.intro e5 (And.intro e8 (And.intro e14 (And.intro e10 (And.intro e9 (And.intro e12 (And.intro e11 e13))))))))) ?_
  refine ⟨by first | exact .inr rfl | exact .inl rfl, ?_⟩; rw [Tryz.results82]; simp only [resOk, resV, go_sem, simprocAttr]
  refine frz_c ?_
  rw [hV, eachM]
  simp [h2, h3, h5, h8, h14, h10, h9, h12, h11, h13]
end
end Go.Proofs.YtllnlmchjljhlaaGreatDoor
