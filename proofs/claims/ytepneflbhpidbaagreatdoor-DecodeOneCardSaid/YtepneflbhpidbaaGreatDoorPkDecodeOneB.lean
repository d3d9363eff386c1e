/- Texts that lead to the law DecodeOne, joined. -/
import Derived.Test.YtepneflbhpidbaaGreatDoorPkDecodeOneA
import Derived.Test.YtepneflbhpidbaaGreatDoorPkDecodeOneXAbB
import Derived.Test.YtepneflbhpidbaaGreatDoorPkDecodeOneXTy
import Derived.RangeFuncNested
import Derived.RangeFuncBound
import Derived.RangeFuncCalls
import Derived.RangeFuncLeaves
import Derived.RangeFuncBox
import Derived.Shelf.Abstract
import Derived.Shelf.RegionOpen
import Derived.WalkKit
import Derived.OwnWalkIn
import Derived.TacticsInMore
import Derived.LoopNIn
import Derived.LoopIn
import Derived.Maps.AppendAt
import Derived.Sort.EveryDepth
import Derived.Test.YtepneflbhpidbaaGreatDoorPkDecodeOneXShelf
import Derived.Sort.OwnSorted
namespace Go.Proofs.YtepneflbhpidbaaGreatDoor
set_option maxRecDepth 100000
set_option maxHeartbeats 6400000
open Go.RowKit
set_option linter.unusedVariables false
set_option linter.unusedSimpArgs false
section
attribute [local go_sem] opx opE ev okx q5h bnd okO AV.get AV.okb cAV q6y q8g q8f j0t j0s q79 q78 st q7s q5r q7u q7v q7t binV binI binS q42 q5o q5i q5p unV q6h q4h q3v q04 q2j Blkd.len setE grown q1r q45 q3w q4o pv q4j q30 q39 AV.cellish AV.pureL AV.pureB q77 q71 AV.ren AV.renL q8i Blkd.ren rho wrM renN q3t rhoE q4s q44 q7f q4y q6v q51 j0h j0i j0l q5l q8o q8w q8x q8z q83 q9a q9b q9f q9l q9n q9p q7g q9q q7h q50 q7i q7j j0b q6t q7k j0c q6e j0d q6u j0e q6f q7l j0f q7m j0g j0j j0k j0m j0n j0o j0p j0q q8p q8q q8r q8s q8t q8u q8v q8y q80 q81 q82 q84 q85 q86 q87 q88 q89 q9c q9d q9e q9g q9h q9i q9j q9k q9m q9o q9r q9s q9t q9u q9v q9w q9x q9y q9z q90 q91 q92 q93 q94 q95 q96 q97 q98 q99 j0a Option.map_some Option.map_none Option.getD_some Option.getD_none Option.bind_some Option.bind_none List.getElem?_cons_zero List.getElem?_cons_succ List.getElem?_nil List.getElem?_toArray List.length_cons List.length_nil List.length_map List.forall_mem_map List.map_cons List.map_nil List.drop_zero List.drop_succ_cons List.drop_nil List.take_zero List.take_succ_cons List.take_nil List.mem_cons List.not_mem_nil or_false forall_eq_or_imp forall_eq List.set_cons_zero List.set_cons_succ List.cons_append List.nil_append List.append_nil List.foldl_cons List.foldl_nil List.replicate_succ List.replicate_zero List.all_cons List.all_nil if_true if_false Bool.false_eq_true ne_eq not_false_eq_true not_true_eq_false true_and and_true and_self true_implies imp_self implies_true forall_const beq_self_eq_true Bool.and_true Bool.true_and Bool.and_false Bool.false_and Bool.or_true Bool.true_or Bool.or_false Bool.false_or Bool.not_true Bool.not_false Bool.not_eq_eq_eq_not q6a Value.oneCell' Int.toNat_natCast beq_true beq_false Bool.not_eq_true false_implies false_or true_or or_true Nat.zero_add Nat.add_zero decide_true decide_false Int.cast_ofNat_Int Int.toNat_zero Int.toNat_one eq_self

def dB (ns : List NT) (r : Int) (B : List UInt8) (p : Nat) (e : Int) : Blkd := ⟨false, 106, 5, [[.c (.sl 10 (ns.map NT.cells)), .c (.v (.int .i64 r)), .c (.sl 1 (q0e B)), .c (.v (.int .i64 (p : Int))), .c (.v (.int .i64 e))]]⟩
structure Got {α : Type} (R : Except Int (α × Nat)) (B : List UInt8) (e : Int) (v : α) (q : Nat) (e' : Int) : Prop where
 le : q ≤ B.length
 no : e ≠ 0 → e' = e
 bad : ∀ x, e = 0 → R = .error x → e' = x
 ok : ∀ w q', e = 0 → R = .ok (w, q') → v = w ∧ q = q' ∧ e' = 0
theorem q58 {α : Type} {f : Rd α} (hf : Fair f) (d : α) {B : List UInt8} {p : Nat} (hp : p ≤ B.length) (e : Int) : Got (f B p) B e (lft f d B p e).1 (lft f d B p e).2.1 (lft f d B p e).2.2 := by
 by_cases h : e = 0
 · subst h
   cases hr : f B p with
   | error x =>
     rw [q3u _ hr]
     exact ⟨hp, fun h => absurd rfl h, fun y _ hy => by injection hy, fun w q' _ hy => by simp at hy⟩
   | ok r =>
     rw [q4u _ hr]
     refine ⟨(hf.fwd hp hr).2, fun h => absurd rfl h, fun y _ hy => by simp at hy, fun w q' _ hy => ?_⟩
     injection hy with hy
     rw [hy]
     exact ⟨rfl, rfl, rfl⟩
 · rw [q5w _ _ _ _ h]
   exact ⟨hp, fun _ => rfl, fun y h0 => absurd h0 h, fun w q' h0 => absurd h0 h⟩
theorem j3a (ns : List NT) (r : Int) (B : List UInt8) (p : Nat) (e x : Int) : ToldM Tryz.prog 119 [.ref 1000000 1 0 0, .c (.v (.int .i64 x))] [dB ns r B p e] [some (dB ns r B p (if e = 0 then x else e))] (.tup []) := by
 unfold dB
 by_cases h : e = 0
 · rw [if_pos h]
   have e1 : (e == 0) = true := by simpa using h
   refine VC.toldX ent_119 [] Tryz.func119 rfl Tryz.ntmps119 fun hb hbL => ?_
   clear hb hbL
   refine q0a (e1) ?_
   exact retZ Tryz.results119
 · rw [if_neg h]
   have e1 : (e == 0) = false := by simpa using h
   refine VC.toldX ent_119 [] Tryz.func119 rfl Tryz.ntmps119 fun hb hbL => ?_
   clear hb hbL
   refine q0a (e1) ?_
   exact retZ Tryz.results119
theorem q7x {g : FuncId} (ns : List NT) (r : Int) (B : List UInt8) (p q : Nat) (e e' n : Int) (hg : Told Tryz.prog g [.agg ((rC B p e).map .c)] (.tup [.c (.v (.int .i64 n)), .agg ((rC B q e').map .c)])) :
  ToldM Tryz.prog 115 [.ref 1000000 1 0 0, .fn (.func g) [] []] [dB ns r B p e] [some (dB ns r B q e')] (.c (.v (.int .i64 n))) := by
 unfold dB
 unfold rC at hg
 refine VC.toldX ent_115 [] Tryz.func115 rfl Tryz.ntmps115 fun hb hbL => ?_
 clear hb hbL
 refine q0b ?_
 refine q0j (hg) ?_
 refine q0b ?_
 refine retX Tryz.results115 ?_
 exact .c _
theorem j5c {g : FuncId} (ns : List NT) (r : Int) (B : List UInt8) (p q : Nat) (e e' : Int) (l : List UInt8) (hg : Told Tryz.prog g [.agg ((rC B p e).map .c)] (.tup [.c (.sl 1 (q0e l)), .agg ((rC B q e').map .c)])) :
  ToldM Tryz.prog 117 [.ref 1000000 1 0 0, .fn (.func g) [] []] [dB ns r B p e] [some (dB ns r B q e')] (.c (.sl 1 (q0e l))) := by
 unfold dB
 unfold rC at hg
 refine VC.toldX ent_117 [] Tryz.func117 rfl Tryz.ntmps117 fun hb hbL => ?_
 clear hb hbL
 refine q0b ?_
 refine q0j (hg) ?_
 refine q0b ?_
 refine retX Tryz.results117 ?_
 exact .c _
theorem z3h {g : FuncId} (ns : List NT) (r : Int) (B : List UInt8) (p q : Nat) (e e' n : Int) (many : Nat) (hN : ToldM Tryz.prog 115 [.ref 1000000 1 0 0, .fn (.func g) [] []] [dB ns r B p e] [some (dB ns r B q e')] (.c (.v (.int .i64 n)))) :
  ToldM Tryz.prog 118 [.ref 1000000 1 0 0, .fn (.func g) [] [], .c (.v (.int .i64 (many : Int)))] [dB ns r B p e] [some (dB ns r B q (if n < 0 ∨ (many : Int) ≤ n then (if e' = 0 then 11 else e') else e'))] (.c (.v (.int .i64 (if n < 0 ∨ (many : Int) ≤ n then 0 else n)))) := by
 have hF := j3a ns r B q e' 11
 generalize hE : (if e' = 0 then (11 : Int) else e') = E at hF
 unfold dB at *
 by_cases h1 : n < 0
 · rw [if_pos (.inl h1), if_pos (.inl h1)]
   have e1 : decide (n < 0) = true := by simpa using h1
   refine VC.toldX j5h [] Tryz.func118 rfl Tryz.ntmps118 fun hb hbL => ?_
   clear hb hbL
   refine q0b ?_
   refine q0z [1000000] (hN) ?_
   refine q0a (e1) ?_
   refine q0z [1000000] (hF) ?_
   refine q0m ?_
   refine retX Tryz.results118 ?_
   exact .c _
 have e1 : decide (n < 0) = false := by simpa using h1
 by_cases h2 : (many : Int) ≤ n
 · rw [if_pos (.inr h2), if_pos (.inr h2)]
   have e2 : decide (n ≥ (many : Int)) = true := by simpa using h2
   refine VC.toldX j5h [] Tryz.func118 rfl Tryz.ntmps118 fun hb hbL => ?_
   clear hb hbL
   refine q0b ?_
   refine q0z [1000000] (hN) ?_
   refine q0a (And.intro e1 e2) ?_
   refine q0z [1000000] (hF) ?_
   refine q0m ?_
   refine retX Tryz.results118 ?_
   exact .c _
 · rw [if_neg (by omega), if_neg (by omega)]
   have e2 : decide (n ≥ (many : Int)) = false := by simpa using h2
   refine VC.toldX j5h [] Tryz.func118 rfl Tryz.ntmps118 fun hb hbL => ?_
   clear hb hbL
   refine q0b ?_
   refine q0z [1000000] (hN) ?_
   refine q0a (And.intro e1 e2) ?_
   refine retX Tryz.results118 ?_
   exact .c _
theorem z3c (ns : List NT) (r : Int) (B : List UInt8) (hB : B.length ≤ 1000000) (p : Nat) (hp : p ≤ B.length) (e : Int) (k : Nat) (hk : k ≤ 300) : ∃ (m q : Nat) (e' : Int), Got (q4w k B p) B e m q e' ∧ (e' ≠ 0 → m = 0) ∧
  ToldM Tryz.prog 208 [.ref 1000000 1 0 0, .c (.v (.int .i64 (k : Int)))] [dB ns r B p e] [some (dB ns r B q e')] (.c (.v (.int .i64 (m : Int)))) := by
 have hw : IntKind.i64.wrap (300 - (k : Int)) = ((300 - k : Nat) : Int) := by rw [q0f (by omega) (by omega)]; omega
 have hz : decide ((0 : Int) > ((300 - k : Nat) : Int)) = false := by simp
 have hL := j1x B hB p hp e
 have hbad : ∀ x : Int, x ≠ 0 → lft q2r 0 B p e = (0, p, x) → ToldM Tryz.prog 208 [.ref 1000000 1 0 0, .c (.v (.int .i64 (k : Int)))] [dB ns r B p e] [some (dB ns r B p x)] (.c (.v (.int .i64 ((0 : Nat) : Int)))) := by
  intro x hx hl
  rw [hl] at hL
  have hN := q7x ns r B p p e x 0 hL
  have e1 : (x != 0) = true := by simpa using hx
  clear hL hl
  unfold dB at *
  refine VC.toldX q70 [] Tryz.func208 rfl Tryz.ntmps208 fun hb hbL => ?_
  clear hb hbL
  refine q0b ?_
  refine q0z [1000000] (hN) ?_
  refine q0a (And.intro hw (And.intro hz e1)) ?_
  refine retX Tryz.results208 ?_
  exact .c _
 by_cases h : e ≠ 0
 · exact ⟨0, p, e, ⟨hp, fun _ => rfl, fun x h0 => absurd h0 h, fun w q' h0 => absurd h0 h⟩, fun _ => rfl, hbad e h (q5w _ _ _ _ h)⟩
 obtain rfl : e = 0 := Decidable.not_not.1 h
 cases hr : q2r B p with
 | error x =>
   exact ⟨0, p, x, ⟨hp, fun h => absurd rfl h, fun y _ hy => by unfold q4w at hy; rw [q24 hr] at hy; injection hy, fun w q' _ hy => by unfold q4w at hy; rw [q24 hr] at hy; simp at hy⟩, fun _ => rfl, hbad x (q36.ers hr) (q3u _ hr)⟩
 | ok s =>
 obtain ⟨n, q⟩ := s
 clear hbad h
 have hq := (q36.fwd hp hr).2
 have hnb := by
  have := hr
  unfold q2r rvar at this
  exact this
 rw [q4u _ hr] at hL
 have hN := q7x ns r B p q 0 0 n hL
 have hnr : -9223372036854775808 ≤ n ∧ n ≤ 9223372036854775807 := by
  split at hnb
  · simp at hnb
  · rename_i u j hu
    injection hnb with hnb
    injection hnb with hnb _
    have := z1w 10 1 (by decide) (by decide) (by decide) hu
    rw [← hnb]
    unfold zagN
    split <;> omega
 clear hnb
 have hrc : q4w k B p = (if n < 0 then q1c q2r fun _ => if (300 : Int) - k < -n then rbad 15 else rret (-n).toNat else if (300 : Int) - k < n then rbad 15 else rret n.toNat) B q := by unfold q4w; rw [q2c hr]
 by_cases h1 : n < 0
 · rw [if_pos h1] at hrc
   have e1 : decide (n < 0) = true := by simpa using h1
   have hL2 := j1x B hB q hq 0
   obtain ⟨n2, q2, x2, h2⟩ : ∃ a b c, lft q2r 0 B q 0 = (a, b, c) := ⟨_, _, _, rfl⟩
   rw [h2] at hL2
   have hN2 := q7x ns r B q q2 0 x2 n2 hL2
   have hq2 : q2 ≤ B.length ∧ (x2 ≠ 0 → q2r B q = .error x2) ∧ (x2 = 0 → q2r B q = .ok (n2, q2)) := by
    cases hr2 : q2r B q with
    | error x =>
      rw [q3u _ hr2] at h2
      injection h2 with h2 h3
      injection h3 with h3 h4
      exact ⟨h3 ▸ hq, fun _ => by rw [h4], fun h => absurd (h4.trans h) (q36.ers hr2)⟩
    | ok s =>
      rw [q4u _ hr2] at h2
      injection h2 with h2 h3
      injection h3 with h3 h4
      exact ⟨h3 ▸ (q36.fwd hq hr2).2, fun h => absurd h4.symm h, fun _ => by rw [← h2, ← h3]⟩
   obtain ⟨hq2, hx2, hy2⟩ := hq2
   obtain ⟨M, hM⟩ : ∃ M, M = -(if n = -9223372036854775808 then n + 1 else n) := ⟨_, rfl⟩
   have hMr : 0 < M ∧ M ≤ 9223372036854775807 ∧ ((300 : Int) - k < -n ↔ (300 : Int) - k < M) ∧ (M ≤ 300 → M = -n) := by
    rw [hM]
    split <;> omega
   have hF := j3a ns r B q2 x2 15
   have hwn : IntKind.i64.wrap (0 - (if n = -9223372036854775808 then n + 1 else n)) = M := by
    rw [q0f (by split <;> omega) (by split <;> omega), hM]
    omega
   have hwn1 : n = -9223372036854775808 → IntKind.i64.wrap (n + 1) = n + 1 := fun h => q0f (by omega) (by omega)
   by_cases h3 : (300 : Int) - k < M
   · have e3 : decide (M > ((300 - k : Nat) : Int)) = true := by simp; omega
     obtain ⟨E, hE⟩ : ∃ E, E = if x2 = 0 then (15 : Int) else x2 := ⟨_, rfl⟩
     have hE0 : E ≠ 0 := by rw [hE]; split <;> omega
     have e4 : (E != 0) = true := by simpa using hE0
     rw [← hE] at hF
     refine ⟨0, q2, E, ⟨hq2, fun h => absurd rfl h, fun x _ hx => ?_, fun w q' _ hx => ?_⟩, fun _ => rfl, ?_⟩
     · rw [hrc] at hx
       by_cases hx0 : x2 = 0
       · rw [q2c (hy2 hx0), if_pos (hMr.2.2.1.2 h3)] at hx
         unfold rbad at hx
         injection hx with hx
         rw [hE, if_pos hx0, hx]
       · rw [q24 (hx2 hx0)] at hx
         injection hx with hx
         rw [hE, if_neg hx0, hx]
     · rw [hrc] at hx
       by_cases hx0 : x2 = 0
       · rw [q2c (hy2 hx0), if_pos (hMr.2.2.1.2 h3)] at hx
         unfold rbad at hx
         simp at hx
       · rw [q24 (hx2 hx0)] at hx
         simp at hx
     · clear hL hL2 h2 hx2 hy2 hr hrc hE
       unfold dB at *
       by_cases hmn : n = -9223372036854775808
       · rw [if_pos hmn] at hwn
         have e2 : (n == -9223372036854775808) = true := by simpa using hmn
         have hw1 := hwn1 hmn
         clear hwn1 hM hMr hmn
         refine VC.toldX q70 [] Tryz.func208 rfl Tryz.ntmps208 fun hb hbL => ?_
         clear hb hbL
         refine q0b ?_
         refine q0z [1000000] (hN) ?_
         refine q0a (e1) ?_
         refine q0z [1000000] (hN2) ?_
         refine q0a (And.intro e2 (And.intro hw1 (And.intro hwn (And.intro hw e3)))) ?_
         refine q0z [1000000] (hF) ?_
         refine q0a (e4) ?_
         refine retX Tryz.results208 ?_
         exact .c _
       · rw [if_neg hmn] at hwn
         have e2 : (n == -9223372036854775808) = false := by simpa using hmn
         clear hwn1 hM hMr hmn
         refine VC.toldX q70 [] Tryz.func208 rfl Tryz.ntmps208 fun hb hbL => ?_
         clear hb hbL
         refine q0b ?_
         refine q0z [1000000] (hN) ?_
         refine q0a (e1) ?_
         refine q0z [1000000] (hN2) ?_
         refine q0a (And.intro e2 (And.intro hwn (And.intro hw e3))) ?_
         refine q0z [1000000] (hF) ?_
         refine q0a (e4) ?_
         refine retX Tryz.results208 ?_
         exact .c _
   · have e3 : decide (M > ((300 - k : Nat) : Int)) = false := by simp; omega
     have hMn : M = -n := hMr.2.2.2 (by omega)
     have e2 : (n == -9223372036854775808) = false := by simp; omega
     rw [if_neg (by omega)] at hwn
     by_cases hx0 : x2 = 0
     · refine ⟨M.toNat, q2, 0, ⟨hq2, fun h => absurd rfl h, fun x _ hx => ?_, fun w q' _ hx => ?_⟩, fun h => absurd rfl h, ?_⟩
       · rw [hrc, q2c (hy2 hx0), if_neg (fun h => h3 (hMr.2.2.1.1 h))] at hx
         unfold rret at hx
         simp at hx
       · rw [hrc, q2c (hy2 hx0), if_neg (fun h => h3 (hMr.2.2.1.1 h))] at hx
         unfold rret at hx
         injection hx with hx
         injection hx with hx hx'
         exact ⟨by rw [hMn, hx], hx', rfl⟩
       · rw [show ((M.toNat : Nat) : Int) = M from by omega]
         clear hL hL2 h2 hx2 hy2 hr hrc hF hwn1 hM hMr hMn
         subst hx0
         unfold dB at *
         refine VC.toldX q70 [] Tryz.func208 rfl Tryz.ntmps208 fun hb hbL => ?_
         clear hb hbL
         refine q0b ?_
         refine q0z [1000000] (hN) ?_
         refine q0a (e1) ?_
         refine q0z [1000000] (hN2) ?_
         refine q0a (And.intro e2 (And.intro hwn (And.intro hw e3))) ?_
         refine retX Tryz.results208 ?_
         exact .c _
     · have e4 : (x2 != 0) = true := by simpa using hx0
       refine ⟨0, q2, x2, ⟨hq2, fun h => absurd rfl h, fun x _ hx => ?_, fun w q' _ hx => ?_⟩, fun _ => rfl, ?_⟩
       · rw [hrc, q24 (hx2 hx0)] at hx
         injection hx
       · rw [hrc, q24 (hx2 hx0)] at hx
         simp at hx
       · clear hL hL2 h2 hx2 hy2 hr hrc hF hwn1 hM hMr hMn
         unfold dB at *
         refine VC.toldX q70 [] Tryz.func208 rfl Tryz.ntmps208 fun hb hbL => ?_
         clear hb hbL
         refine q0b ?_
         refine q0z [1000000] (hN) ?_
         refine q0a (e1) ?_
         refine q0z [1000000] (hN2) ?_
         refine q0a (And.intro e2 (And.intro hwn (And.intro hw (And.intro e3 e4)))) ?_
         refine retX Tryz.results208 ?_
         exact .c _
 · rw [if_neg h1] at hrc
   have e1 : decide (n < 0) = false := by simpa using h1
   by_cases h3 : (300 : Int) - k < n
   · rw [if_pos h3] at hrc
     have e3 : decide (n > ((300 - k : Nat) : Int)) = true := by simp; omega
     have hF := j3a ns r B q 0 15
     rw [if_pos rfl] at hF
     refine ⟨0, q, 15, ⟨hq, fun h => absurd rfl h, fun x _ hx => ?_, fun w q' _ hx => ?_⟩, fun _ => rfl, ?_⟩
     · rw [hrc] at hx
       unfold rbad at hx
       injection hx
     · rw [hrc] at hx
       unfold rbad at hx
       simp at hx
     · clear hL hr hrc
       unfold dB at *
       refine VC.toldX q70 [] Tryz.func208 rfl Tryz.ntmps208 fun hb hbL => ?_
       clear hb hbL
       refine q0b ?_
       refine q0z [1000000] (hN) ?_
       refine q0a (And.intro e1 (And.intro hw e3)) ?_
       refine q0z [1000000] (hF) ?_
       refine q0m ?_
       refine retX Tryz.results208 ?_
       exact .c _
   · rw [if_neg h3] at hrc
     have e3 : decide (n > ((300 - k : Nat) : Int)) = false := by simp; omega
     refine ⟨n.toNat, q, 0, ⟨hq, fun h => absurd rfl h, fun x _ hx => ?_, fun w q' _ hx => ?_⟩, fun h => absurd rfl h, ?_⟩
     · rw [hrc] at hx
       unfold rret at hx
       simp at hx
     · rw [hrc] at hx
       unfold rret at hx
       injection hx with hx
       injection hx with hx hx'
       exact ⟨hx, hx', rfl⟩
     · rw [show ((n.toNat : Nat) : Int) = n from by omega]
       clear hL hr hrc
       unfold dB at *
       refine VC.toldX q70 [] Tryz.func208 rfl Tryz.ntmps208 fun hb hbL => ?_
       clear hb hbL
       refine q0b ?_
       refine q0z [1000000] (hN) ?_
       refine q0a (And.intro e1 (And.intro hw e3)) ?_
       refine retX Tryz.results208 ?_
       exact .c _

/-! What the loops over blocks run through: as the plain readers, but with a place where these refuse. -/
abbrev Item := List (List UInt8) × VT
def q68 (map : Bool) (B : List UInt8) (val : Nat → Int → VT × Nat × Int) (p : Nat) : Item × Nat × Int :=
 if map = true then (([(lft q2t [] B p 0).1], (val (lft q2t [] B p 0).2.1 (lft q2t [] B p 0).2.2).1), (val (lft q2t [] B p 0).2.1 (lft q2t [] B p 0).2.2).2) else (([], (val p 0).1), (val p 0).2)
def rowS (step : Nat → Item × Nat × Int) : Nat → List VT → List (List UInt8) → Nat → Except (Nat × Int) (List VT × List (List UInt8) × Nat)
 | 0, xs, ks, p => .ok (xs, ks, p)
 | m + 1, xs, ks, p => if (step p).2.2 = 0 then rowS step m (xs ++ [(step p).1.2]) (ks ++ (step p).1.1) (step p).2.1 else .error (step p).2
def headS (f : List VT → List (List UInt8) → Nat → (List VT × List (List UInt8)) × Nat × Int) (step : Nat → Item × Nat × Int) (m : Nat) (xs : List VT) (ks : List (List UInt8)) (p : Nat) (e : Int) : (List VT × List (List UInt8)) × Nat × Int :=
 if m = 0 then ((xs, ks), p, e) else match rowS step m xs ks p with
  | .error r => (([], []), r)
  | .ok t => f t.1 t.2.1 t.2.2
def blkS (step : Nat → Item × Nat × Int) (cnt : Nat → Nat → Nat × Nat × Int) : Nat → List VT → List (List UInt8) → Nat → (List VT × List (List UInt8)) × Nat × Int
 | 0, xs, ks, p => ((xs, ks), p, 15)
 | k + 1, xs, ks, p => headS (blkS step cnt k) step (cnt xs.length p).1 xs ks (cnt xs.length p).2.1 (cnt xs.length p).2.2
theorem j8k {k : Nat} {B : List UInt8} {p q m : Nat} (h : q4w k B p = .ok (m, q)) : k ≤ 300 → m + k ≤ 300 := fun hk => by
 obtain ⟨n, r, h1, h2⟩ := q2i h
 split at h2
 · obtain ⟨n2, r2, h6, h7⟩ := q2i h2
   split at h7
   · unfold rbad at h7; simp at h7
   · unfold rret at h7
     injection h7 with h7
     injection h7 with h7 _
     omega
 · split at h2
   · unfold rbad at h2; simp at h2
   · unfold rret at h2
     injection h2 with h2
     injection h2 with h2 _
     omega
def StepOk {α : Type} (f : Rd α) (B : List UInt8) (step : Nat → α × Nat × Int) : Prop := ∀ p, p ≤ B.length → Got (f B p) B 0 (step p).1 (step p).2.1 (step p).2.2
theorem Got.is {α : Type} {f : Rd α} (hf : Fair f) {B : List UInt8} {p : Nat} {v : α} {q : Nat} {e' : Int} (h : Got (f B p) B 0 v q e') : (e' = 0 → f B p = .ok (v, q)) ∧ (e' ≠ 0 → f B p = .error e') := by
 cases hr : f B p with
 | error x =>
   have := h.bad x rfl hr
   exact ⟨fun h0 => absurd (this.symm.trans h0) (hf.ers hr), fun _ => by rw [this]⟩
 | ok r =>
   obtain ⟨h1, h2, h3⟩ := h.ok r.1 r.2 rfl hr
   exact ⟨fun _ => by rw [h1, h2], fun h0 => absurd h3 h0⟩
theorem q5s {α : Type} {f : Rd α} {B : List UInt8} {p : Nat} {v : α} {q : Nat} {e' : Int} (hq : q ≤ B.length) (h1 : e' = 0 → f B p = .ok (v, q)) (h2 : e' ≠ 0 → f B p = .error e') : Got (f B p) B 0 v q e' := by
 refine ⟨hq, fun h => absurd rfl h, fun x _ hx => ?_, fun w q' _ hx => ?_⟩
 · by_cases h : e' = 0
   · rw [h1 h] at hx; simp at hx
   · rw [h2 h] at hx; injection hx
 · by_cases h : e' = 0
   · rw [h1 h] at hx
     injection hx with hx
     injection hx with hx hx'
     exact ⟨hx, hx', h⟩
   · rw [h2 h] at hx; simp at hx
theorem z0g {item : Rd Item} (hf : Fair item) {B : List UInt8} {step : Nat → Item × Nat × Int} (hs : StepOk item B step) : ∀ (m : Nat) (xs : List VT) (ks : List (List UInt8)) (p : Nat), p ≤ B.length →
  (∀ t, rowS step m xs ks p = .ok t → t.2.2 ≤ B.length ∧ rrow item m xs ks B p = .ok ((t.1, t.2.1), t.2.2)) ∧ (∀ r, rowS step m xs ks p = .error r → r.1 ≤ B.length ∧ r.2 ≠ 0 ∧ rrow item m xs ks B p = .error r.2)
 | 0, xs, ks, p, hp => by
   rw [rowS, rrow]
   refine ⟨fun t h => ?_, fun r h => by simp at h⟩
   injection h with h
   subst h
   exact ⟨hp, rfl⟩
 | m + 1, xs, ks, p, hp => by
   rw [rowS, rrow]
   have hg := hs p hp
   have hi := hg.is hf
   split
   · rename_i h0
     rw [q2c (hi.1 h0)]
     exact z0g hf hs m _ _ _ hg.le
   · rename_i h0
     rw [q24 (hi.2 h0)]
     refine ⟨fun t h => by simp at h, fun r h => ?_⟩
     injection h with h
     subst h
     exact ⟨hg.le, h0, rfl⟩
theorem z0h {step : Nat → Item × Nat × Int} : ∀ (m : Nat) (xs : List VT) (ks : List (List UInt8)) (p : Nat) (t : List VT × List (List UInt8) × Nat), rowS step m xs ks p = .ok t → t.1.length = xs.length + m
 | 0, xs, ks, p, t, h => by
   rw [rowS] at h
   injection h with h
   subst h
   rfl
 | m + 1, xs, ks, p, t, h => by
   rw [rowS] at h
   split at h
   · have := z0h m _ _ _ t h
     simp at this
     omega
   · simp at h
def CntOk (B : List UInt8) (cnt : Nat → Nat → Nat × Nat × Int) : Prop := ∀ h p, h ≤ 300 → p ≤ B.length → Got (q4w h B p) B 0 (cnt h p).1 (cnt h p).2.1 (cnt h p).2.2 ∧ ((cnt h p).2.2 ≠ 0 → (cnt h p).1 = 0)
theorem j75 {item : Rd Item} (hf : Fair item) {B : List UInt8} {step : Nat → Item × Nat × Int} (hs : StepOk item B step) {cnt : Nat → Nat → Nat × Nat × Int} (hc : CntOk B cnt) : ∀ (k : Nat) (xs : List VT) (ks : List (List UInt8)) (p : Nat), p ≤ B.length → xs.length ≤ 300 →
  Got (q4k item k xs ks B p) B 0 (blkS step cnt k xs ks p).1 (blkS step cnt k xs ks p).2.1 (blkS step cnt k xs ks p).2.2
 | 0, xs, ks, p, hp, _ => by
   rw [q4k, blkS]
   exact q5s hp (fun h => absurd h (show ¬ ((15 : Int) = 0) by decide)) fun _ => rfl
 | k + 1, xs, ks, p, hp, hx => by
   rw [q4k, blkS, headS]
   obtain ⟨hg, hz⟩ := hc xs.length p hx hp
   have hi := hg.is (j3n _)
   generalize cnt xs.length p = c at hg hz hi
   by_cases h0 : c.1 = 0
   · rw [if_pos h0]
     refine q5s hg.le (fun h => ?_) fun h => ?_
     · rw [q2c (hi.1 h), if_pos h0]; rfl
     · rw [q24 (hi.2 h)]
   · rw [if_neg h0]
     have he : c.2.2 = 0 := Decidable.not_not.1 fun h => h0 (hz h)
     have hr := z0g hf hs c.1 xs ks c.2.1 hg.le
     have hm := j8k (hi.1 he) hx
     have hb : (q1c (q4w xs.length) fun m => if m = 0 then rret (xs, ks) else q1c (rrow item m xs ks) fun q => q4k item k q.1 q.2) B p = q1c (rrow item c.1 xs ks) (fun q => q4k item k q.1 q.2) B c.2.1 := by rw [q2c (hi.1 he), if_neg h0]
     rw [hb]
     cases hrw : rowS step c.1 xs ks c.2.1 with
     | error r =>
       obtain ⟨h1, h2, h3⟩ := hr.2 r hrw
       simp only []
       refine q5s h1 (fun h => absurd h h2) fun _ => ?_
       rw [q24 h3]
     | ok t =>
       obtain ⟨h1, h2⟩ := hr.1 t hrw
       have hl := z0h _ _ _ _ _ hrw
       simp only []
       rw [q2c h2]
       exact j75 hf hs hc k t.1 t.2.1 t.2.2 h1 (by omega)
theorem itemS_ok {f : Rd VT} (hf : Fair f) {B : List UInt8} {val : Nat → Int → VT × Nat × Int} (hv : ∀ p e, p ≤ B.length → Got (f B p) B e (val p e).1 (val p e).2.1 (val p e).2.2) (map : Bool) : StepOk (q4x map f) B (q68 map B val) := by
 intro p hp
 unfold q68 q4x
 cases map with
 | true =>
   rw [if_pos rfl, if_pos rfl]
   have ht := q58 q73 [] hp 0
   have hti := ht.is q73
   have hg := hv (lft q2t [] B p 0).2.1 (lft q2t [] B p 0).2.2 ht.le
   generalize lft q2t [] B p 0 = t at ht hti hg
   by_cases h0 : t.2.2 = 0
   · rw [h0] at hg ⊢
     have hvi := hg.is hf
     refine q5s hg.le (fun h => ?_) fun h => ?_
     · rw [q2c (hti.1 h0), q2c (hvi.1 h)]; rfl
     · rw [q2c (hti.1 h0), q24 (hvi.2 h)]
   · have := hg.no h0
     refine q5s hg.le (fun h => absurd (this.symm.trans h) h0) fun h => ?_
     rw [q24 (hti.2 h0)]
     simp only []
     rw [this]
 | false =>
   rw [if_neg (by decide), if_neg (by decide)]
   have hg := hv p 0 hp
   have hvi := hg.is hf
   refine q5s hg.le (fun h => ?_) fun h => ?_
   · rw [q2c (hvi.1 h)]; rfl
   · rw [q24 (hvi.2 h)]
def ValT (ns : List NT) (r : Int) (B : List UInt8) (a : Int) (dep : Nat) (val : Nat → Int → VT × Nat × Int) : Prop := ∀ p e, p ≤ B.length →
 ToldM Tryz.prog 62 [.ref 1000000 1 0 0, .c (.v (.int .i64 a)), .c (.v (.int .i64 (dep : Int)))] [dB ns r B p e] [some (dB ns r B (val p e).2.1 (val p e).2.2)] (val p e).1.av
theorem q8h (l : List VT) (x : VT) : rA VT.cells l ++ [x.cells.map .c] = rA VT.cells (l ++ [x]) := by simp [rA]
theorem rA_sv (l : List (List UInt8)) (x : List UInt8) : rA sPV l ++ [[.c (.v (.string (bstr x)))]] = rA sPV (l ++ [x]) := q7b sPV l x
theorem pvOk19 (l : List UInt8) : q6i (q0e l) = True := eq_true (j23 l)
theorem z3g (ns : List NT) (r : Int) (B : List UInt8) (hB : B.length ≤ 1000000) (nd : NT) (dep : Nat) (val : Nat → Int → VT × Nat × Int) (hV : ValT ns r B nd.items dep val) (hle : ∀ p e, p ≤ B.length → (val p e).2.1 ≤ B.length)
  (cnt : Nat → Nat → Nat × Nat × Int) (hC : ∀ h p : Nat, h ≤ 300 → p ≤ B.length → ToldM Tryz.prog 208 [.ref 1000000 1 0 0, .c (.v (.int .i64 (h : Int)))] [dB ns r B p 0] [some (dB ns r B (cnt h p).2.1 (cnt h p).2.2)] (.c (.v (.int .i64 ((cnt h p).1 : Int)))))
  (hcl : ∀ h p, h ≤ 300 → p ≤ B.length → (cnt h p).1 + h ≤ 300 ∧ (cnt h p).2.1 ≤ B.length ∧ ((cnt h p).2.2 ≠ 0 → (cnt h p).1 = 0)) (p0 : Nat) (hp0 : p0 ≤ B.length) (F : (List VT × List (List UInt8)) × Nat × Int)
  (hF : F = blkS (q68 (nd.kind == 12) B val) cnt 301 [] [] p0) :
  ToldM Tryz.prog 170 [.ref 1000000 1 0 0, nd.av, .c (.v (.int .i64 (dep : Int)))] [dB ns r B p0 0] [some (dB ns r B F.2.1 F.2.2)] (.tup [.c (.sl 6 (F.1.1.map VT.cells)), .c (.sl 1 (F.1.2.map sPV))]) := by
 rw [blkS] at hF
 have hC0 := hC 0 p0 (by decide) hp0
 have hl0 := hcl 0 p0 (by decide) hp0
 simp only [List.length_nil] at hF
 obtain ⟨m0, q0, x0, hc0⟩ : ∃ a b c, cnt 0 p0 = (a, b, c) := ⟨_, _, _, rfl⟩
 rw [hc0] at hC0 hl0 hF
 simp only [] at hC0 hl0 hF
 rw [show ((0 : Nat) : Int) = 0 from rfl] at hC0
 rw [NT.av_eq]
 unfold dB at *
 refine VC.toldX ent_170 [] Tryz.func170 rfl Tryz.ntmps170 fun hb hbL => ?_
 clear hb hbL
 refine q0b ?_
 refine q0z [1000000] (hC0) ?_
 refine q0b ?_
 refine VC.nil 6 43 6 (by rfl) (by trivial) (by rfl) ?_
 refine VC.nil 7 9 1 (by rfl) (by trivial) (by rfl) ?_
 generalize hm12 : (nd.kind == 12) = M at hF
 refine VC.loop (ι := {s : (List VT × List (List UInt8) × Nat) × Nat × Int × Nat // s.1.1.length + s.2.1 ≤ 300 ∧ s.1.2.1.length ≤ s.1.1.length ∧ s.1.2.2 ≤ B.length ∧ (s.2.2.1 ≠ 0 → s.2.1 = 0) ∧ 300 ≤ s.1.1.length + s.2.2.2 ∧ F = headS (blkS (q68 M B val) cnt s.2.2.2) (q68 M B val) s.2.1 s.1.1 s.1.2.1 s.1.2.2 s.2.2.1})
  (fun s => [(0, .ref 1000000 1 0 0), (2, .c (.v (.int .i64 (dep : Int)))), (4, .ref 0 1 0 0), (6, .row 48 s.1.1.1.length), (7, .row 56 s.1.1.2.1.length), (8, .c (.v (.int .i64 (s.1.2.1 : Int))))])
  (fun s => [(0, ⟨false, 33, 10, [nd.cells.map .c]⟩), (48, ⟨true, 43, 6, rA VT.cells s.1.1.1⟩), (56, ⟨true, 9, 1, rA sPV s.1.1.2.1⟩), (1000000, ⟨false, 106, 5, [[.c (.sl 10 (ns.map NT.cells)), .c (.v (.int .i64 r)), .c (.sl 1 (q0e B)), .c (.v (.int .i64 (s.1.1.2.2 : Int))), .c (.v (.int .i64 s.1.2.2.1))]]⟩)]) 800 (fun s => s.1.2.2.2)
  ⟨(([], [], q0), m0, x0, 300), by simpa using hl0.1, by simp, hl0.2.1, hl0.2.2, by simp, hF⟩ ?_ ?_
 · refine q1j (And.intro @q0d (And.intro @q0x @q1l)) ?_
   exact ⟨rfl, rfl⟩
 rintro ⟨⟨⟨xs, ks, p⟩, m, e, k⟩, h1, h2, h3, h4, h5, h6⟩
 simp only [] at h1 h2 h3 h4 h5 h6 ⊢
 refine q0b ?_
 refine VC.cond (by rfl) (by trivial) (fun hc => ?_) (fun hc => ?_)
 rotate_left
 · have hm0 : m = 0 := by simp at hc; omega
   subst hm0
   rw [headS, if_pos rfl] at h6
   subst h6
   refine q0c (@q0x) ?_
   refine q16 (And.intro @q0x @q31) Tryz.results170 ?_
   exact ⟨q37 (f := VT.cells) (l := xs) (T := 43) rfl rfl rfl fun x _ => q1b x, q37 (f := sPV) (l := ks) (T := 9) rfl rfl rfl fun x _ => rfl⟩
 have hm0 : 0 < m := by simp at hc; omega
 have he0 : e = 0 := Decidable.not_not.1 fun h => by have := h4 h; omega
 subst he0
 rw [headS, if_neg (by omega)] at h6
 refine q0b ?_
 obtain ⟨RW, hRW⟩ : ∃ RW, RW = rowS (q68 M B val) m xs ks p := ⟨_, rfl⟩
 rw [← hRW] at h6
 refine VC.loop (ι := {s : Nat × List VT × List (List UInt8) × Nat // s.1 ≤ m ∧ s.2.1.length = xs.length + s.1 ∧ s.2.2.1.length ≤ s.2.1.length ∧ s.2.2.2 ≤ B.length ∧ RW = rowS (q68 M B val) (m - s.1) s.2.1 s.2.2.1 s.2.2.2})
  (fun s => [(0, .ref 1000000 1 0 0), (2, .c (.v (.int .i64 (dep : Int)))), (4, .ref 0 1 0 0), (6, .row 48 s.1.2.1.length), (7, .row 56 s.1.2.2.1.length), (17, .c (.v (.int .i64 (m : Int)))), (18, .c (.v (.int .i64 (s.1.1 : Int))))])
  (fun s => [(0, ⟨false, 33, 10, [nd.cells.map .c]⟩), (48, ⟨true, 43, 6, rA VT.cells s.1.2.1⟩), (56, ⟨true, 9, 1, rA sPV s.1.2.2.1⟩), (1000000, ⟨false, 106, 5, [[.c (.sl 10 (ns.map NT.cells)), .c (.v (.int .i64 r)), .c (.sl 1 (q0e B)), .c (.v (.int .i64 (s.1.2.2.2 : Int))), .c (.v (.int .i64 0))]]⟩)]) 2000 (fun s => m - s.1.1)
  ⟨(0, xs, ks, p), Nat.zero_le _, rfl, h2, h3, hRW⟩ ?_ ?_
 · refine q1j (And.intro @q0d (And.intro @q0x @q1l)) ?_
   exact ⟨Nat.le_refl _, Nat.le_refl _⟩
 rintro ⟨⟨i, ys, js, q⟩, i1, i2, i3, i4, i5⟩
 simp only [] at i1 i2 i3 i4 i5 ⊢
 have hyl : (rA VT.cells ys).length = ys.length := q0x _ _
 have hjl : (rA sPV js).length = js.length := q0x _ _
 refine q0b ?_
 refine VC.cond (by rfl) (by trivial) (fun hd => ?_) (fun hd => ?_)
 rotate_left
 · have hie : i = m := by simp at hd; omega
   rw [hie, Nat.sub_self, rowS] at i5
   rw [i5] at h6
   simp only [] at h6
   obtain ⟨k, rfl⟩ : ∃ k', k = k' + 1 := ⟨k - 1, by omega⟩
   rw [blkS] at h6
   have hC1 := hC ys.length q (by omega) i4
   have hl1 := hcl ys.length q (by omega) i4
   obtain ⟨m1, q1, x1, hc1⟩ : ∃ a b c, cnt ys.length q = (a, b, c) := ⟨_, _, _, rfl⟩
   rw [hc1] at hC1 hl1 h6
   simp only [] at hC1 hl1 h6
   refine q0c (hyl) ?_
   refine q01 (And.intro @q31 @q0x) [1000000] (hC1) ?_
   refine q0b ?_
   refine .next ⟨((ys, js, q1), m1, x1, k), by simp only []; omega, i3, hl1.2.1, hl1.2.2, by simp only []; omega, h6⟩ ?_ (by simp only []; omega)
   refine q1j (And.intro @q0d (And.intro @q0x @q1l)) ?_
   exact ⟨Nat.le_refl _, Nat.le_refl _⟩
 have hlt : i < m := by simp at hd; omega
 obtain ⟨z, hz⟩ : ∃ z, m - i = z + 1 := ⟨m - i - 1, by omega⟩
 have hz' : m - (i + 1) = z := by omega
 rw [hz, rowS] at i5
 have hw : IntKind.i64.wrap ((i : Int) + 1) = ((i + 1 : Nat) : Int) := by rw [q0f (by omega) (by omega)]; omega
 cases M with
 | true =>
   have e12 : (nd.kind == 12) = true := hm12
   have hT := j5c ns r B q (lft q2t [] B q 0).2.1 0 (lft q2t [] B q 0).2.2 (lft q2t [] B q 0).1 (z2c B hB q i4 0)
   have htl := (q58 q73 [] i4 0).le
   rw [q68, if_pos rfl] at i5
   obtain ⟨y, q1, e1, hL⟩ : ∃ a b c, lft q2t [] B q 0 = (a, b, c) := ⟨_, _, _, rfl⟩
   rw [hL] at hT htl i5
   simp only [] at hT htl i5
   have hX := hV q1 e1 htl
   have hql := hle q1 e1 htl
   obtain ⟨v, q2, e2, hvv⟩ : ∃ a b c, val q1 e1 = (a, b, c) := ⟨_, _, _, rfl⟩
   rw [hvv] at hX hql i5
   simp only [] at hX hql i5
   rw [VT.av_eq] at hX
   have hby : q28 (q0e y) = y := j24 y
   have hbk := pvOk19 y
   have hk1 := rA_sv js y
   unfold dB at hT hX
   by_cases h0 : e2 = 0
   · rw [if_pos h0] at i5
     subst h0
     refine q0a (And.intro @q0d e12) ?_
     refine q01 (And.intro @q31 @q0x) [1000000] (hT) ?_
     refine q0a (And.intro @q0d (And.intro hby (And.intro hbk (And.intro hk1 hjl)))) ?_
     refine q01 (And.intro @q31 @q0x) [1000000] (hX) ?_
     refine q0a (And.intro @q1b (And.intro @q1n (And.intro @q1i (And.intro hyl (And.intro @q8h hw))))) ?_
     refine .next ⟨(i + 1, ys ++ [v], js ++ [y], q2), hlt, by simp only [List.length_append, List.length_singleton]; omega, by simp only [List.length_append, List.length_singleton]; omega, hql, by rw [i5, hz']⟩ ?_ (by simp only []; omega)
     refine q1j (And.intro @q0d (And.intro @q0x @q1l)) ?_
     exact ⟨⟨by simp, by simp⟩, Nat.le_refl _, Nat.le_refl _⟩
   · rw [if_neg h0] at i5
     rw [i5] at h6
     simp only [] at h6
     subst h6
     have e0 : (e2 != 0) = true := by simpa using h0
     refine q0a (And.intro @q0d e12) ?_
     refine q01 (And.intro @q31 @q0x) [1000000] (hT) ?_
     refine q0a (And.intro @q0d (And.intro hby (And.intro hbk (And.intro hk1 hjl)))) ?_
     refine q01 (And.intro @q31 @q0x) [1000000] (hX) ?_
     refine q0a (And.intro @q1b (And.intro @q1n (And.intro @q1i (And.intro hyl (And.intro @q8h e0))))) ?_
     refine q16 (And.intro @q0x @q31) Tryz.results170 ?_
     exact ⟨.nil 6, .nil 1⟩
 | false =>
   have e12 : (nd.kind == 12) = false := hm12
   rw [q68, if_neg Bool.false_ne_true] at i5
   have hX := hV q 0 i4
   have hql := hle q 0 i4
   obtain ⟨v, q2, e2, hvv⟩ : ∃ a b c, val q 0 = (a, b, c) := ⟨_, _, _, rfl⟩
   rw [hvv] at hX hql i5
   simp only [List.append_nil] at hX hql i5
   rw [VT.av_eq] at hX
   unfold dB at hX
   by_cases h0 : e2 = 0
   · rw [if_pos h0] at i5
     subst h0
     refine q0a (And.intro @q0d e12) ?_
     refine q01 (And.intro @q31 @q0x) [1000000] (hX) ?_
     refine q0a (And.intro @q1b (And.intro @q1n (And.intro @q1i (And.intro hyl (And.intro @q8h hw))))) ?_
     refine .next ⟨(i + 1, ys ++ [v], js, q2), hlt, by simp only [List.length_append, List.length_singleton]; omega, by simp only [List.length_append, List.length_singleton]; omega, hql, by rw [i5, hz']⟩ ?_ (by simp only []; omega)
     refine q1j (And.intro @q0d (And.intro @q0x @q1l)) ?_
     exact ⟨by simp, Nat.le_refl _, Nat.le_refl _⟩
   · rw [if_neg h0] at i5
     rw [i5] at h6
     simp only [] at h6
     subst h6
     have e0 : (e2 != 0) = true := by simpa using h0
     refine q0a (And.intro @q0d e12) ?_
     refine q01 (And.intro @q31 @q0x) [1000000] (hX) ?_
     refine q0a (And.intro @q1b (And.intro @q1n (And.intro @q1i (And.intro hyl (And.intro @q8h e0))))) ?_
     refine q16 (And.intro @q0x @q31) Tryz.results170 ?_
     exact ⟨.nil 6, .nil 1⟩
section
section
variable {P : Program} {N : Nat} {Q : Exit → ASt → Prop}
theorem VC.nilH {c : Code} {t : Nat → AV} {h : Nat → Option Blkd} {n : Nat} (j o : Nat) (T : TypeId) (z : Nat) (B : Blkd) (e : List AV) (hB : h j = some B) (hrow : B.row = false) (he : B.elems = [e]) (ho : e[o]? = some (.c (.v (.slice none 0 0)))) (hn : Nat.ble (n + 1) L0 = true)
  (hv : VC P N c ⟨t, upd (upd h n (some ⟨true, T, z, []⟩)) j (some ⟨false, B.T, B.z, [e.set o (.row n 0)]⟩), n + 8⟩ Q) : VC P N c ⟨t, h, n⟩ Q := ⟨fun C a W r => by
 obtain ⟨ro, φ, r⟩ := r
 have hn := Nat.le_of_ble_eq_true hn
 have hnu : ¬ Used n n := fun hu => by unfold Used at hu; omega
 have hjn : j ≠ n := fun e => hnu (e ▸ (r.scH j B hB).1)
 have r2 : Rel C (fun j => Used n j ∨ j = n) N t (upd h n (some ⟨true, T, z, []⟩)) ro (upd φ n (.slice none 0 0)) a W :=
  r.block (W' := W) (Keeps.refl _ _) (fun b hb => by simp [q0y] at hb) (.inr hnu)
   ⟨fun i e he => by simp at he, fun e he => by simp at he, [], ⟨rfl, fun j x v hx => by simp at hx⟩, by rw [if_pos rfl, q09]; exact World.ownsRow_nil W 0 T z⟩ (fun e he => by simp at he)
 have r3 := r2.take (used' := Used (n + 8)) fun j hj => by
  unfold Used at hj ⊢
  omega
 have hB3 : upd h n (some ⟨true, T, z, []⟩) j = some B := by rw [q1o _ _ hjn]; exact hB
 obtain ⟨b1, b2, vs, b3, b4⟩ := r3.hp j B hB3
 have helen : e.length = B.z := b1 0 e (by rw [he]; rfl)
 have hol := (List.getElem?_eq_some_iff.1 ho).1
 rw [he, List.flatten_cons, List.flatten_nil, List.append_nil] at b3
 have hg : ∀ k B', Used (n + 8) k → upd (upd h n (some ⟨true, T, z, []⟩)) j (some ⟨false, B.T, B.z, [e.set o (.row n 0)]⟩) k = some B' → ∃ B0, upd h n (some ⟨true, T, z, []⟩) k = some B0 ∧ (B0.len < B'.len ∨ (B0.len = B'.len ∧ B0.z = B'.z ∧ upd (upd φ n (.slice none 0 0)) j (upd φ n (.slice none 0 0) j) k = upd φ n (.slice none 0 0) k)) := by
  intro k B' hk hB'
  by_cases hkj : k = j
  · subst hkj
    rw [q09] at hB'
    obtain rfl := Option.some.inj hB'
    exact ⟨B, hB3, .inr ⟨by unfold Blkd.len; rw [he]; rfl, rfl, by rw [q09]⟩⟩
  · rw [q1o _ _ hkj] at hB'
    exact ⟨B', hB', .inr ⟨rfl, rfl, q1o _ _ hkj⟩⟩
 have hnew : ∀ (i : Nat) (x : AV), (e.set o (.row n 0))[i]? = some x → (i = o ∧ x = .row n 0) ∨ (i ≠ o ∧ e[i]? = some x) := by
  intro i x hx
  by_cases hio : i = o
  · subst hio
    rw [List.getElem?_set_self hol] at hx
    exact .inl ⟨rfl, (Option.some.inj hx).symm⟩
  · rw [List.getElem?_set_ne (fun e => hio e.symm)] at hx
    exact .inr ⟨hio, hx⟩
 have hrow0 : ∀ v : Value, v = .slice none 0 0 → Rep W ro (upd (upd φ n (.slice none 0 0)) j (upd φ n (.slice none 0 0) j)) (upd (upd h n (some ⟨true, T, z, []⟩)) j (some ⟨false, B.T, B.z, [e.set o (.row n 0)]⟩)) (.row n 0) v := by
  rintro v rfl
  refine .row rfl fun B' hB' _ => ?_
  rw [q1o _ _ (fun e => hjn e.symm), q09]
 have hscn : Sc (fun k => Used (n + 8) k ∨ k = j) (upd (upd h n (some ⟨true, T, z, []⟩)) j (some ⟨false, B.T, B.z, [e.set o (.row n 0)]⟩)) (.row n 0) := by
  refine .row (.inl (by unfold Used; omega)) fun B' hB' => Nat.zero_le _
 have r4 := r3.block (W' := W) (ℓ := j) (B := ⟨false, B.T, B.z, [e.set o (.row n 0)]⟩) (v := upd φ n (.slice none 0 0) j) (Keeps.refl _ _) (fun b hb => .inr ⟨B, hB3, hb⟩)
  (.inl ⟨B, hB3, .inr ⟨by unfold Blkd.len; rw [he]; rfl, rfl, rfl⟩⟩)
  ⟨fun i e' he' => by
    match i, he' with
    | 0, he' => obtain rfl := Option.some.inj he'; simpa using helen,
   fun e' he' x hx => by
    obtain rfl := List.mem_singleton.1 he'
    obtain ⟨i, hi, hxi⟩ := List.getElem_of_mem hx
    rcases hnew i x (by rw [List.getElem?_eq_getElem hi, hxi]) with ⟨_, rfl⟩ | ⟨_, h5⟩
    · rfl
    · exact b2 e (by rw [he]; exact List.mem_singleton.2 rfl) x (List.mem_of_getElem? h5),
   vs, by
    refine ⟨by simpa using b3.1, fun i x v hx hvv => ?_⟩
    simp only [List.flatten_cons, List.flatten_nil, List.append_nil] at hx
    rcases hnew i x hx with ⟨rfl, rfl⟩ | ⟨_, h5⟩
    · exact hrow0 v (q10 (b3.2 i _ v ho hvv))
    · exact (b3.2 i x v h5 hvv).map ((r3.scH j B hB3).2 e (by rw [he]; exact List.mem_singleton.2 rfl) x (List.mem_of_getElem? h5)) (fun _ _ => rfl) (fun _ h => h) hg, by
    rw [if_neg (by simp)]
    rw [if_neg (by simp [hrow])] at b4
    rw [q09]
    exact b4⟩
  (fun e' he' x hx => by
   obtain rfl := List.mem_singleton.1 he'
   obtain ⟨i, hi, hxi⟩ := List.getElem_of_mem hx
   rcases hnew i x (by rw [List.getElem?_eq_getElem hi, hxi]) with ⟨_, rfl⟩ | ⟨_, h5⟩
   · exact hscn
   · refine ((r3.scH j B hB3).2 e (by rw [he]; exact List.mem_singleton.2 rfl) x (List.mem_of_getElem? h5)).map (fun k hk => .inl hk) fun k B' hk hB' => ?_
     obtain ⟨B0, h6, h7⟩ := hg k B' hk hB'
     exact ⟨B0, h6, by rcases h7 with h7 | h7 <;> omega⟩)
 have r5 := r4.take (used' := Used (n + 8)) fun k hk => by
  rcases hk with hk | rfl
  · exact hk
  · have := (r.scH k B hB).1
    unfold Used at this ⊢
    simp only [] at this
    omega
 exact hv.out C a W ⟨ro, _, r5⟩⟩
end
end

inductive FQ (Q : Exit → ASt → Prop) : Exit → ASt → Prop
 | frz {e : Exit} {σ : ASt} (F : List Nat) (l : List (Nat × AV)) (hl : List (Nat × Blkd)) (n : Nat) (hw : WeakF σ F l hl n) (h : Q e (st l hl n)) : FQ Q e σ
theorem VC.late {P : Program} {N : Nat} {c : Code} {σ : ASt} {Q : Exit → ASt → Prop} (h : VC P N c σ (FQ Q)) : VC P N c σ Q := ⟨fun C a W r => Code.wp_mono (fun e a' W' ⟨σ', h1, h2⟩ => by
 cases h1 with
 | frz F l hl n hw h => exact ⟨_, h, j95 h2 hw⟩) (h.out C a W r)⟩
def v0B (k : Int) : Blkd := ⟨false, 43, 6, [[.c (.v (.int .i64 k)), .c (.v (.int .i64 0)), .c (.v (.int .u64 0)), .c (.v (.slice none 0 0)), .c (.v (.slice none 0 0)), .c (.v (.slice none 0 0))]]⟩
def vvB (v : VT) : Blkd := ⟨false, 43, 6, [v.cells.map .c]⟩
def zc : List AV := [.c (.v (.int .i64 0)), .c (.v (.int .i64 0)), .c (.v (.int .u64 0)), .c (.v (.slice none 0 0)), .c (.v (.slice none 0 0)), .c (.v (.slice none 0 0))]
theorem zc_len (xs : List VT) : (rA VT.cells xs ++ [zc]).length = xs.length + 1 := by simp [q0x]
theorem zc_at (xs : List VT) : (rA VT.cells xs ++ [zc])[xs.length]? = some zc := by
 rw [List.getElem?_append_right (by rw [q0x]; exact Nat.le_refl _), q0x, Nat.sub_self]
 rfl
theorem zc_set (xs : List VT) (v : VT) : (rA VT.cells xs ++ [zc]).set xs.length (v.cells.map .c) = rA VT.cells (xs ++ [v]) := by
 rw [List.set_append_right _ _ (by rw [q0x]; exact Nat.le_refl _), q0x, Nat.sub_self, List.set_cons_zero, q8h]
def fldS (val : Int → Nat → Int → VT × Nat × Int) : List FT → List VT → Nat → Int → List VT × Nat × Int
 | [], xs, p, e => (xs, p, e)
 | t :: ts, xs, p, e => if e = 0 then fldS val ts (xs ++ [(val t.type p 0).1]) (val t.type p 0).2.1 (val t.type p 0).2.2 else (xs, p, e)
theorem j81 {f : Int → Rd VT} (hf : ∀ a, Fair (f a)) {B : List UInt8} {val : Int → Nat → Int → VT × Nat × Int} : ∀ (ts : List FT) (hv : ∀ t ∈ ts, ∀ p e, p ≤ B.length → Got (f t.type B p) B e (val t.type p e).1 (val t.type p e).2.1 (val t.type p e).2.2) (xs : List VT) (p : Nat) (e : Int), p ≤ B.length →
  Got (q5y f ts xs B p) B e (fldS val ts xs p e).1 (fldS val ts xs p e).2.1 (fldS val ts xs p e).2.2
 | [], hv, xs, p, e, hp => by
   rw [fldS, q5y]
   refine ⟨hp, fun _ => rfl, fun x _ hx => ?_, fun w q' h0 hx => ?_⟩
   · unfold rret at hx; simp at hx
   · unfold rret at hx
     injection hx with hx
     injection hx with hx hx'
     exact ⟨hx, hx', h0⟩
 | t :: ts, hv, xs, p, e, hp => by
   rw [fldS, q5y]
   by_cases h : e = 0
   · rw [if_pos h]
     subst h
     have hg := hv t (by simp) p 0 hp
     have hi := hg.is (hf t.type)
     have ih := j81 hf ts (fun t ht => hv t (by simp [ht])) (xs ++ [(val t.type p 0).1]) (val t.type p 0).2.1 (val t.type p 0).2.2 hg.le
     by_cases h0 : (val t.type p 0).2.2 = 0
     · rw [h0] at ih ⊢
       rw [q2c (hi.1 h0)]
       exact ih
     · have hno := ih.no h0
       refine q5s ih.le (fun h => absurd (hno.symm.trans h) h0) fun _ => ?_
       rw [q24 (hi.2 h0), hno]
   · rw [if_neg h]
     exact ⟨hp, fun _ => rfl, fun x h0 => absurd h0 h, fun w q' h0 => absurd h0 h⟩
theorem z3a (ns : List NT) (r : Int) (B : List UInt8) (hB : B.length ≤ 1000000) (nd : NT) (hk : nd.kind = 9) (hfl : nd.fields.length ≤ 1000000) (dep : Nat) (val : Int → Nat → Int → VT × Nat × Int) (hV : ∀ t ∈ nd.fields, ValT ns r B t.type dep (val t.type)) (hle : ∀ t ∈ nd.fields, ∀ p e, p ≤ B.length → (val t.type p e).2.1 ≤ B.length)
  (p0 : Nat) (hp0 : p0 ≤ B.length) (e0 : Int) (F : List VT × Nat × Int) (hF : F = fldS val nd.fields [] p0 e0) :
  ToldM Tryz.prog 120 [.ref 1000000 1 0 0, nd.av, .ref 1000001 1 0 0, .c (.v (.int .i64 (dep : Int)))] [dB ns r B p0 e0, v0B nd.kind] [some (dB ns r B F.2.1 F.2.2), some (vvB (.mk nd.kind 0 0 [] F.1 []))] (.tup []) := by
 have e9 : (nd.kind == 9) = true := by simpa using hk
 rw [NT.av_eq]
 unfold dB v0B vvB
 rw [q03]
 refine VC.toldX j3g [] Tryz.func120 rfl Tryz.ntmps120 fun hb hbL => ?_
 clear hb hbL
 refine q0a (And.intro @q0d e9) ?_
 refine VC.nilH 1000001 4 43 6 ⟨false, 43, 6, [[.c (.v (.int .i64 nd.kind)), .c (.v (.int .i64 0)), .c (.v (.int .u64 0)), .c (.v (.slice none 0 0)), .c (.v (.slice none 0 0)), .c (.v (.slice none 0 0))]]⟩ [.c (.v (.int .i64 nd.kind)), .c (.v (.int .i64 0)), .c (.v (.int .u64 0)), .c (.v (.slice none 0 0)), .c (.v (.slice none 0 0)), .c (.v (.slice none 0 0))] rfl rfl rfl rfl (by rfl) ?_
 refine VC.loop (ι := {s : Nat × List VT × Nat × Int // s.1 ≤ nd.fields.length ∧ s.2.1.length = s.1 ∧ s.2.2.1 ≤ B.length ∧ F = fldS val (nd.fields.drop s.1) s.2.1 s.2.2.1 s.2.2.2})
  (fun s => [(0, .ref 1000000 1 0 0), (2, .ref 1000001 1 0 0), (3, .c (.v (.int .i64 (dep : Int)))), (5, .ref 0 1 0 0), (28, .c (.sl 9 (nd.fields.map FT.cells))), (29, .c (.v (.int .i64 (nd.fields.length : Int)))), (30, .c (.v (.int .i64 (s.1.1 : Int))))])
  (fun s => [(0, ⟨false, 33, 10, [nd.cells.map .c]⟩), (72, ⟨true, 43, 6, rA VT.cells s.1.2.1⟩), (1000001, ⟨false, 43, 6, [[.c (.v (.int .i64 nd.kind)), .c (.v (.int .i64 0)), .c (.v (.int .u64 0)), .c (.v (.slice none 0 0)), .row 72 s.1.2.1.length, .c (.v (.slice none 0 0))]]⟩),
   (1000000, ⟨false, 106, 5, [[.c (.sl 10 (ns.map NT.cells)), .c (.v (.int .i64 r)), .c (.sl 1 (q0e B)), .c (.v (.int .i64 (s.1.2.2.1 : Int))), .c (.v (.int .i64 s.1.2.2.2))]]⟩)]) 2000 (fun s => nd.fields.length - s.1.1)
  ⟨(0, [], p0, e0), Nat.zero_le _, rfl, hp0, hF⟩ ?_ ?_
 · simp only [q0d, q0x, q1l, List.length_map, Weak, eq_self, q0v, q0p, sc_c, q0r, q0s, q0t, q0o, q0q, ScL, q0u, List.forall_mem_map, go_sem, Int.reduceBEq, Int.reduceLE, Int.reduceLT, Int.reduceNeg, Nat.reduceAdd, Nat.reduceEqDiff, Nat.reduceLT, Nat.reduceLeDiff, Nat.reduceMul, Nat.reduceSub, reduceCtorEq, ↓reduceIte]
   all_goals first | rfl | exact ⟨rfl, rfl⟩ | exact ⟨⟨rfl, rfl⟩, rfl⟩ | skip
 rintro ⟨⟨i, xs, p, e⟩, h1, h2, h3, h4⟩
 simp only [] at h1 h2 h3 h4 ⊢
 have hxl : (rA VT.cells xs).length = xs.length := q0x _ _
 have hend : (p, e) = (F.2.1, F.2.2) ∧ xs = F.1 → VC Tryz.prog 0 .skip (st [] [] 0) (fun _ _ => True) := fun _ => VC.skip trivial
 clear hend
 refine q0b ?_
 refine VC.cond (by rfl) (by trivial) (fun hd => ?_) (fun hd => ?_)
 rotate_left
 · have hie : i = nd.fields.length := by simp at hd; omega
   rw [hie, List.drop_length, fldS] at h4
   subst h4
   refine VC.frz [72] [] [(1000001, ⟨false, 43, 6, [(VT.mk nd.kind 0 0 [] xs []).cells.map .c]⟩), (1000000, ⟨false, 106, 5, [[.c (.sl 10 (ns.map NT.cells)), .c (.v (.int .i64 r)), .c (.sl 1 (q0e B)), .c (.v (.int .i64 (p : Int))), .c (.v (.int .i64 e))]]⟩)] 3000 ?_ ?_
   · refine q5c (And.intro @q1l @q0x) ?_
     rw [q03]
     exact ⟨.one (.cons (.same _) (.cons (.same _) (.cons (.same _) (.cons (.nil 1) (.cons (.row (B := ⟨true, 43, 6, rA VT.cells xs⟩) (es := xs.map VT.cells) (by simp) rfl rfl (q0x _ _) (q5j _ _)) (.cons (.nil 1) .nil)))))) (by simp [AV.cellish]), .same _⟩
   refine q0m ?_
   exact retZF (@q03) Tryz.results120
 have hlt : i < nd.fields.length := by simp at hd; omega
 obtain ⟨fd, hx⟩ : ∃ fd, nd.fields[i]? = some fd := ⟨nd.fields[i], List.getElem?_eq_getElem hlt⟩
 have hmem := List.mem_of_getElem? hx
 have hxq : (nd.fields.map FT.cells)[i]? = some fd.cells := by rw [List.getElem?_map, hx]; rfl
 have hw : IntKind.i64.wrap ((i : Int) + 1) = ((i + 1 : Nat) : Int) := by rw [q0f (by omega) (by omega)]; omega
 have hdr : nd.fields.drop i = fd :: nd.fields.drop (i + 1) := by
  rw [List.drop_eq_getElem_cons hlt]
  congr 1
  exact Option.some.inj ((List.getElem?_eq_getElem hlt).symm.trans hx)
 by_cases h0 : e = 0
 · subst h0
   have g4 := h4
   rw [hdr, fldS, if_pos rfl] at g4
   have hX := hV fd hmem p 0 h3
   have hql := hle fd hmem p 0 h3
   obtain ⟨v, q2, e2, hvv⟩ : ∃ a b c, val fd.type p 0 = (a, b, c) := ⟨_, _, _, rfl⟩
   rw [hvv] at hX hql g4
   simp only [] at hX hql g4
   rw [VT.av_eq] at hX
   unfold dB at hX
   refine q0a (And.intro @q0d (And.intro hxq (And.intro @q3h (And.intro @j3x (And.intro @z0y (And.intro @z0z (And.intro @q1z (And.intro @q18 @q19)))))))) ?_
   refine q01 (And.intro @q31 @q0x) [1000000] (hX) ?_
   refine q0a (And.intro @q1b (And.intro @q1n (And.intro @q1i (And.intro hxl (And.intro @q8h hw))))) ?_
   refine AO.stepJw rfl (J_buildC _ [.int .i64 0, .int .i64 0, .int .u64 0, .slice none 0 0, .slice none 0 0, .slice none 0 0] _ _ rfl q7l rfl q7m rfl (by decide) rfl (by decide) rfl rfl) ?_
   refine q0a (And.intro @q1b (And.intro @q1n (And.intro @q1i (And.intro hxl (And.intro @q8h hw))))) ?_
   (refine AO.step fun K hK => ?_; simp only [go_sem, Int.reduceBEq, Int.reduceLE, Int.reduceLT, Int.reduceNeg, Nat.reduceAdd, Nat.reduceEqDiff, Nat.reduceLT, Nat.reduceLeDiff, Nat.reduceMul, Nat.reduceSub, reduceCtorEq, ↓reduceIte, q1b, q1n, q1i, hxl, q8h, hw]; (first | refine q1k ?_ | skip))
   refine ⟨⟨by simp [q0x], by omega, by omega⟩, hK _ _ _ ?_⟩
   clear hK K
   have hz1 := zc_at xs
   have hz2 := zc_set xs v
   have hz3 := zc_len xs
   unfold zc at hz1 hz2 hz3
   refine q0a (And.intro @q1b (And.intro @q1n (And.intro @q1i (And.intro hxl (And.intro hz1 (And.intro hz2 (And.intro hz3 hw))))))) ?_
   refine .next ⟨(i + 1, xs ++ [v], q2, e2), hlt, by simp [h2], hql, g4⟩ ?_ (by simp only []; omega)
   simp only [q0d, q0x, q1l, List.length_map, Weak, eq_self, q0v, q0p, sc_c, q0r, q0s, q0t, q0o, q0q, ScL, q0u, List.forall_mem_map, go_sem, Int.reduceBEq, Int.reduceLE, Int.reduceLT, Int.reduceNeg, Nat.reduceAdd, Nat.reduceEqDiff, Nat.reduceLT, Nat.reduceLeDiff, Nat.reduceMul, Nat.reduceSub, reduceCtorEq, ↓reduceIte]
   all_goals first | exact ⟨by simp, by simp⟩ | simp
 · have g4 := h4
   rw [hdr, fldS, if_neg h0] at g4
   have e1 : (e != 0) = true := by simpa using h0
   refine VC.frz [72] [(0, .ref 1000000 1 0 0), (28, .c (.sl 9 (nd.fields.map FT.cells))), (30, .c (.v (.int .i64 (i : Int))))] [(1000001, ⟨false, 43, 6, [(VT.mk nd.kind 0 0 [] xs []).cells.map .c]⟩), (1000000, ⟨false, 106, 5, [[.c (.sl 10 (ns.map NT.cells)), .c (.v (.int .i64 r)), .c (.sl 1 (q0e B)), .c (.v (.int .i64 (p : Int))), .c (.v (.int .i64 e))]]⟩)] 3000 ?_ ?_
   · refine q5c (And.intro @q1l @q0x) ?_
     rw [q03]
     exact ⟨⟨.same _, .same _, .same _⟩, .one (.cons (.same _) (.cons (.same _) (.cons (.same _) (.cons (.nil 1) (.cons (.row (B := ⟨true, 43, 6, rA VT.cells xs⟩) (es := xs.map VT.cells) (by simp) rfl rfl (q0x _ _) (q5j _ _)) (.cons (.nil 1) .nil)))))) (by simp [AV.cellish]), .same _⟩
   refine q0a (And.intro @q0d (And.intro hxq (And.intro @q3h (And.intro @j3x (And.intro @z0y (And.intro @z0z (And.intro @q1z (And.intro @q18 (And.intro @q19 e1))))))))) ?_
   rw [g4]
   exact retZF (@q03) Tryz.results120
def plcS (f : Rd Int) (B : List UInt8) (many p : Nat) (e : Int) : Int × Nat × Int :=
 if (lft f 0 B p e).1 < 0 ∨ (many : Int) ≤ (lft f 0 B p e).1 then (0, (lft f 0 B p e).2.1, if (lft f 0 B p e).2.2 = 0 then 11 else (lft f 0 B p e).2.2) else lft f 0 B p e
theorem j6e {f : Rd Int} (hf : Fair f) {B : List UInt8} (many : Nat) {p : Nat} (hp : p ≤ B.length) (e : Int) : Got (q8j f many B p) B e (plcS f B many p e).1 (plcS f B many p e).2.1 (plcS f B many p e).2.2 := by
 unfold plcS q8j
 by_cases h : e = 0
 · subst h
   have hg := q58 hf 0 hp 0
   have hi := hg.is hf
   generalize lft f 0 B p 0 = L at hg hi
   by_cases h0 : L.2.2 = 0
   · rw [if_pos h0, q2c (hi.1 h0)]
     by_cases h1 : L.1 < 0 ∨ (many : Int) ≤ L.1
     · rw [if_pos h1, if_pos h1]
       exact q5s hg.le (fun h => absurd h (show ¬ ((11 : Int) = 0) by decide)) fun _ => rfl
     · rw [if_neg h1, if_neg h1]
       exact q5s hg.le (fun _ => by rw [h0] at *; rfl) fun h => absurd h0 h
   · rw [if_neg h0, q24 (hi.2 h0)]
     split
     · exact ⟨hg.le, fun h => absurd rfl h, fun x _ hx => by injection hx, fun w q' _ hx => by simp at hx⟩
     · exact ⟨hg.le, fun h => absurd rfl h, fun x _ hx => by injection hx, fun w q' _ hx => by simp at hx⟩
 · rw [q5w _ _ _ _ h]
   refine ⟨?_, fun _ => ?_, fun x h0 => absurd h0 h, fun w q' h0 => absurd h0 h⟩
   · split <;> exact hp
   · split <;> simp [h]
theorem plcS_in {f : Rd Int} {B : List UInt8} {many p : Nat} {e : Int} (h : (plcS f B many p e).2.2 = 0) : 0 ≤ (plcS f B many p e).1 ∧ (plcS f B many p e).1 < (many : Int) := by
 unfold plcS at h ⊢
 split at h
 · simp only [] at h
   split at h
   · simp at h
   · contradiction
 · rename_i h1
   rw [if_neg h1]
   omega
theorem j8p {g : FuncId} (f : Rd Int) (ns : List NT) (r : Int) (B : List UInt8) (p : Nat) (e : Int) (many : Nat) (hg : Told Tryz.prog g [.agg ((rC B p e).map .c)] (.tup [.c (.v (.int .i64 (lft f 0 B p e).1)), .agg ((rC B (lft f 0 B p e).2.1 (lft f 0 B p e).2.2).map .c)])) :
  ToldM Tryz.prog 118 [.ref 1000000 1 0 0, .fn (.func g) [] [], .c (.v (.int .i64 (many : Int)))] [dB ns r B p e] [some (dB ns r B (plcS f B many p e).2.1 (plcS f B many p e).2.2)] (.c (.v (.int .i64 (plcS f B many p e).1))) := by
 have h := z3h ns r B p _ e _ _ many (q7x ns r B p _ e _ _ hg)
 unfold plcS
 by_cases h1 : (lft f 0 B p e).1 < 0 ∨ (many : Int) ≤ (lft f 0 B p e).1
 · rw [if_pos h1, if_pos h1] at h
   rw [if_pos h1]
   exact h
 · rw [if_neg h1, if_neg h1] at h
   rw [if_neg h1]
   exact h
theorem z29 (ns : List NT) (r : Int) (B : List UInt8) (hB : B.length ≤ 1000000) (nd : NT) (hk : nd.kind = 13) (hbl : nd.branches.length ≤ 1000000) (dep : Nat) (val : Int → Nat → Int → VT × Nat × Int) (hV : ∀ a ∈ nd.branches, ValT ns r B a dep (val a))
  (p0 : Nat) (hp0 : p0 ≤ B.length) (e0 : Int) (P : Int × Nat × Int) (hP : P = plcS q2r B nd.branches.length p0 e0) (F : List VT × Nat × Int) (hF : F = if P.2.2 = 0 then ([(val (q2x nd P.1) P.2.1 0).1], (val (q2x nd P.1) P.2.1 0).2) else ([], P.2)) :
  ToldM Tryz.prog 120 [.ref 1000000 1 0 0, nd.av, .ref 1000001 1 0 0, .c (.v (.int .i64 (dep : Int)))] [dB ns r B p0 e0, v0B nd.kind] [some (dB ns r B F.2.1 F.2.2), some (vvB (.mk nd.kind P.1 0 [] F.1 []))] (.tup []) := by
 have e9 : (nd.kind == 9) = false := by simp; omega
 have e13 : (nd.kind == 13) = true := by simpa using hk
 have hPl := j8p q2r ns r B p0 e0 nd.branches.length (j1x B hB p0 hp0 e0)
 have hgl := (j6e q36 nd.branches.length hp0 e0).le
 have hin := plcS_in (f := q2r) (B := B) (many := nd.branches.length) (p := p0) (e := e0)
 rw [← hP] at hPl hgl hin
 obtain ⟨N, q, E⟩ := P
 clear hP
 simp only [] at hPl hgl hin hF ⊢
 rw [NT.av_eq]
 unfold dB v0B vvB at *
 rw [q03]
 by_cases h0 : E = 0
 · rw [if_pos h0] at hF
   subst h0
   obtain ⟨n1, n2⟩ := hin rfl
   have hlt : N.toNat < nd.branches.length := by omega
   have hba : nd.branches[N.toNat]? = some (q2x nd N) := by rw [q2x, List.getElem?_eq_getElem hlt]
   have hbp : (nd.branches.map iPV)[N.toNat]? = some [.v (.int .i64 (q2x nd N))] := by rw [List.getElem?_map, hba]; rfl
   have hX := hV _ (List.mem_of_getElem? hba) q 0 hgl
   generalize q2x nd N = a at hX hF hbp
   obtain ⟨v, q2, e2, hvv⟩ : ∃ x y z, val a q 0 = (x, y, z) := ⟨_, _, _, rfl⟩
   rw [hvv] at hX hF
   simp only [] at hX hF
   rw [VT.av_eq] at hX
   unfold dB at hX
   subst hF
   refine VC.toldX j3g [] Tryz.func120 rfl Tryz.ntmps120 fun hb hbL => ?_
   clear hb hbL
   refine VC.late ?_
   refine q0a (And.intro @q0d (And.intro e9 e13)) ?_
   refine q0z [1000000] (hPl) ?_
   refine q0a (And.intro @q0d hbp) ?_
   refine q0z [1000000] (hX) ?_
   refine q0a (And.intro @q1b (And.intro @q1n @q1i)) ?_
   refine .frz [272] [] [(1000001, ⟨false, 43, 6, [(VT.mk nd.kind N 0 [] [v] []).cells.map .c]⟩), (1000000, ⟨false, 106, 5, [[.c (.sl 10 (ns.map NT.cells)), .c (.v (.int .i64 r)), .c (.sl 1 (q0e B)), .c (.v (.int .i64 (q2 : Int))), .c (.v (.int .i64 e2))]]⟩)] 3000 ?_ ?_
   · refine q5c (And.intro @q1l @q0x) ?_
     rw [q03]
     exact ⟨.one (.cons (.same _) (.cons (.same _) (.cons (.same _) (.cons (.nil 1) (.cons (.row (B := ⟨true, 43, 6, [v.cells.map .c]⟩) (es := [v.cells]) (by simp) rfl rfl rfl rfl) (.cons (.nil 1) .nil)))))) (by simp [AV.cellish]), .same _⟩
   exact retZF (@q03) Tryz.results120
 · rw [if_neg h0] at hF
   subst hF
   have e1 : (E == 0) = false := by simpa using h0
   refine VC.toldX j3g [] Tryz.func120 rfl Tryz.ntmps120 fun hb hbL => ?_
   clear hb hbL
   refine VC.late ?_
   refine q0a (And.intro @q0d (And.intro e9 e13)) ?_
   refine q0z [1000000] (hPl) ?_
   refine q0a (e1) ?_
   refine .frz [] [] [(1000001, ⟨false, 43, 6, [(VT.mk nd.kind N 0 [] [] []).cells.map .c]⟩), (1000000, ⟨false, 106, 5, [[.c (.sl 10 (ns.map NT.cells)), .c (.v (.int .i64 r)), .c (.sl 1 (q0e B)), .c (.v (.int .i64 (q : Int))), .c (.v (.int .i64 E))]]⟩)] 3000 ?_ ?_
   · refine q5c (And.intro @q1l @q0x) ?_
     rw [q03]
     exact ⟨.one (.cons (.same _) (.cons (.same _) (.cons (.same _) (.cons (.nil 1) (.cons (.nil 6) (.cons (.nil 1) .nil)))))) (by simp [AV.cellish]), .same _⟩
   exact retZF (@q03) Tryz.results120
theorem z3b (ns : List NT) (r : Int) (B : List UInt8) (hB : B.length ≤ 1000000) (p : Nat) (hp : p ≤ B.length) (e : Int) (he : e ≠ 0) :
  ToldM Tryz.prog 208 [.ref 1000000 1 0 0, .c (.v (.int .i64 0))] [dB ns r B p e] [some (dB ns r B p e)] (.c (.v (.int .i64 0))) := by
 have hL := j1x B hB p hp e
 rw [q5w _ _ _ _ he] at hL
 have hN := q7x ns r B p p e e 0 hL
 have e1 : (e != 0) = true := by simpa using he
 have hw : IntKind.i64.wrap (300 - 0) = 300 := by decide
 have hz : decide ((0 : Int) > 300) = false := by decide
 unfold dB at *
 refine VC.toldX q70 [] Tryz.func208 rfl Tryz.ntmps208 fun hb hbL => ?_
 clear hb hbL
 refine q0b ?_
 refine q0z [1000000] (hN) ?_
 refine q0a (And.intro hw (And.intro hz e1)) ?_
 refine retX Tryz.results208 ?_
 exact .c _
theorem z3f (ns : List NT) (r : Int) (B : List UInt8) (hB : B.length ≤ 1000000) (nd : NT) (dep : Nat) (p : Nat) (hp : p ≤ B.length) (e : Int) (he : e ≠ 0) :
  ToldM Tryz.prog 170 [.ref 1000000 1 0 0, nd.av, .c (.v (.int .i64 (dep : Int)))] [dB ns r B p e] [some (dB ns r B p e)] (.tup [.c (.sl 6 (([] : List VT).map VT.cells)), .c (.sl 1 (([] : List (List UInt8)).map sPV))]) := by
 have hC := z3b ns r B hB p hp e he
 have hz : decide ((0 : Int) > 0) = false := by decide
 rw [NT.av_eq]
 unfold dB at *
 refine VC.toldX ent_170 [] Tryz.func170 rfl Tryz.ntmps170 fun hb hbL => ?_
 clear hb hbL
 refine q0b ?_
 refine q0z [1000000] (hC) ?_
 refine q0b ?_
 refine VC.loop (ι := Unit) (fun _ => [(0, .ref 1000000 1 0 0), (6, .c (.v (.slice none 0 0))), (7, .c (.v (.slice none 0 0))), (8, .c (.v (.int .i64 0)))])
  (fun _ => [(1000000, ⟨false, 106, 5, [[.c (.sl 10 (ns.map NT.cells)), .c (.v (.int .i64 r)), .c (.sl 1 (q0e B)), .c (.v (.int .i64 (p : Int))), .c (.v (.int .i64 e))]]⟩)]) 800 (fun _ => 0) () ?_ ?_
 · exact q2f (@q0d)
 rintro ⟨⟩
 refine q0a (hz) ?_
 refine retX Tryz.results170 ?_
 exact ⟨.nil 6, .nil 1⟩
theorem z28 (ns : List NT) (r : Int) (B : List UInt8) (nd : NT) (hk : nd.kind = 11 ∨ nd.kind = 12) (dep : Nat) (p q : Nat) (e e' : Int) (xs : List VT) (ks : List (List UInt8))
  (hI : ToldM Tryz.prog 170 [.ref 1000000 1 0 0, nd.av, .c (.v (.int .i64 (dep : Int)))] [dB ns r B p e] [some (dB ns r B q e')] (.tup [.c (.sl 6 (xs.map VT.cells)), .c (.sl 1 (ks.map sPV))])) :
  ToldM Tryz.prog 120 [.ref 1000000 1 0 0, nd.av, .ref 1000001 1 0 0, .c (.v (.int .i64 (dep : Int)))] [dB ns r B p e, v0B nd.kind] [some (dB ns r B q e'), some (vvB (.mk nd.kind 0 0 [] xs ks))] (.tup []) := by
 have e9 : (nd.kind == 9) = false := by simp; omega
 have e13 : (nd.kind == 13) = false := by simp; omega
 rw [NT.av_eq] at hI ⊢
 unfold dB v0B vvB at *
 rw [q03]
 refine VC.toldX j3g [] Tryz.func120 rfl Tryz.ntmps120 fun hb hbL => ?_
 clear hb hbL
 refine VC.late ?_
 refine q0a (And.intro @q0d (And.intro e9 e13)) ?_
 refine q01 (@q0d) [1000000] (hI) ?_
 refine q0m ?_
 refine .frz [] [] [(1000001, ⟨false, 43, 6, [(VT.mk nd.kind 0 0 [] xs ks).cells.map .c]⟩), (1000000, ⟨false, 106, 5, [[.c (.sl 10 (ns.map NT.cells)), .c (.v (.int .i64 r)), .c (.sl 1 (q0e B)), .c (.v (.int .i64 (q : Int))), .c (.v (.int .i64 e'))]]⟩)] 3000 ?_ ?_
 · refine q5c (And.intro @q1l @q0x) ?_
   rw [q03]
   exact ⟨.one (.cons (.same _) (.cons (.same _) (.cons (.same _) (.cons (.nil 1) (.cons (.same _) (.cons (.same _) .nil)))))) (by simp [AV.cellish]), .same _⟩
 exact retZF (@q03) Tryz.results120

theorem q59 {α β : Type} {f : Rd α} (hf : Fair f) (g : α → β) {B : List UInt8} {p : Nat} {e : Int} {x : α} {q : Nat} {e' : Int} (h : Got (f B p) B e x q e') : Got (q1c f (fun x => rret (g x)) B p) B e (g x) q e' := by
 by_cases h0 : e = 0
 · subst h0
   have hi := h.is hf
   refine q5s h.le (fun h1 => ?_) fun h1 => ?_
   · rw [q2c (hi.1 h1)]; rfl
   · rw [q24 (hi.2 h1)]
 · exact ⟨h.le, fun _ => h.no h0, fun x h1 => absurd h1 h0, fun w q' h1 => absurd h1 h0⟩
def ValE (ns : List NT) (r : Int) (B : List UInt8) (a : Int) (dep : Nat) (f : Rd VT) (p : Nat) (e : Int) : Prop := ∃ (v : VT) (q : Nat) (e' : Int), Got (f B p) B e v q e' ∧
 ToldM Tryz.prog 62 [.ref 1000000 1 0 0, .c (.v (.int .i64 a)), .c (.v (.int .i64 (dep : Int)))] [dB ns r B p e] [some (dB ns r B q e')] v.av
theorem z3m (ns : List NT) (r : Int) (B : List UInt8) (hB : B.length ≤ 1000000) (a : Nat) (nd : NT) (hnd : ns[a]? = some nd) (hk : nd.kind = 2) (dep : Nat) (p : Nat) (hp : p ≤ B.length) (e : Int) : ValE ns r B (a : Int) dep (q1w nd) p e := by
 have hnp : (ns.map NT.cells)[a]? = some nd.cells := by rw [List.getElem?_map, hnd]; rfl
 have ha : a < ns.length := (List.getElem?_eq_some_iff.1 hnd).1
 have e2 : (nd.kind == 2) = true := by rw [hk]; rfl
 have hR : q1w nd = q1c q48 fun x => rret (.mk nd.kind x 0 [] [] []) := by unfold q1w; rw [if_pos hk]
 have hG := q59 j5r (fun x => VT.mk nd.kind x 0 [] [] []) (q58 j5r 0 hp e)
 have hT := q7x ns r B p _ e _ _ (z6y B hB p hp e)
 rw [← hR] at hG
 generalize lft q48 0 B p e = L at hG hT
 refine ⟨_, _, _, hG, ?_⟩
 clear hG hR
 rw [VT.av_eq, q03]
 unfold dB at *
 refine VC.toldX q35 [] Tryz.func62 rfl Tryz.ntmps62 fun hb hbL => ?_
 clear hb hbL
 refine q0a (And.intro hnp (And.intro @q0d (And.intro @q1m e2))) ?_
 refine q01 (@q0d) [1000000] (hT) ?_
 refine q0a (@q0d) ?_
 refine retX Tryz.results62 ?_
 exact Frz.aggL (.cons (.c _) (.cons (.c _) (.cons (.c _) (.cons (.nil 1) (.cons (.nil 6) (.cons (.nil 1) .nil))))))
theorem z3n (ns : List NT) (r : Int) (B : List UInt8) (hB : B.length ≤ 1000000) (a : Nat) (nd : NT) (hnd : ns[a]? = some nd) (hk : nd.kind = 3) (dep : Nat) (p : Nat) (hp : p ≤ B.length) (e : Int) : ValE ns r B (a : Int) dep (q1w nd) p e := by
 have hnp : (ns.map NT.cells)[a]? = some nd.cells := by rw [List.getElem?_map, hnd]; rfl
 have ha : a < ns.length := (List.getElem?_eq_some_iff.1 hnd).1
 have e2 : (nd.kind == 2) = false := by rw [hk]; rfl
 have e3 : (nd.kind == 3) = true := by rw [hk]; rfl
 have hR : q1w nd = q1c rint fun x => rret (.mk nd.kind x 0 [] [] []) := by unfold q1w; rw [if_neg (by rw [hk]; decide), if_pos hk]
 have hG := q59 j1m (fun x => VT.mk nd.kind x 0 [] [] []) (q58 j1m 0 hp e)
 have hT := q7x ns r B p _ e _ _ (z17 B hB p hp e)
 rw [← hR] at hG
 generalize lft rint 0 B p e = L at hG hT
 refine ⟨_, _, _, hG, ?_⟩
 clear hG hR
 rw [VT.av_eq, q03]
 unfold dB at *
 refine VC.toldX q35 [] Tryz.func62 rfl Tryz.ntmps62 fun hb hbL => ?_
 clear hb hbL
 refine q0a (And.intro hnp (And.intro @q0d (And.intro @q1m (And.intro e2 e3)))) ?_
 refine q01 (@q0d) [1000000] (hT) ?_
 refine q0a (@q0d) ?_
 refine retX Tryz.results62 ?_
 exact Frz.aggL (.cons (.c _) (.cons (.c _) (.cons (.c _) (.cons (.nil 1) (.cons (.nil 6) (.cons (.nil 1) .nil))))))
theorem z3o (ns : List NT) (r : Int) (B : List UInt8) (hB : B.length ≤ 1000000) (a : Nat) (nd : NT) (hnd : ns[a]? = some nd) (hk : nd.kind = 4) (dep : Nat) (p : Nat) (hp : p ≤ B.length) (e : Int) : ValE ns r B (a : Int) dep (q1w nd) p e := by
 have hnp : (ns.map NT.cells)[a]? = some nd.cells := by rw [List.getElem?_map, hnd]; rfl
 have ha : a < ns.length := (List.getElem?_eq_some_iff.1 hnd).1
 have e2 : (nd.kind == 2) = false := by rw [hk]; rfl
 have e3 : (nd.kind == 3) = false := by rw [hk]; rfl
 have e4 : (nd.kind == 4) = true := by rw [hk]; rfl
 have hR : q1w nd = q1c q2r fun x => rret (.mk nd.kind x 0 [] [] []) := by unfold q1w; rw [if_neg (by rw [hk]; decide), if_neg (by rw [hk]; decide), if_pos hk]
 have hG := q59 q36 (fun x => VT.mk nd.kind x 0 [] [] []) (q58 q36 0 hp e)
 have hT := q7x ns r B p _ e _ _ (j1x B hB p hp e)
 rw [← hR] at hG
 generalize lft q2r 0 B p e = L at hG hT
 refine ⟨_, _, _, hG, ?_⟩
 clear hG hR
 rw [VT.av_eq, q03]
 unfold dB at *
 refine VC.toldX q35 [] Tryz.func62 rfl Tryz.ntmps62 fun hb hbL => ?_
 clear hb hbL
 refine q0a (And.intro hnp (And.intro @q0d (And.intro @q1m (And.intro e2 (And.intro e3 e4))))) ?_
 refine q01 (@q0d) [1000000] (hT) ?_
 refine q0a (@q0d) ?_
 refine retX Tryz.results62 ?_
 exact Frz.aggL (.cons (.c _) (.cons (.c _) (.cons (.c _) (.cons (.nil 1) (.cons (.nil 6) (.cons (.nil 1) .nil))))))
theorem z3p (ns : List NT) (r : Int) (B : List UInt8) (hB : B.length ≤ 1000000) (a : Nat) (nd : NT) (hnd : ns[a]? = some nd) (hk : nd.kind = 5) (dep : Nat) (p : Nat) (hp : p ≤ B.length) (e : Int) : ValE ns r B (a : Int) dep (q1w nd) p e := by
 have hnp : (ns.map NT.cells)[a]? = some nd.cells := by rw [List.getElem?_map, hnd]; rfl
 have ha : a < ns.length := (List.getElem?_eq_some_iff.1 hnd).1
 have e2 : (nd.kind == 2) = false := by rw [hk]; rfl
 have e3 : (nd.kind == 3) = false := by rw [hk]; rfl
 have e4 : (nd.kind == 4) = false := by rw [hk]; rfl
 have e5 : (nd.kind == 5) = true := by rw [hk]; rfl
 have hR : q1w nd = q1c (q47 4) fun x => rret (.mk nd.kind 0 x [] [] []) := by unfold q1w; rw [if_neg (by rw [hk]; decide), if_neg (by rw [hk]; decide), if_neg (by rw [hk]; decide), if_pos hk]
 have hG := q59 (j1l 4) (fun x => VT.mk nd.kind 0 x [] [] []) (q58 (j1l 4) 0 hp e)
 have hT := z10 B hB p hp e 4 (by decide)
 rw [← hR] at hG
 generalize lft (q47 4) 0 B p e = L at hG hT
 refine ⟨_, _, _, hG, ?_⟩
 clear hG hR
 rw [VT.av_eq, q03]
 unfold dB at *
 unfold rC at hT
 rw [show ((4 : Nat) : Int) = 4 from rfl] at hT
 refine VC.toldX q35 [] Tryz.func62 rfl Tryz.ntmps62 fun hb hbL => ?_
 clear hb hbL
 refine q0a (And.intro hnp (And.intro @q0d (And.intro @q1m (And.intro e2 (And.intro e3 (And.intro e4 e5)))))) ?_
 refine q0j (hT) ?_
 refine q0a (@q0d) ?_
 refine retX Tryz.results62 ?_
 exact Frz.aggL (.cons (.c _) (.cons (.c _) (.cons (.c _) (.cons (.nil 1) (.cons (.nil 6) (.cons (.nil 1) .nil))))))
theorem z3q (ns : List NT) (r : Int) (B : List UInt8) (hB : B.length ≤ 1000000) (a : Nat) (nd : NT) (hnd : ns[a]? = some nd) (hk : nd.kind = 6) (dep : Nat) (p : Nat) (hp : p ≤ B.length) (e : Int) : ValE ns r B (a : Int) dep (q1w nd) p e := by
 have hnp : (ns.map NT.cells)[a]? = some nd.cells := by rw [List.getElem?_map, hnd]; rfl
 have ha : a < ns.length := (List.getElem?_eq_some_iff.1 hnd).1
 have e2 : (nd.kind == 2) = false := by rw [hk]; rfl
 have e3 : (nd.kind == 3) = false := by rw [hk]; rfl
 have e4 : (nd.kind == 4) = false := by rw [hk]; rfl
 have e5 : (nd.kind == 5) = false := by rw [hk]; rfl
 have e6 : (nd.kind == 6) = true := by rw [hk]; rfl
 have hR : q1w nd = q1c (q47 8) fun x => rret (.mk nd.kind 0 x [] [] []) := by unfold q1w; rw [if_neg (by rw [hk]; decide), if_neg (by rw [hk]; decide), if_neg (by rw [hk]; decide), if_neg (by rw [hk]; decide), if_pos hk]
 have hG := q59 (j1l 8) (fun x => VT.mk nd.kind 0 x [] [] []) (q58 (j1l 8) 0 hp e)
 have hT := z10 B hB p hp e 8 (by decide)
 rw [← hR] at hG
 generalize lft (q47 8) 0 B p e = L at hG hT
 refine ⟨_, _, _, hG, ?_⟩
 clear hG hR
 rw [VT.av_eq, q03]
 unfold dB at *
 unfold rC at hT
 rw [show ((8 : Nat) : Int) = 8 from rfl] at hT
 refine VC.toldX q35 [] Tryz.func62 rfl Tryz.ntmps62 fun hb hbL => ?_
 clear hb hbL
 refine q0a (And.intro hnp (And.intro @q0d (And.intro @q1m (And.intro e2 (And.intro e3 (And.intro e4 (And.intro e5 e6))))))) ?_
 refine q0j (hT) ?_
 refine q0a (@q0d) ?_
 refine retX Tryz.results62 ?_
 exact Frz.aggL (.cons (.c _) (.cons (.c _) (.cons (.c _) (.cons (.nil 1) (.cons (.nil 6) (.cons (.nil 1) .nil))))))
theorem z3r (ns : List NT) (r : Int) (B : List UInt8) (hB : B.length ≤ 1000000) (a : Nat) (nd : NT) (hnd : ns[a]? = some nd) (hk : nd.kind = 7) (dep : Nat) (p : Nat) (hp : p ≤ B.length) (e : Int) : ValE ns r B (a : Int) dep (q1w nd) p e := by
 have hnp : (ns.map NT.cells)[a]? = some nd.cells := by rw [List.getElem?_map, hnd]; rfl
 have ha : a < ns.length := (List.getElem?_eq_some_iff.1 hnd).1
 have e2 : (nd.kind == 2) = false := by rw [hk]; rfl
 have e3 : (nd.kind == 3) = false := by rw [hk]; rfl
 have e4 : (nd.kind == 4) = false := by rw [hk]; rfl
 have e5 : (nd.kind == 5) = false := by rw [hk]; rfl
 have e6 : (nd.kind == 6) = false := by rw [hk]; rfl
 have e7 : (nd.kind == 7) = true := by rw [hk]; rfl
 have hR : q1w nd = q1c q3n fun x => rret (.mk nd.kind 0 0 x [] []) := by unfold q1w; rw [if_neg (by rw [hk]; decide), if_neg (by rw [hk]; decide), if_neg (by rw [hk]; decide), if_neg (by rw [hk]; decide), if_neg (by rw [hk]; decide), if_pos hk]
 have hG := q59 j2a (fun x => VT.mk nd.kind 0 0 x [] []) (q58 j2a [] hp e)
 have hT := j5c ns r B p _ e _ _ (z11 B hB p hp e)
 rw [← hR] at hG
 generalize lft q3n [] B p e = L at hG hT
 refine ⟨_, _, _, hG, ?_⟩
 clear hG hR
 rw [VT.av_eq, q03]
 unfold dB at *
 refine VC.toldX q35 [] Tryz.func62 rfl Tryz.ntmps62 fun hb hbL => ?_
 clear hb hbL
 refine q0a (And.intro hnp (And.intro @q0d (And.intro @q1m (And.intro e2 (And.intro e3 (And.intro e4 (And.intro e5 (And.intro e6 e7)))))))) ?_
 refine q01 (@q0d) [1000000] (hT) ?_
 refine q0a (@q0d) ?_
 refine retX Tryz.results62 ?_
 exact Frz.aggL (.cons (.c _) (.cons (.c _) (.cons (.c _) (.cons (.c _) (.cons (.nil 6) (.cons (.nil 1) .nil))))))
theorem z3s (ns : List NT) (r : Int) (B : List UInt8) (hB : B.length ≤ 1000000) (a : Nat) (nd : NT) (hnd : ns[a]? = some nd) (hk : nd.kind = 8) (dep : Nat) (p : Nat) (hp : p ≤ B.length) (e : Int) : ValE ns r B (a : Int) dep (q1w nd) p e := by
 have hnp : (ns.map NT.cells)[a]? = some nd.cells := by rw [List.getElem?_map, hnd]; rfl
 have ha : a < ns.length := (List.getElem?_eq_some_iff.1 hnd).1
 have e2 : (nd.kind == 2) = false := by rw [hk]; rfl
 have e3 : (nd.kind == 3) = false := by rw [hk]; rfl
 have e4 : (nd.kind == 4) = false := by rw [hk]; rfl
 have e5 : (nd.kind == 5) = false := by rw [hk]; rfl
 have e6 : (nd.kind == 6) = false := by rw [hk]; rfl
 have e7 : (nd.kind == 7) = false := by rw [hk]; rfl
 have e8 : (nd.kind == 8) = true := by rw [hk]; rfl
 have hR : q1w nd = q1c q2t fun x => rret (.mk nd.kind 0 0 x [] []) := by unfold q1w; rw [if_neg (by rw [hk]; decide), if_neg (by rw [hk]; decide), if_neg (by rw [hk]; decide), if_neg (by rw [hk]; decide), if_neg (by rw [hk]; decide), if_neg (by rw [hk]; decide), if_pos hk]
 have hG := q59 q73 (fun x => VT.mk nd.kind 0 0 x [] []) (q58 q73 [] hp e)
 have hT := j5c ns r B p _ e _ _ (z2c B hB p hp e)
 rw [← hR] at hG
 generalize lft q2t [] B p e = L at hG hT
 refine ⟨_, _, _, hG, ?_⟩
 clear hG hR
 rw [VT.av_eq, q03]
 unfold dB at *
 refine VC.toldX q35 [] Tryz.func62 rfl Tryz.ntmps62 fun hb hbL => ?_
 clear hb hbL
 refine q0a (And.intro hnp (And.intro @q0d (And.intro @q1m (And.intro e2 (And.intro e3 (And.intro e4 (And.intro e5 (And.intro e6 (And.intro e7 e8))))))))) ?_
 refine q01 (@q0d) [1000000] (hT) ?_
 refine q0a (@q0d) ?_
 refine retX Tryz.results62 ?_
 exact Frz.aggL (.cons (.c _) (.cons (.c _) (.cons (.c _) (.cons (.c _) (.cons (.nil 6) (.cons (.nil 1) .nil))))))
theorem z3k (ns : List NT) (r : Int) (B : List UInt8) (hB : B.length ≤ 1000000) (a : Nat) (nd : NT) (hnd : ns[a]? = some nd) (hk : nd.kind = 14) (hsz : 0 ≤ nd.size ∧ nd.size ≤ 1000000) (dep : Nat) (p : Nat) (hp : p ≤ B.length) (e : Int) : ValE ns r B (a : Int) dep (q1w nd) p e := by
 have hnp : (ns.map NT.cells)[a]? = some nd.cells := by rw [List.getElem?_map, hnd]; rfl
 have ha : a < ns.length := (List.getElem?_eq_some_iff.1 hnd).1
 have e2 : (nd.kind == 2) = false := by rw [hk]; rfl
 have e3 : (nd.kind == 3) = false := by rw [hk]; rfl
 have e4 : (nd.kind == 4) = false := by rw [hk]; rfl
 have e5 : (nd.kind == 5) = false := by rw [hk]; rfl
 have e6 : (nd.kind == 6) = false := by rw [hk]; rfl
 have e7 : (nd.kind == 7) = false := by rw [hk]; rfl
 have e8 : (nd.kind == 8) = false := by rw [hk]; rfl
 have e14 : (nd.kind == 14) = true := by rw [hk]; rfl
 have hR : q1w nd = q1c (q2d nd.size.toNat) fun x => rret (.mk nd.kind 0 0 x [] []) := by unfold q1w; rw [if_neg (by rw [hk]; decide), if_neg (by rw [hk]; decide), if_neg (by rw [hk]; decide), if_neg (by rw [hk]; decide), if_neg (by rw [hk]; decide), if_neg (by rw [hk]; decide), if_neg (by rw [hk]; decide), if_pos hk]
 have hG := q59 (q72 nd.size.toNat) (fun x => VT.mk nd.kind 0 0 x [] []) (q58 (q72 nd.size.toNat) [] hp e)
 have hT := z15 B hB p hp e nd.size (by omega) (by omega)
 rw [← hR] at hG
 generalize lft (q2d nd.size.toNat) [] B p e = L at hG hT
 refine ⟨_, _, _, hG, ?_⟩
 clear hG hR
 rw [VT.av_eq, q03]
 unfold dB at *
 unfold rC at hT
 refine VC.toldX q35 [] Tryz.func62 rfl Tryz.ntmps62 fun hb hbL => ?_
 clear hb hbL
 refine q0a (And.intro hnp (And.intro @q0d (And.intro @q1m (And.intro e2 (And.intro e3 (And.intro e4 (And.intro e5 (And.intro e6 (And.intro e7 (And.intro e8 e14)))))))))) ?_
 refine q0j (hT) ?_
 refine q0a (@q0d) ?_
 refine retX Tryz.results62 ?_
 exact Frz.aggL (.cons (.c _) (.cons (.c _) (.cons (.c _) (.cons (.c _) (.cons (.nil 6) (.cons (.nil 1) .nil))))))
theorem z3j (ns : List NT) (r : Int) (B : List UInt8) (hB : B.length ≤ 1000000) (a : Nat) (nd : NT) (hnd : ns[a]? = some nd) (hk : nd.kind = 10) (dep : Nat) (p : Nat) (hp : p ≤ B.length) (e : Int) : ValE ns r B (a : Int) dep (q1w nd) p e := by
 have hnp : (ns.map NT.cells)[a]? = some nd.cells := by rw [List.getElem?_map, hnd]; rfl
 have ha : a < ns.length := (List.getElem?_eq_some_iff.1 hnd).1
 have e2 : (nd.kind == 2) = false := by rw [hk]; rfl
 have e3 : (nd.kind == 3) = false := by rw [hk]; rfl
 have e4 : (nd.kind == 4) = false := by rw [hk]; rfl
 have e5 : (nd.kind == 5) = false := by rw [hk]; rfl
 have e6 : (nd.kind == 6) = false := by rw [hk]; rfl
 have e7 : (nd.kind == 7) = false := by rw [hk]; rfl
 have e8 : (nd.kind == 8) = false := by rw [hk]; rfl
 have e14 : (nd.kind == 14) = false := by rw [hk]; rfl
 have e10 : (nd.kind == 10) = true := by rw [hk]; rfl
 have hR : q1w nd = q1c (q8j rint nd.symbols.length) fun x => rret (.mk nd.kind x 0 [] [] []) := by unfold q1w; rw [if_neg (by rw [hk]; decide), if_neg (by rw [hk]; decide), if_neg (by rw [hk]; decide), if_neg (by rw [hk]; decide), if_neg (by rw [hk]; decide), if_neg (by rw [hk]; decide), if_neg (by rw [hk]; decide), if_neg (by rw [hk]; decide), if_pos hk]
 have hG := q59 (j2c j1m _) (fun x => VT.mk nd.kind x 0 [] [] []) (j6e j1m nd.symbols.length hp e)
 have hT := j8p rint ns r B p e nd.symbols.length (z17 B hB p hp e)
 rw [← hR] at hG
 generalize plcS rint B nd.symbols.length p e = L at hG hT
 refine ⟨_, _, _, hG, ?_⟩
 clear hG hR
 rw [VT.av_eq, q03]
 unfold dB at *
 refine VC.toldX q35 [] Tryz.func62 rfl Tryz.ntmps62 fun hb hbL => ?_
 clear hb hbL
 refine q0a (And.intro hnp (And.intro @q0d (And.intro @q1m (And.intro e2 (And.intro e3 (And.intro e4 (And.intro e5 (And.intro e6 (And.intro e7 (And.intro e8 (And.intro e14 e10))))))))))) ?_
 refine q01 (@q0d) [1000000] (hT) ?_
 refine q0a (@q0d) ?_
 refine retX Tryz.results62 ?_
 exact Frz.aggL (.cons (.c _) (.cons (.c _) (.cons (.c _) (.cons (.nil 1) (.cons (.nil 6) (.cons (.nil 1) .nil))))))
theorem z3l (ns : List NT) (r : Int) (B : List UInt8) (a : Nat) (nd : NT) (hnd : ns[a]? = some nd) (hk : nd.kind = 1) (dep : Nat) (p : Nat) (hp : p ≤ B.length) (e : Int) : ValE ns r B (a : Int) dep (q1w nd) p e := by
 have hnp : (ns.map NT.cells)[a]? = some nd.cells := by rw [List.getElem?_map, hnd]; rfl
 have ha : a < ns.length := (List.getElem?_eq_some_iff.1 hnd).1
 have e2 : (nd.kind == 2) = false := by rw [hk]; rfl
 have e3 : (nd.kind == 3) = false := by rw [hk]; rfl
 have e4 : (nd.kind == 4) = false := by rw [hk]; rfl
 have e5 : (nd.kind == 5) = false := by rw [hk]; rfl
 have e6 : (nd.kind == 6) = false := by rw [hk]; rfl
 have e7 : (nd.kind == 7) = false := by rw [hk]; rfl
 have e8 : (nd.kind == 8) = false := by rw [hk]; rfl
 have e14 : (nd.kind == 14) = false := by rw [hk]; rfl
 have e10 : (nd.kind == 10) = false := by rw [hk]; rfl
 have e9 : (nd.kind == 9) = false := by rw [hk]; rfl
 have e11 : (nd.kind == 11) = false := by rw [hk]; rfl
 have e12 : (nd.kind == 12) = false := by rw [hk]; rfl
 have e13 : (nd.kind == 13) = false := by rw [hk]; rfl
 have hR : q1w nd = rret (.mk nd.kind 0 0 [] [] []) := by unfold q1w; rw [if_neg (by rw [hk]; decide), if_neg (by rw [hk]; decide), if_neg (by rw [hk]; decide), if_neg (by rw [hk]; decide), if_neg (by rw [hk]; decide), if_neg (by rw [hk]; decide), if_neg (by rw [hk]; decide), if_neg (by rw [hk]; decide), if_neg (by rw [hk]; decide)]
 have hG : Got (q1w nd B p) B e (VT.mk nd.kind 0 0 [] [] []) p e := by
  rw [hR]
  refine ⟨hp, fun _ => rfl, fun x _ hx => ?_, fun w q' h0 hx => ?_⟩
  · unfold rret at hx; simp at hx
  · unfold rret at hx
    injection hx with hx
    injection hx with hx hx'
    exact ⟨hx, hx', h0⟩
 refine ⟨_, _, _, hG, ?_⟩
 clear hG hR
 rw [VT.av_eq, q03]
 unfold dB at *
 refine VC.toldX q35 [] Tryz.func62 rfl Tryz.ntmps62 fun hb hbL => ?_
 clear hb hbL
 refine q0a (And.intro hnp (And.intro @q0d (And.intro @q1m (And.intro e2 (And.intro e3 (And.intro e4 (And.intro e5 (And.intro e6 (And.intro e7 (And.intro e8 (And.intro e14 (And.intro e10 (And.intro e9 (And.intro e11 (And.intro e12 e13))))))))))))))) ?_
 refine retX Tryz.results62 ?_
 exact Frz.aggL (.cons (.c _) (.cons (.c _) (.cons (.c _) (.cons (.nil 1) (.cons (.nil 6) (.cons (.nil 1) .nil))))))
theorem z3t (ns : List NT) (r : Int) (B : List UInt8) (a : Nat) (nd : NT) (hnd : ns[a]? = some nd) (hk : nd.kind = 9 ∨ nd.kind = 11 ∨ nd.kind = 12 ∨ nd.kind = 13) (p : Nat) (hp : p ≤ B.length) (e : Int) : ValE ns r B (a : Int) 20 (rbad 15) p e := by
 have hnp : (ns.map NT.cells)[a]? = some nd.cells := by rw [List.getElem?_map, hnd]; rfl
 have ha : a < ns.length := (List.getElem?_eq_some_iff.1 hnd).1
 have e2 : (nd.kind == 2) = false := by rcases hk with h | h | h | h <;> rw [h] <;> rfl
 have e3 : (nd.kind == 3) = false := by rcases hk with h | h | h | h <;> rw [h] <;> rfl
 have e4 : (nd.kind == 4) = false := by rcases hk with h | h | h | h <;> rw [h] <;> rfl
 have e5 : (nd.kind == 5) = false := by rcases hk with h | h | h | h <;> rw [h] <;> rfl
 have e6 : (nd.kind == 6) = false := by rcases hk with h | h | h | h <;> rw [h] <;> rfl
 have e7 : (nd.kind == 7) = false := by rcases hk with h | h | h | h <;> rw [h] <;> rfl
 have e8 : (nd.kind == 8) = false := by rcases hk with h | h | h | h <;> rw [h] <;> rfl
 have e14 : (nd.kind == 14) = false := by rcases hk with h | h | h | h <;> rw [h] <;> rfl
 have e10 : (nd.kind == 10) = false := by rcases hk with h | h | h | h <;> rw [h] <;> rfl
 have hT := j3a ns r B p e 15
 have hG : Got ((rbad 15 : Rd VT) B p) B e (VT.mk nd.kind 0 0 [] [] []) p (if e = 0 then 15 else e) := by
  refine ⟨hp, fun h => if_neg h, fun x h hx => ?_, fun w q' h0 hx => ?_⟩
  · unfold rbad at hx
    injection hx with hx
    rw [if_pos h, hx]
  · unfold rbad at hx; simp at hx
 generalize (if e = 0 then (15 : Int) else e) = E at hT hG
 refine ⟨_, _, _, hG, ?_⟩
 clear hG
 have e20 : ((20 : Int) == 20) = true := rfl
 rw [VT.av_eq, q03]
 unfold dB at *
 have hcase : ∀ (b9 b11 b12 b13 : Bool), (nd.kind == 9) = b9 → (nd.kind == 11) = b11 → (nd.kind == 12) = b12 → (nd.kind == 13) = b13 → (b9 = true ∨ (b9 = false ∧ b11 = true) ∨ (b9 = false ∧ b11 = false ∧ b12 = true) ∨ (b9 = false ∧ b11 = false ∧ b12 = false ∧ b13 = true)) → ToldM Tryz.prog 62 [.ref 1000000 1 0 0, .c (.v (.int .i64 (a : Int))), .c (.v (.int .i64 ((20 : Nat) : Int)))] [⟨false, 106, 5, [[.c (.sl 10 (ns.map NT.cells)), .c (.v (.int .i64 r)), .c (.sl 1 (q0e B)), .c (.v (.int .i64 (p : Int))), .c (.v (.int .i64 e))]]⟩] [some ⟨false, 106, 5, [[.c (.sl 10 (ns.map NT.cells)), .c (.v (.int .i64 r)), .c (.sl 1 (q0e B)), .c (.v (.int .i64 (p : Int))), .c (.v (.int .i64 E))]]⟩]
   (.agg ([PV.v (.int .i64 nd.kind), .v (.int .i64 0), .v (.int .u64 0), .sl 1 (q0e []), .sl 6 (([] : List VT).map VT.cells), .sl 1 (([] : List (List UInt8)).map sPV)].map .c)) := by
  intro b9 b11 b12 b13 g9 g11 g12 g13 hb
  rw [show ((20 : Nat) : Int) = 20 from rfl]
  rcases hb with rfl | ⟨rfl, rfl⟩ | ⟨rfl, rfl, rfl⟩ | ⟨rfl, rfl, rfl, rfl⟩
  · refine VC.toldX q35 [] Tryz.func62 rfl Tryz.ntmps62 fun hb hbL => ?_
    clear hb hbL
    refine q0a (And.intro hnp (And.intro @q0d (And.intro @q1m (And.intro e2 (And.intro e3 (And.intro e4 (And.intro e5 (And.intro e6 (And.intro e7 (And.intro e8 (And.intro e14 (And.intro e10 (And.intro g9 e20))))))))))))) ?_
    refine q01 (@q0d) [1000000] (hT) ?_
    refine q0a (@q0d) ?_
    refine retX Tryz.results62 ?_
    exact Frz.aggL (.cons (.c _) (.cons (.c _) (.cons (.c _) (.cons (.nil 1) (.cons (.nil 6) (.cons (.nil 1) .nil))))))
  · refine VC.toldX q35 [] Tryz.func62 rfl Tryz.ntmps62 fun hb hbL => ?_
    clear hb hbL
    refine q0a (And.intro hnp (And.intro @q0d (And.intro @q1m (And.intro e2 (And.intro e3 (And.intro e4 (And.intro e5 (And.intro e6 (And.intro e7 (And.intro e8 (And.intro e14 (And.intro e10 (And.intro g9 (And.intro g11 e20)))))))))))))) ?_
    refine q01 (@q0d) [1000000] (hT) ?_
    refine q0a (@q0d) ?_
    refine retX Tryz.results62 ?_
    exact Frz.aggL (.cons (.c _) (.cons (.c _) (.cons (.c _) (.cons (.nil 1) (.cons (.nil 6) (.cons (.nil 1) .nil))))))
  · refine VC.toldX q35 [] Tryz.func62 rfl Tryz.ntmps62 fun hb hbL => ?_
    clear hb hbL
    refine q0a (And.intro hnp (And.intro @q0d (And.intro @q1m (And.intro e2 (And.intro e3 (And.intro e4 (And.intro e5 (And.intro e6 (And.intro e7 (And.intro e8 (And.intro e14 (And.intro e10 (And.intro g9 (And.intro g11 (And.intro g12 e20))))))))))))))) ?_
    refine q01 (@q0d) [1000000] (hT) ?_
    refine q0a (@q0d) ?_
    refine retX Tryz.results62 ?_
    exact Frz.aggL (.cons (.c _) (.cons (.c _) (.cons (.c _) (.cons (.nil 1) (.cons (.nil 6) (.cons (.nil 1) .nil))))))
  · refine VC.toldX q35 [] Tryz.func62 rfl Tryz.ntmps62 fun hb hbL => ?_
    clear hb hbL
    refine q0a (And.intro hnp (And.intro @q0d (And.intro @q1m (And.intro e2 (And.intro e3 (And.intro e4 (And.intro e5 (And.intro e6 (And.intro e7 (And.intro e8 (And.intro e14 (And.intro e10 (And.intro g9 (And.intro g11 (And.intro g12 (And.intro g13 e20)))))))))))))))) ?_
    refine q01 (@q0d) [1000000] (hT) ?_
    refine q0a (@q0d) ?_
    refine retX Tryz.results62 ?_
    exact Frz.aggL (.cons (.c _) (.cons (.c _) (.cons (.c _) (.cons (.nil 1) (.cons (.nil 6) (.cons (.nil 1) .nil))))))
 refine hcase _ _ _ _ rfl rfl rfl rfl ?_
 rcases hk with h | h | h | h <;> rw [h] <;> simp
theorem j3c (ns : List NT) (r : Int) (B : List UInt8) (a : Nat) (nd : NT) (hnd : ns[a]? = some nd) (hk : nd.kind = 9 ∨ nd.kind = 11 ∨ nd.kind = 12 ∨ nd.kind = 13) (dep : Nat) (hd : dep < 20) (p q : Nat) (e e' : Int) (v : VT)
  (hT : ToldM Tryz.prog 120 [.ref 1000000 1 0 0, nd.av, .ref 1000001 1 0 0, .c (.v (.int .i64 ((dep + 1 : Nat) : Int)))] [dB ns r B p e, v0B nd.kind] [some (dB ns r B q e'), some (vvB v)] (.tup [])) :
  ToldM Tryz.prog 62 [.ref 1000000 1 0 0, .c (.v (.int .i64 (a : Int))), .c (.v (.int .i64 (dep : Int)))] [dB ns r B p e] [some (dB ns r B q e')] v.av := by
 have hnp : (ns.map NT.cells)[a]? = some nd.cells := by rw [List.getElem?_map, hnd]; rfl
 have ha : a < ns.length := (List.getElem?_eq_some_iff.1 hnd).1
 have e2 : (nd.kind == 2) = false := by rcases hk with h | h | h | h <;> rw [h] <;> rfl
 have e3 : (nd.kind == 3) = false := by rcases hk with h | h | h | h <;> rw [h] <;> rfl
 have e4 : (nd.kind == 4) = false := by rcases hk with h | h | h | h <;> rw [h] <;> rfl
 have e5 : (nd.kind == 5) = false := by rcases hk with h | h | h | h <;> rw [h] <;> rfl
 have e6 : (nd.kind == 6) = false := by rcases hk with h | h | h | h <;> rw [h] <;> rfl
 have e7 : (nd.kind == 7) = false := by rcases hk with h | h | h | h <;> rw [h] <;> rfl
 have e8 : (nd.kind == 8) = false := by rcases hk with h | h | h | h <;> rw [h] <;> rfl
 have e14 : (nd.kind == 14) = false := by rcases hk with h | h | h | h <;> rw [h] <;> rfl
 have e10 : (nd.kind == 10) = false := by rcases hk with h | h | h | h <;> rw [h] <;> rfl
 have e20 : ((dep : Int) == 20) = false := by simp; omega
 have hw : IntKind.i64.wrap ((dep : Int) + 1) = ((dep + 1 : Nat) : Int) := by rw [q0f (by omega) (by omega)]; omega
 rw [NT.av_eq] at hT
 rw [VT.av_eq]
 unfold dB v0B vvB at *
 have hvl := q1b v
 have hvt := q1i v
 generalize v.cells = vc at hT hvl hvt
 have hcase : ∀ (b9 b11 b12 b13 : Bool), (nd.kind == 9) = b9 → (nd.kind == 11) = b11 → (nd.kind == 12) = b12 → (nd.kind == 13) = b13 → (b9 = true ∨ (b9 = false ∧ b11 = true) ∨ (b9 = false ∧ b11 = false ∧ b12 = true) ∨ (b9 = false ∧ b11 = false ∧ b12 = false ∧ b13 = true)) → ToldM Tryz.prog 62 [.ref 1000000 1 0 0, .c (.v (.int .i64 (a : Int))), .c (.v (.int .i64 (dep : Int)))] [⟨false, 106, 5, [[.c (.sl 10 (ns.map NT.cells)), .c (.v (.int .i64 r)), .c (.sl 1 (q0e B)), .c (.v (.int .i64 (p : Int))), .c (.v (.int .i64 e))]]⟩] [some ⟨false, 106, 5, [[.c (.sl 10 (ns.map NT.cells)), .c (.v (.int .i64 r)), .c (.sl 1 (q0e B)), .c (.v (.int .i64 (q : Int))), .c (.v (.int .i64 e'))]]⟩] (.agg (vc.map .c)) := by
  intro b9 b11 b12 b13 g9 g11 g12 g13 hb
  rcases hb with rfl | ⟨rfl, rfl⟩ | ⟨rfl, rfl, rfl⟩ | ⟨rfl, rfl, rfl, rfl⟩
  · refine VC.toldX q35 [] Tryz.func62 rfl Tryz.ntmps62 fun hb hbL => ?_
    clear hb hbL
    refine q0a (And.intro hnp (And.intro @q0d (And.intro @q1m (And.intro e2 (And.intro e3 (And.intro e4 (And.intro e5 (And.intro e6 (And.intro e7 (And.intro e8 (And.intro e14 (And.intro e10 (And.intro g9 (And.intro e20 hw)))))))))))))) ?_
    refine q01 (@q0d) [1000000, 112] (hT) ?_
    refine q0a (And.intro @q0d (And.intro hvl hvt)) ?_
    refine retX Tryz.results62 ?_
    refine ⟨by omega, ?_⟩
    (try rw [hvt])
    exact .cs _ _
  · refine VC.toldX q35 [] Tryz.func62 rfl Tryz.ntmps62 fun hb hbL => ?_
    clear hb hbL
    refine q0a (And.intro hnp (And.intro @q0d (And.intro @q1m (And.intro e2 (And.intro e3 (And.intro e4 (And.intro e5 (And.intro e6 (And.intro e7 (And.intro e8 (And.intro e14 (And.intro e10 (And.intro g9 (And.intro g11 (And.intro e20 hw))))))))))))))) ?_
    refine q01 (@q0d) [1000000, 112] (hT) ?_
    refine q0a (And.intro @q0d (And.intro hvl hvt)) ?_
    refine retX Tryz.results62 ?_
    refine ⟨by omega, ?_⟩
    (try rw [hvt])
    exact .cs _ _
  · refine VC.toldX q35 [] Tryz.func62 rfl Tryz.ntmps62 fun hb hbL => ?_
    clear hb hbL
    refine q0a (And.intro hnp (And.intro @q0d (And.intro @q1m (And.intro e2 (And.intro e3 (And.intro e4 (And.intro e5 (And.intro e6 (And.intro e7 (And.intro e8 (And.intro e14 (And.intro e10 (And.intro g9 (And.intro g11 (And.intro g12 (And.intro e20 hw)))))))))))))))) ?_
    refine q01 (@q0d) [1000000, 112] (hT) ?_
    refine q0a (And.intro @q0d (And.intro hvl hvt)) ?_
    refine retX Tryz.results62 ?_
    refine ⟨by omega, ?_⟩
    (try rw [hvt])
    exact .cs _ _
  · refine VC.toldX q35 [] Tryz.func62 rfl Tryz.ntmps62 fun hb hbL => ?_
    clear hb hbL
    refine q0a (And.intro hnp (And.intro @q0d (And.intro @q1m (And.intro e2 (And.intro e3 (And.intro e4 (And.intro e5 (And.intro e6 (And.intro e7 (And.intro e8 (And.intro e14 (And.intro e10 (And.intro g9 (And.intro g11 (And.intro g12 (And.intro g13 (And.intro e20 hw))))))))))))))))) ?_
    refine q01 (@q0d) [1000000, 112] (hT) ?_
    refine q0a (And.intro @q0d (And.intro hvl hvt)) ?_
    refine retX Tryz.results62 ?_
    refine ⟨by omega, ?_⟩
    (try rw [hvt])
    exact .cs _ _
 refine hcase _ _ _ _ rfl rfl rfl rfl ?_
 rcases hk with h | h | h | h <;> rw [h] <;> simp

def xE (ns : List NT) (r : Int) (cuts : List Int) (c : Nat) : Blkd := ⟨false, 170, 4, [[.c (.sl 10 (ns.map NT.cells)), .c (.v (.int .i64 r)), .c (.sl 1 (cuts.map iPV)), .c (.v (.int .i64 (c : Int)))]]⟩
theorem ecut_told (ns : List NT) (r : Int) (cuts : List Int) (hcr : ∀ n ∈ cuts, -9223372036854775808 ≤ n ∧ n ≤ 9223372036854775807) (hcl : cuts.length ≤ 1000000000) (c left : Nat) (hc : c ≤ 1000000000) (hl : left ≤ 1000000000) :
  ToldM Tryz.prog 210 [.ref 1000000 1 0 0, .c (.v (.int .i64 (left : Int)))] [xE ns r cuts c] [some (xE ns r cuts (cutM cuts c left).2.2)] (.tup [.c (.v (.int .i64 ((cutM cuts c left).1 : Int))), .c (.v (.bool (cutM cuts c left).2.1))]) := by
 by_cases hn : cuts = []
 · subst hn
   have e : cutM [] c left = (left, false, c) := rfl
   rw [e]
   unfold xE
   refine VC.toldX j5o [] Tryz.func210 rfl Tryz.ntmps210 fun hb hbL => ?_
   clear hb hbL
   refine q0m ?_
   refine retX Tryz.results210 ?_
   exact ⟨.c _, .c _⟩
 · have hpos : 0 < cuts.length := List.length_pos_iff.2 hn
   have hmod := Nat.mod_lt c hpos
   obtain ⟨n, hx⟩ : ∃ n, cuts[c % cuts.length]? = some n := ⟨cuts[c % cuts.length], List.getElem?_eq_getElem hmod⟩
   obtain ⟨n1, n2⟩ := hcr n (List.mem_of_getElem? hx)
   have e : cutM cuts c left = (min left (n.natAbs % 9223372036854775808 % 4 + 1), decide (n < 0), c + 1) := by rw [cutM, hx]
   rw [e]
   have hxp : (cuts.map iPV)[c % cuts.length]? = some (iPV n) := by rw [List.getElem?_map, hx]; rfl
   have e0 : ((cuts.length : Int) == 0) = false := beq_eq_false_iff_ne.2 (by omega)
   have hm : Int.tmod (c : Int) (cuts.length : Int) = ((c % cuts.length : Nat) : Int) := by simp [Int.tmod]
   have hw1 : IntKind.i64.wrap ((c : Int) + 1) = ((c + 1 : Nat) : Int) := by rw [q0f (by omega) (by omega)]; rfl
   obtain ⟨u, hu⟩ : ∃ u, u = n.natAbs := ⟨_, rfl⟩
   obtain ⟨w, hw⟩ : ∃ w, w = u % 9223372036854775808 % 4 + 1 := ⟨_, rfl⟩
   rw [← hu, ← hw]
   have hs : Int.tmod ((IntKind.u64.wrap ((u : Int) * 2 ^ min 1 64)).fdiv (2 ^ min 1 64)) 4 = ((u % 9223372036854775808 % 4 : Nat) : Int) := by
    rw [show (2 : Int) ^ min 1 64 = 2 from rfl, IntKind.wrap_u64, Int.fdiv_eq_ediv_of_nonneg _ (by decide)]
    have : (u : Int) * 2 % 18446744073709551616 / 2 = ((u % 9223372036854775808 : Nat) : Int) := by omega
    rw [this]
    simp [Int.tmod]
   have hs2 : IntKind.i64.wrap ((u % 9223372036854775808 % 4 : Nat) : Int) = ((u % 9223372036854775808 % 4 : Nat) : Int) := q0f (by omega) (by omega)
   have hs3 : IntKind.i64.wrap (((u % 9223372036854775808 % 4 : Nat) : Int) + 1) = (w : Int) := by rw [q0f (by omega) (by omega), hw]; rfl
   have hmn : min (left : Int) (w : Int) = ((min left w : Nat) : Int) := by omega
   generalize u % 9223372036854775808 % 4 = z at hs hs2 hs3
   unfold xE
   by_cases h0 : n < 0
   · have d0 : decide (n < 0) = true := by simpa using h0
     rw [d0]
     have hun : IntKind.u64.wrap (0 - IntKind.u64.wrap n) = (u : Int) := by
      rw [IntKind.wrap_u64, IntKind.wrap_u64]
      omega
     refine VC.toldX j5o [] Tryz.func210 rfl Tryz.ntmps210 fun hb hbL => ?_
     clear hb hbL
     refine q0a (And.intro e0 (And.intro hm (And.intro hxp (And.intro @q3b (And.intro hw1 (And.intro d0 (And.intro hun (And.intro hs (And.intro hs2 (And.intro hs3 hmn)))))))))) ?_
     refine retX Tryz.results210 ?_
     exact ⟨.c _, .c _⟩
   · have d0 : decide (n < 0) = false := by simpa using h0
     rw [d0]
     have hun : IntKind.u64.wrap n = (u : Int) := by
      rw [IntKind.wrap_u64]
      omega
     refine VC.toldX j5o [] Tryz.func210 rfl Tryz.ntmps210 fun hb hbL => ?_
     clear hb hbL
     refine q0a (And.intro e0 (And.intro hm (And.intro hxp (And.intro @q3b (And.intro hw1 (And.intro d0 (And.intro hun (And.intro hs (And.intro hs2 (And.intro hs3 hmn)))))))))) ?_
     refine retX Tryz.results210 ?_
     exact ⟨.c _, .c _⟩

def pE : Blkd := ⟨false, 168, 1, [[.ref 1000000 1 0 0]]⟩
theorem j3b {α : Type} {l : List α} {i : Nat} {x : α} (h : l[i]? = some x) : l.drop i = x :: l.drop (i + 1) := by
 obtain ⟨hlt, rfl⟩ := List.getElem?_eq_some_iff.1 h
 exact List.drop_eq_getElem_cons hlt
theorem j76 (ns : List NT) (r : Int) (cuts : List Int) (hcr : ∀ n ∈ cuts, -9223372036854775808 ≤ n ∧ n ≤ 9223372036854775807) (hcl : cuts.length ≤ 1000000000) (g : FuncId) (c1 c2 : List PV) (fs : List Enc) (hup : ∀ f ∈ fs, Up f) (hfl : fs.length ≤ 1000000)
  (hg : ∀ (i : Nat) (f : Enc), fs[i]? = some f → ∀ (l : List UInt8) (c : Nat), (l ++ (f c).1).length ≤ 90000000 → (f c).2 ≤ 900000000 →
   ToldM Tryz.prog g [.row 1000001 l.length, .c (.v (.int .i64 (i : Int))), .ref 1000002 1 0 0, .pp c1, .pp c2] [xE ns r cuts c, bB l, pE] [some (xE ns r cuts (f c).2), some (bB (l ++ (f c).1)), some pE] (.row 1000001 (l ++ (f c).1).length))
  (l : List UInt8) (c : Nat) (h1 : (l ++ (blkF cuts fs.length fs c).1).length ≤ 90000000) (h2 : (blkF cuts fs.length fs c).2 ≤ 900000000) :
  ToldM Tryz.prog 175 [.ref 1000000 1 0 0, .row 1000001 l.length, .c (.v (.int .i64 (fs.length : Int))), .fn (.func g) [] [.ref 1000002 1 0 0, .pp c1, .pp c2]] [xE ns r cuts c, bB l, pE] [some (xE ns r cuts (blkF cuts fs.length fs c).2), some (bB (l ++ (blkF cuts fs.length fs c).1)), some pE] (.row 1000001 (l ++ (blkF cuts fs.length fs c).1).length) := by
 obtain ⟨O, hO⟩ : ∃ O, O = l ++ (blkF cuts fs.length fs c).1 := ⟨_, rfl⟩
 obtain ⟨C, hC⟩ : ∃ C, C = (blkF cuts fs.length fs c).2 := ⟨_, rfl⟩
 rw [← hO] at h1 ⊢
 rw [← hC] at h2 ⊢
 unfold bB xE pE at hg ⊢
 refine VC.toldXF (And.intro @q0k @q3e) ent_175 [] Tryz.func175 rfl Tryz.ntmps175 fun hb hbL => ?_
 clear hb hbL
 refine q0b ?_
 refine VC.loop (ι := {q : Nat × List UInt8 × Nat × Nat // q.1 ≤ fs.length ∧ fs.length - q.1 ≤ q.2.2.2 ∧ q.2.1 ++ (blkF cuts q.2.2.2 (fs.drop q.1) q.2.2.1).1 = O ∧ (blkF cuts q.2.2.2 (fs.drop q.1) q.2.2.1).2 = C})
  (fun q => [(0, .ref 1000000 1 0 0), (1, .row 1000001 q.1.2.1.length), (2, .c (.v (.int .i64 (fs.length : Int)))), (3, .fn (.func g) [] [.ref 1000002 1 0 0, .pp c1, .pp c2]), (9, .c (.v (.int .i64 (q.1.1 : Int))))])
  (fun q => [(1000001, ⟨true, 5, 1, bA q.1.2.1⟩), (1000000, ⟨false, 170, 4, [[.c (.sl 10 (ns.map NT.cells)), .c (.v (.int .i64 r)), .c (.sl 1 (cuts.map iPV)), .c (.v (.int .i64 (q.1.2.2.1 : Int)))]]⟩), (1000002, ⟨false, 168, 1, [[.ref 1000000 1 0 0]]⟩)]) 400 (fun q => fs.length - q.1.1)
  ⟨(0, l, c, fs.length), Nat.zero_le _, by simp only []; omega, by simp only []; rw [List.drop_zero, hO], by simp only []; rw [List.drop_zero, hC]⟩ ?_ ?_
 · refine q1j (And.intro @q0k @q3e) ?_
   exact Nat.le_refl _
 clear hO hC
 rintro ⟨⟨i, m, d, k⟩, hi, hk, hm, hd⟩
 simp only [] at hi hk hm hd ⊢
 refine q0b ?_
 refine VC.cond (by rfl) (by trivial) (fun hc => ?_) (fun hc => ?_)
 · have hlt : i < fs.length := by simp at hc; omega
   obtain ⟨f0, hf0⟩ : ∃ f, fs[i]? = some f := ⟨fs[i], List.getElem?_eq_getElem hlt⟩
   obtain ⟨k, rfl⟩ : ∃ k', k = k' + 1 := ⟨k - 1, by omega⟩
   have hdl : (fs.drop (i + 1)).length + 1 = fs.length - i := by rw [List.length_drop]; omega
   rw [j3b hf0, blkF, hdl] at hm hd
   rw [← j3b hf0] at hm hd
   have hw1 : IntKind.i64.wrap ((fs.length : Int) - (i : Int)) = ((fs.length - i : Nat) : Int) := by rw [q0f (by omega) (by omega)]; omega
   have hup1 := j07 ((fs.drop i).take (cutM cuts d (fs.length - i)).1) (fun f hf => hup f (List.mem_of_mem_drop (List.mem_of_mem_take hf))) (cutM cuts d (fs.length - i)).2.2
   have hup2 := j20 cuts k ((fs.drop i).drop (cutM cuts d (fs.length - i)).1) (fun f hf => hup f (List.mem_of_mem_drop (List.mem_of_mem_drop hf))) (seqF ((fs.drop i).take (cutM cuts d (fs.length - i)).1) (cutM cuts d (fs.length - i)).2.2).2
   have hcp := j27 cuts d (fs.length - i) (by omega)
   simp only [] at hm hd
   have hCut := ecut_told ns r cuts hcr hcl d (fs.length - i) (by omega) (by omega)
   obtain ⟨n, sized, e, hQ⟩ : ∃ n s e, cutM cuts d (fs.length - i) = (n, s, e) := ⟨_, _, _, rfl⟩
   rw [hQ] at hm hd hup1 hup2 hcp hCut
   simp only [] at hm hd hup1 hup2 hcp hCut
   unfold xE at hCut
   obtain ⟨S, hS⟩ : ∃ S, S = seqF ((fs.drop i).take n) e := ⟨_, rfl⟩
   rw [← hS] at hm hd hup1 hup2
   rw [List.drop_drop] at hm hd hup2
   have hSl : S.1.length ≤ 90000000 := by
    have := congrArg List.length hm
    simp at this
    omega
   have hml : m.length + (q5t n sized S.1.length).length + S.1.length ≤ 90000000 := by
    have := congrArg List.length hm
    simp at this
    omega
   refine q0c (hw1) ?_
   refine q0z [1000000] (hCut) ?_
   refine q0b ?_
   refine VC.nil 12 5 1 (by rfl) (by trivial) (by rfl) ?_
   refine VC.loop (ι := {q : Nat × List UInt8 × Nat // i ≤ q.1 ∧ q.1 ≤ i + n ∧ q.2.1 ++ (seqF ((fs.drop q.1).take (i + n - q.1)) q.2.2).1 = S.1 ∧ (seqF ((fs.drop q.1).take (i + n - q.1)) q.2.2).2 = S.2})
    (fun q => [(0, .ref 1000000 1 0 0), (1, .row 1000001 m.length), (2, .c (.v (.int .i64 (fs.length : Int)))), (3, .fn (.func g) [] [.ref 1000002 1 0 0, .pp c1, .pp c2]), (9, .c (.v (.int .i64 (i : Int)))), (10, .c (.v (.int .i64 (n : Int)))), (11, .c (.v (.bool sized))), (12, .row 528 q.1.2.1.length), (13, .c (.v (.int .i64 (q.1.1 : Int))))])
    (fun q => [(1000001, ⟨true, 5, 1, bA m⟩), (1000000, ⟨false, 170, 4, [[.c (.sl 10 (ns.map NT.cells)), .c (.v (.int .i64 r)), .c (.sl 1 (cuts.map iPV)), .c (.v (.int .i64 (q.1.2.2 : Int)))]]⟩), (1000002, ⟨false, 168, 1, [[.ref 1000000 1 0 0]]⟩), (528, ⟨true, 5, 1, bA q.1.2.1⟩)]) 2000 (fun q => i + n - q.1.1)
    ⟨(i, [], e), Nat.le_refl _, by simp only []; omega, by simp only []; rw [hS, show i + n - i = n by omega]; rfl, by simp only []; rw [hS, show i + n - i = n by omega]⟩ ?_ ?_
   · refine q1j (And.intro @q0k @q3e) ?_
     simp [j10]
   rintro ⟨⟨j, blk, cc⟩, hj1, hj2, hblk, hcc⟩
   simp only [] at hj1 hj2 hblk hcc ⊢
   have hwn : IntKind.i64.wrap ((i : Int) + (n : Int)) = ((i + n : Nat) : Int) := by rw [q0f (by omega) (by omega)]; omega
   refine q0c (hwn) ?_
   refine VC.cond (by rfl) (by trivial) (fun hc2 => ?_) (fun hc2 => ?_)
   · have hjl : j < i + n := by simp at hc2; omega
     obtain ⟨f, hf⟩ : ∃ f, fs[j]? = some f := ⟨fs[j]'(by omega), List.getElem?_eq_getElem (by omega)⟩
     rw [j3b hf, show i + n - j = (i + n - (j + 1)) + 1 by omega, List.take_succ_cons, seqF] at hblk hcc
     simp only [] at hblk hcc
     have hup3 := j07 ((fs.drop (j + 1)).take (i + n - (j + 1))) (fun f hf => hup f (List.mem_of_mem_drop (List.mem_of_mem_take hf))) (f cc).2
     have hG := hg j f hf blk cc (by
      have := congrArg List.length hblk
      simp at this ⊢
      omega) (by omega)
     rw [← List.append_assoc] at hblk
     obtain ⟨nb, hnb⟩ : ∃ nb, nb = blk ++ (f cc).1 := ⟨_, rfl⟩
     rw [← hnb] at hG hblk
     have hw : IntKind.i64.wrap ((j : Int) + 1) = (j : Int) + 1 := q0f (by omega) (by omega)
     have hnl : nb.length ≤ 90000000 := by
      have := congrArg List.length hblk
      simp at this
      omega
     refine q0c (@q0k) ?_
     refine q01 (And.intro @q0k @q00) [1000000, 528, 1000002] (hG) ?_
     refine q0c (And.intro @q0k (And.intro @q00 hw)) ?_
     refine .next ⟨(j + 1, nb, (f cc).2), by simp only []; omega, by simp only []; omega, hblk, hcc⟩ ?_ (by simp only []; omega)
     refine q1j (And.intro @q0k (And.intro @q3e @q00)) ?_
     exact ⟨cI (by omega), Nat.le_refl _, Nat.le_refl _⟩
   · have hje : j = i + n := by simp at hc2; omega
     rw [hje, Nat.sub_self, List.take_zero, seqF, List.append_nil] at hblk
     rw [hje, Nat.sub_self, List.take_zero, seqF] at hcc
     simp only [] at hblk hcc
     subst hblk hcc
     have hbl2 : (q0e S.1).length = S.1.length := by simp [q0e]
     refine VC.frz [528] [(0, .ref 1000000 1 0 0), (1, .row 1000001 m.length), (2, .c (.v (.int .i64 (fs.length : Int)))), (3, .fn (.func g) [] [.ref 1000002 1 0 0, .pp c1, .pp c2]), (9, .c (.v (.int .i64 (i : Int)))), (10, .c (.v (.int .i64 (n : Int)))), (11, .c (.v (.bool sized))), (12, .c (.sl 1 (q0e S.1)))] [(1000001, ⟨true, 5, 1, bA m⟩), (1000000, ⟨false, 170, 4, [[.c (.sl 10 (ns.map NT.cells)), .c (.v (.int .i64 r)), .c (.sl 1 (cuts.map iPV)), .c (.v (.int .i64 (S.2 : Int)))]]⟩), (1000002, ⟨false, 168, 1, [[.ref 1000000 1 0 0]]⟩)] 4000 ?_ ?_
     · refine q5c (And.intro @q0k @q3e) ?_
       exact ⟨⟨.same _, .same _, .same _, .same _, .same _, .same _, .same _, .row (B := ⟨true, 5, 1, bA S.1⟩) (es := q0e S.1) (by simp) rfl rfl (q0k _) (j0u _)⟩, ⟨.same _, .same _, .same _⟩, Nat.le_refl _⟩
     have hwf : IntKind.i64.wrap ((i : Int) + (n : Int)) = ((i + n : Nat) : Int) := hwn
     have hgo : ∀ m', m' = m ++ (q5t n sized S.1.length ++ S.1) → m' ++ (blkF cuts k (fs.drop (i + n)) S.2).1 = O := fun m' h => by
      rw [h, ← hm]
      simp [List.append_assoc]
     cases sized with
     | true =>
       have hV1 := q7n m (-(n : Int)) (by omega) (by omega) (by omega)
       have hl1 := q5a (-(n : Int)) (by omega) (by omega)
       have hl2 := q5a (S.1.length : Int) (by omega) (by omega)
       obtain ⟨m1, hm1⟩ : ∃ m1, m1 = m ++ vput (-(n : Int)) := ⟨_, rfl⟩
       have hm1l : m1.length ≤ m.length + 10 := by rw [hm1]; simp; omega
       have hV2 := q7n m1 (S.1.length : Int) (by omega) (by omega) (by omega)
       obtain ⟨m2, hm2⟩ : ∃ m2, m2 = m1 ++ vput (S.1.length : Int) := ⟨_, rfl⟩
       have hm2l : m2.length ≤ m1.length + 10 := by rw [hm2]; simp; omega
       obtain ⟨m3, hm3⟩ : ∃ m3, m3 = m2 ++ S.1 := ⟨_, rfl⟩
       have hg3 := hgo m3 (by rw [hm3, hm2, hm1, q5t, if_pos rfl]; simp [List.append_assoc])
       have hbo : bA m2 ++ (q0e S.1).map (fun e => e.map AV.c) = bA m3 := by rw [hm3, ← j2u]; congr 1; exact (j0u S.1).symm
       have hle : m2.length + S.1.length = m3.length := by rw [hm3]; simp
       have hwn2 : IntKind.i64.wrap (0 - (n : Int)) = -(n : Int) := by rw [q0f (by omega) (by omega)]; omega
       rw [← hm1] at hV1
       rw [← hm2] at hV2
       unfold bB at hV1 hV2
       refine q0a (And.intro @q0k (And.intro hbl2 hwn2)) ?_
       refine q01 (And.intro @q0k @q00) [1000001] (hV1) ?_
       refine q0c (And.intro @q0k (And.intro @q00 hbl2)) ?_
       refine q01 (And.intro @q0k @q00) [1000001] (hV2) ?_
       refine q0c (And.intro @q0k (And.intro @q00 (And.intro hbl2 (And.intro hbo (And.intro hle hwf))))) ?_
       refine .next ⟨(i + n, m3, S.2, k), by simp only []; omega, by simp only []; omega, hg3, hd⟩ ?_ (by simp only []; omega)
       refine q1j (And.intro @q0k (And.intro @q3e @q00)) ?_
       exact Nat.le_refl _
     | false =>
       have hV1 := q7n m (n : Int) (by omega) (by omega) (by omega)
       have hl1 := q5a (n : Int) (by omega) (by omega)
       obtain ⟨m2, hm2⟩ : ∃ m2, m2 = m ++ vput (n : Int) := ⟨_, rfl⟩
       have hm2l : m2.length ≤ m.length + 10 := by rw [hm2]; simp; omega
       obtain ⟨m3, hm3⟩ : ∃ m3, m3 = m2 ++ S.1 := ⟨_, rfl⟩
       have hg3 := hgo m3 (by rw [hm3, hm2, q5t, if_neg (by simp)]; simp [List.append_assoc])
       have hbo : bA m2 ++ (q0e S.1).map (fun e => e.map AV.c) = bA m3 := by rw [hm3, ← j2u]; congr 1; exact (j0u S.1).symm
       have hle : m2.length + S.1.length = m3.length := by rw [hm3]; simp
       have hwn2 : IntKind.i64.wrap (n : Int) = (n : Int) := q0f (by omega) (by omega)
       rw [← hm2] at hV1
       unfold bB at hV1
       refine q0a (And.intro @q0k (And.intro hbl2 hwn2)) ?_
       refine q01 (And.intro @q0k @q00) [1000001] (hV1) ?_
       refine q0c (And.intro @q0k (And.intro @q00 (And.intro hbl2 (And.intro hbo (And.intro hle hwf))))) ?_
       refine .next ⟨(i + n, m3, S.2, k), by simp only []; omega, by simp only []; omega, hg3, hd⟩ ?_ (by simp only []; omega)
       refine q1j (And.intro @q0k (And.intro @q3e @q00)) ?_
       exact Nat.le_refl _
 · have hie : i = fs.length := by simp at hc; omega
   have hdr : fs.drop i = [] := by rw [hie, List.drop_length]
   have hbl : blkF cuts k (fs.drop i) d = (vput 0, d) := by
    rw [hdr]
    cases k <;> rw [blkF]
   rw [hbl] at hm hd
   simp only [] at hm hd
   subst hd
   have hml : m.length ≤ 90000000 := by
    have := congrArg List.length hm
    simp at this
    omega
   have hV := q7n m 0 (by omega) (by decide) (by decide)
   rw [hm] at hV
   unfold bB at hV
   refine q0c (@q0k) ?_
   refine q01 (And.intro @q0k @q00) [1000001] (hV) ?_
   refine q0c (And.intro @q0k @q00) ?_
   refine q16 (And.intro @q00 @q0k) Tryz.results175 ?_
   exact .keepW rfl

def idxP {α : Type} (p : α → Bool) (l : List α) : Int := match l.findIdx? p with | some i => (i : Int) | none => -1
theorem j52 {α : Type} {p : α → Bool} {l : List α} {i : Nat} {x : α} (h : l[i]? = some x) (hx : p x = true) (h0 : ∀ j y, j < i → l[j]? = some y → p y = false) : idxP p l = (i : Int) := by
 unfold idxP
 obtain ⟨hlt, he⟩ := List.getElem?_eq_some_iff.1 h
 have : l.findIdx? p = some i := by
  rw [List.findIdx?_eq_some_iff_getElem]
  refine ⟨hlt, by rw [he]; exact hx, fun j hj => ?_⟩
  have := h0 j _ hj (List.getElem?_eq_getElem (by omega))
  simp [this]
 rw [this]
theorem j53 {α : Type} {p : α → Bool} {l : List α} (h0 : ∀ j y, j < l.length → l[j]? = some y → p y = false) : idxP p l = -1 := by
 unfold idxP
 have : l.findIdx? p = none := by
  rw [List.findIdx?_eq_none_iff]
  intro x hx
  obtain ⟨j, hj, he⟩ := List.getElem_of_mem hx
  exact h0 j x hj (by rw [List.getElem?_eq_getElem hj, he])
 rw [this]
theorem j51 {α : Type} (p : α → Bool) (l : List α) : decide (idxP p l ≥ 0) = l.any p := by
 unfold idxP
 cases h : l.findIdx? p with
 | some i =>
   have := (List.findIdx?_eq_some_iff_getElem.1 h)
   obtain ⟨h1, h2, _⟩ := this
   have h3 : l.any p = true := List.any_eq_true.2 ⟨l[i], List.getElem_mem _, h2⟩
   rw [h3]
   simp
 | none =>
   rw [List.findIdx?_eq_none_iff] at h
   have h3 : l.any p = false := List.any_eq_false.2 fun x hx => by simpa using h x hx
   rw [h3]
   rfl
theorem q4l {used : Nat → Prop} {h : Nat → Option Blkd} {l : List AV} (hp : AV.pureL l = true) : (∀ x ∈ l, Sc used h x) = True := eq_true fun x hx => (q6c l hp x hx).sc
theorem j31 (l m : List AV) : AV.pureL (l ++ m) = (AV.pureL l && AV.pureL m) := by
 induction l with
 | nil => simp [AV.pureL]
 | cons x l ih => simp [AV.pureL, ih, Bool.and_assoc]

theorem ixfS_told {g : FuncId} {fs cs : List AV} (hp : AV.pureL fs = true) (hp' : AV.pureL cs = true) (l : List (List UInt8)) (p : List UInt8 → Bool) (hk : ∀ x ∈ l, Told Tryz.prog g (fs ++ ([.c (.v (.string (str x)))] ++ cs)) (.c (.v (.bool (p x))))) :
  Told Tryz.prog 212 [.c (.sl 1 (l.map sPV)), .fn (.func g) fs cs] (.c (.v (.int .i64 (idxP p l)))) := by
 refine VC.told ent_212 Tryz.func212 rfl Tryz.ntmps212 (by simp) (by simp [AV.pureB, AV.pureL, hp, hp']) rfl fun hb => ?_
 simp only [List.mem_cons, List.not_mem_nil, or_false, forall_eq_or_imp, forall_eq, q5n, q5x, List.length_map] at hb
 have h1 := hb.1.1
 clear hb
 refine q0b ?_
 refine VC.loop (ι := {i : Nat // i ≤ l.length ∧ ∀ j x, j < i → l[j]? = some x → p x = false}) (fun i => [(0, .c (.sl 1 (l.map sPV))), (1, .fn (.func g) fs cs), (7, .c (.v (.int .i64 l.length))), (8, .c (.v (.int .i64 i.1)))]) (fun _ => []) 0 (fun i => l.length - i.1) ⟨0, Nat.zero_le _, by intro j x hj; omega⟩ ?_ ?_
 · simp only [q4l hp, q4l hp', Weak, eq_self, q0v, q0p, sc_c, q0r, q0s, q0t, q0o, q0q, ScL, q0u, List.forall_mem_map, go_sem, Int.reduceBEq, Int.reduceLE, Int.reduceLT, Int.reduceNeg, Nat.reduceAdd, Nat.reduceEqDiff, Nat.reduceLT, Nat.reduceLeDiff, Nat.reduceMul, Nat.reduceSub, reduceCtorEq, ↓reduceIte]
   all_goals rfl
 rintro ⟨i, hi, ht⟩
 refine q0b ?_
 refine VC.cond (by rfl) (by trivial) (fun hc => ?_) (fun hc => ?_)
 · simp only [decide_eq_true_eq] at hc
   obtain ⟨x, hx⟩ : ∃ x, l[i]? = some x := ⟨l[i]'(by omega), List.getElem?_eq_getElem _⟩
   have hw : IntKind.i64.wrap ((i : Int) + 1) = (i : Int) + 1 := q0f (by omega) (by omega)
   have hkx := hk x (List.mem_of_getElem? hx)
   refine q0c (And.intro @q4t (And.intro hx @q4c)) ?_
   refine q06 (And.intro @q4c (And.intro hp (And.intro hp' (And.intro @j31 (And.intro @q02 @lAss))))) (hkx) ?_
   refine q0b ?_
   refine VC.cond (by rfl) (by trivial) (fun hpx => ?_) (fun hpx => ?_)
   · have hr := j52 hx hpx ht
     refine q0b ?_
     refine retX Tryz.results212 ?_
     rw [hr]
     exact .c _
   · refine q0c (hw) ?_
     refine .next ⟨i + 1, by omega, fun j y hj hy => ?_⟩ ?_ (by simp only []; omega)
     · rcases Nat.lt_or_ge j i with h | h
       · exact ht j y h hy
       · obtain rfl : j = i := by omega
         rw [hx] at hy
         obtain rfl := Option.some.inj hy
         exact hpx
     simp only [q4l hp, q4l hp', Weak, eq_self, q0v, q0p, sc_c, q0r, q0s, q0t, q0o, q0q, ScL, q0u, List.forall_mem_map, go_sem, Int.reduceBEq, Int.reduceLE, Int.reduceLT, Int.reduceNeg, Nat.reduceAdd, Nat.reduceEqDiff, Nat.reduceLT, Nat.reduceLeDiff, Nat.reduceMul, Nat.reduceSub, reduceCtorEq, ↓reduceIte]
     exact cI (by omega)
 · simp only [decide_eq_false_iff_not] at hc
   obtain rfl : i = l.length := by omega
   have hr := j53 ht
   refine q0b ?_
   refine retX Tryz.results212 ?_
   rw [hr]
   exact .c _
theorem j44 {g : FuncId} {fs cs : List AV} (hp : AV.pureL fs = true) (hp' : AV.pureL cs = true) (l : List (List UInt8)) (p : List UInt8 → Bool) (hk : ∀ x ∈ l, Told Tryz.prog g (fs ++ ([.c (.v (.string (str x)))] ++ cs)) (.c (.v (.bool (p x))))) :
  Told Tryz.prog 179 [.c (.sl 1 (l.map sPV)), .fn (.func g) fs cs] (.c (.v (.bool (l.any p)))) := by
 have hi := ixfS_told hp hp' l p hk
 refine VC.told ent_179 Tryz.func179 rfl Tryz.ntmps179 (by simp) (by simp [AV.pureB, AV.pureL, hp, hp']) rfl fun hb => ?_
 clear hb
 refine q0b ?_
 refine q06 (And.intro hp hp') (hi) ?_
 refine q0b ?_
 refine retX Tryz.results179 ?_
 exact q1p (by rw [j51])

theorem vbare_eq (k n b : Int) (s : List UInt8) (m : Nat) (ks : List (List UInt8)) : q2y k n b s m ks =
  (!(if (k == 2 || k == 3 || k == 4 || k == 10 || k == 13) = true then false else (n != 0)) && (!(if (k == 5 || k == 6) = true then false else (b != 0)) && (!(if (k == 7 || k == 8 || k == 14) = true then false else decide ((s.length : Int) > 0)) &&
  (!(if (k == 9 || k == 11 || k == 12 || k == 13) = true then false else decide ((m : Int) > 0)) && !(if (k == 12) = true then false else decide ((ks.length : Int) > 0)))))) := by
 have e1 : ∀ {α : Type} (l : List α), l.isEmpty = !decide ((l.length : Int) > 0) := fun l => by
  cases l with
  | nil => rfl
  | cons x l => simp
 have e2 : (m == 0) = !decide ((m : Int) > 0) := by cases m <;> simp
 unfold q2y
 rw [e1 s, e1 ks, e2]
 congr 1
 · cases (k == 2 || k == 3 || k == 4 || k == 10 || k == 13) <;> simp [bne]
 congr 1
 · cases (k == 5 || k == 6) <;> simp [bne]
 congr 1
 · cases (k == 7 || k == 8 || k == 14) <;> simp
 congr 1
 · cases (k == 9 || k == 11 || k == 12 || k == 13) <;> simp
 · cases (k == 12) <;> simp
theorem z6u (k n b : Int) (s : List UInt8) (xs : List VT) (ks : List (List UInt8)) : Told Tryz.prog 122 [(VT.mk k n b s xs ks).av] (.c (.v (.bool (q2y k n b s xs.length ks)))) := by
 obtain ⟨V, hV⟩ : ∃ V, V = q2y k n b s xs.length ks := ⟨_, rfl⟩
 rw [← hV]
 rw [vbare_eq] at hV
 rw [VT.av_eq, q03]
 refine VC.toldP ent_122 Tryz.func122 rfl Tryz.ntmps122 fun hb => ?_
 clear hb
 refine q0c (@j40) ?_
 obtain ⟨p1, hp1⟩ : ∃ p : Bool, p = (n != 0) := ⟨_, rfl⟩
 obtain ⟨p2, hp2⟩ : ∃ p : Bool, p = (b != 0) := ⟨_, rfl⟩
 obtain ⟨p3, hp3⟩ : ∃ p : Bool, p = decide ((s.length : Int) > 0) := ⟨_, rfl⟩
 obtain ⟨p4, hp4⟩ : ∃ p : Bool, p = decide ((xs.length : Int) > 0) := ⟨_, rfl⟩
 obtain ⟨p5, hp5⟩ : ∃ p : Bool, p = decide ((ks.length : Int) > 0) := ⟨_, rfl⟩
 rw [← hp1, ← hp2, ← hp3, ← hp4, ← hp5] at hV ⊢
 clear hp1 hp2 hp3 hp4 hp5
 rcases (by omega : k = 2 ∨ k = 3 ∨ k = 4 ∨ k = 5 ∨ k = 6 ∨ k = 7 ∨ k = 8 ∨ k = 9 ∨ k = 10 ∨ k = 11 ∨ k = 12 ∨ k = 13 ∨ k = 14 ∨ (k ≠ 2 ∧ k ≠ 3 ∧ k ≠ 4 ∧ k ≠ 5 ∧ k ≠ 6 ∧ k ≠ 7 ∧ k ≠ 8 ∧ k ≠ 9 ∧ k ≠ 10 ∧ k ≠ 11 ∧ k ≠ 12 ∧ k ≠ 13 ∧ k ≠ 14)) with rfl | rfl | rfl | rfl | rfl | rfl | rfl | rfl | rfl | rfl | rfl | rfl | rfl | hne
 rotate_left 13
 · obtain ⟨h2, h3, h4, h5, h6, h7, h8, h9, h10, h11, h12, h13, h14⟩ := hne
   have e2 : (k == 2) = false := by simpa using h2
   have e3 : (k == 3) = false := by simpa using h3
   have e4 : (k == 4) = false := by simpa using h4
   have e5 : (k == 5) = false := by simpa using h5
   have e6 : (k == 6) = false := by simpa using h6
   have e7 : (k == 7) = false := by simpa using h7
   have e8 : (k == 8) = false := by simpa using h8
   have e9 : (k == 9) = false := by simpa using h9
   have e10 : (k == 10) = false := by simpa using h10
   have e11 : (k == 11) = false := by simpa using h11
   have e12 : (k == 12) = false := by simpa using h12
   have e13 : (k == 13) = false := by simpa using h13
   have e14 : (k == 14) = false := by simpa using h14
   simp only [e2, e3, e4, e5, e6, e7, e8, e9, e10, e11, e12, e13, e14, Bool.false_or, Bool.false_eq_true, if_false] at hV
   rw [e2]
   refine q0a (And.intro e2 (And.intro e3 (And.intro e4 (And.intro e5 (And.intro e6 (And.intro e7 (And.intro e8 (And.intro e9 (And.intro e10 (And.intro e11 (And.intro e12 (And.intro e13 e14)))))))))))) ?_
   refine retX Tryz.results122 ?_
   refine q1p ?_
   rw [hV]
   simp [Bool.and_assoc]
 all_goals
  simp only [Int.reduceBEq, Bool.false_or, Bool.or_false, Bool.true_or, Bool.or_true, Bool.false_eq_true, if_false, if_true, Bool.not_false, Bool.true_and, Bool.and_true] at hV
  refine q0m ?_
  refine retX Tryz.results122 ?_
  refine q1p ?_
  rw [hV]
  try simp [Bool.and_assoc]
theorem key1_told (y : List UInt8) (hl : y.length ≤ 1000000) : Told Tryz.prog 180 [.c (.v (.string (str y)))] (.c (.v (.bool (!keyM y)))) := by
 have hR := j2p y (by omega)
 have e : (!keyM y) = (decide ((y.length : Int) > 20000) || !q2p y) := by
  unfold keyM
  rw [Bool.not_and]
  congr 1
  rw [← decide_not]
  exact decide_eq_decide.2 (by omega)
 rw [e]
 clear e
 have hbs : q0e (str y).data.toList = q0e y := by rw [q6s]
 refine VC.toldP ent_180 Tryz.func180 rfl Tryz.ntmps180 fun hb => ?_
 clear hb
 refine q0c (And.intro @q2a hbs) ?_
 refine q7o (hbs) (hR) ?_
 refine q0b ?_
 refine retX Tryz.results180 ?_
 exact .c _
theorem any_not (ks : List (List UInt8)) : (!ks.any fun y => !keyM y) = ks.all keyM := by
 induction ks with
 | nil => rfl
 | cons y ks ih => simp only [List.any_cons, List.all_cons, Bool.not_or, Bool.not_not, ih]
theorem z6w (ks : List (List UInt8)) (hk : ∀ y ∈ ks, y.length ≤ 1000000) : Told Tryz.prog 126 [.c (.sl 1 (ks.map sPV))] (.c (.v (.bool (ks.all keyM)))) := by
 have hC := j44 (g := 180) (fs := []) (cs := []) rfl rfl ks (fun y => !keyM y) fun y hy => key1_told y (hk y hy)
 rw [← any_not]
 generalize (ks.any fun y => !keyM y) = B at hC ⊢
 refine VC.toldP ent_126 Tryz.func126 rfl Tryz.ntmps126 fun hb => ?_
 clear hb
 refine q0b ?_
 refine q0j (hC) ?_
 refine q0b ?_
 refine retX Tryz.results126 ?_
 exact .c _
end
section
open Go.RowKit Go.Shelf
attribute [local go_sem] Oper.semAt_some
def upTo {α : Type} (f : Nat → α) (k : Nat) : List α := (List.range k).map f
theorem z1h {α : Type} (f : Nat → α) (k : Nat) : upTo f (k + 1) = upTo f k ++ [f k] := by simp [upTo, List.range_succ]
theorem z6g {α : Type} (f : Nat → α) (k : Nat) : (upTo f k).length = k := by simp [upTo]
theorem upTo_all {α : Type} [Inhabited α] (zs : List α) (d : α) : upTo (fun j => zs[j]?.getD d) zs.length = zs := by
 apply List.ext_getElem
 · simp [upTo]
 · intro i h1 h2
   simp [upTo, h2]
theorem z6p (F : Fence) (n : Nat) (h7 : F.fn 235) (hro : F.round = none) (hn : 1 ≤ n) (l Bs o n₀ b off len cap : Nat) (zs : List (List UInt8)) (hreach : len * 16 ≤ 140737488351232) (hb : b < n₀) (J Jx : List (List UInt8) → World → Prop)
  (hY : ∀ pre x W, J pre W → pre.length < len → YieldAt F (n - 1) Tryz.prog l #[.string (str x)] W fun e W' =>
   (e = .returned (.bool true) ∧ J (pre ++ [x]) W' ∧ Below n₀ W W') ∨ (e = .returned (.bool false) ∧ Jx (pre ++ [x]) W'))
  (W : World) (hBs : W.cell? ⟨Bs, o, none⟩ = some (.slice (some ⟨b, off, none⟩) len cap)) (hc : ∀ j, j < len → W.cell? ⟨b, off + j, none⟩ = some (.string (str (zs[j]?.getD [])))) (h0 : J [] W) :
  CallsIn F n Tryz.prog 235 #[.func (.yield l) #[] #[], .pointer (some ⟨Bs, o, none⟩)] W fun e W' => (∃ v, e = .returned v) ∧
   ((∃ ys, ys = upTo (fun j => zs[j]?.getD []) len ∧ J ys W') ∨ (∃ pre, (∃ k, k ≤ len ∧ pre = upTo (fun j => zs[j]?.getD []) k) ∧ Jx pre W')) := by
 refine callsIn_of_wp Tryz.func235 rfl h7 ?_ hro
 simp only [Tryz.ntmps235, List.size_toArray, List.length_cons, List.length_nil, Nat.reduceAdd, Nat.reduceSub, Array.replicate_succ, Array.replicate_zero, List.push_toArray, List.append_toArray, List.nil_append, List.cons_append]
 gi_wp2
 gi_loopw [7] (fun i wr => ∃ k : Nat, k ≤ len ∧ i = .int .i64 k ∧ J (upTo (fun j => zs[j]?.getD []) k) wr ∧ Below n₀ W wr)
  (fun i _ => len - (intOf i).toNat)
 case atStart => exact ⟨0, Nat.zero_le _, rfl, h0, Below.refl _ _⟩
 case round =>
  obtain ⟨k, hk, rfl, hJs, hnx⟩ := hrel
  have hcx : k < len → wr.cell? ⟨b, off + k, none⟩ = some (.string (str (zs[k]?.getD []))) := fun h => (hnx.cell (p := ⟨b, off + k, none⟩) hb).trans (hc k h)
  by_cases hlt : k < len
  · obtain ⟨fn, tmps, assign, body, hy, hR⟩ := hY _ (zs[k]?.getD []) wr hJs (by rw [z6g]; exact hlt)
    have hcx' := hcx hlt
    gi_wp2
    refine hR.mono ?_
    rintro e W3 (⟨rfl, hJ3, hk3⟩ | ⟨rfl, hJx3⟩)
    · gi_wp2
      go_roundw
      case rel => exact ⟨k + 1, by omega, by simp, by rw [z1h]; exact hJ3, hnx.trans hk3⟩
      case measure => simp [intOf]; omega
    · gi_wp2
      refine bodyPost_ret (results_none rfl _ _ _) rfl ?_
      exact ⟨⟨_, rfl⟩, .inr ⟨_, ⟨k + 1, by omega, (z1h _ _).symm⟩, hJx3⟩⟩
  · obtain rfl : k = len := by omega
    gi_wp2
    go_end0
    exact ⟨⟨_, rfl⟩, .inl ⟨_, rfl, hJs⟩⟩
theorem z6q (F : Fence) (n : Nat) (h7 : F.fn 235) (hro : F.round = none) (l Bs o : Nat) (J : List (List UInt8) → World → Prop) (W : World) (a : Option Addr) (c : Nat) (hBs : W.cell? ⟨Bs, o, none⟩ = some (.slice a 0 c)) (h0 : J [] W) :
  CallsIn F n Tryz.prog 235 #[.func (.yield l) #[] #[], .pointer (some ⟨Bs, o, none⟩)] W fun e W' => (∃ v, e = .returned v) ∧ J [] W' := by
 refine callsIn_of_wp Tryz.func235 rfl h7 ?_ hro
 simp only [Tryz.ntmps235, List.size_toArray, List.length_cons, List.length_nil, Nat.reduceAdd, Nat.reduceSub, Array.replicate_succ, Array.replicate_zero, List.push_toArray, List.append_toArray, List.nil_append, List.cons_append]
 gi_wp2
 gi_loopw [7] (fun i wr => i = .int .i64 0 ∧ J [] wr) (fun _ _ => 0)
 case atStart => exact ⟨rfl, h0⟩
 case round =>
  obtain ⟨rfl, hJs⟩ := hrel
  gi_wp2
  go_end0
  exact ⟨⟨_, rfl⟩, hJs⟩
theorem upTo_take (zs : List (List UInt8)) {k : Nat} (hk : k ≤ zs.length) : upTo (fun j => zs[j]?.getD []) k = zs.take k := by
 apply List.ext_getElem
 · simp [upTo, hk]
 · intro i h1 h2
   have : i < zs.length := by simp [upTo] at h1; omega
   simp [upTo, this]
def Strs (n₀ : Nat) (W : World) (sv : Value) (zs : List (List UInt8)) : Prop :=
 ∃ a cap, sv = .slice a zs.length cap ∧ (zs ≠ [] → ∃ b off, a = some ⟨b, off, none⟩ ∧ b < n₀ ∧ ∀ j, j < zs.length → W.cell? ⟨b, off + j, none⟩ = some (.string (str (zs[j]?.getD []))))
theorem Strs.below {n₀ : Nat} {A B : World} (h : Below n₀ A B) {sv : Value} {zs : List (List UInt8)} : Strs n₀ A sv zs → Strs n₀ B sv zs
 | ⟨a, cap, e, hc⟩ => ⟨a, cap, e, fun hn => by
   obtain ⟨b, off, h1, h2, h3⟩ := hc hn
   exact ⟨b, off, h1, h2, fun j hj => (h.cell (p := ⟨b, off + j, none⟩) h2).trans (h3 j hj)⟩⟩
theorem z6s (F : Fence) (n : Nat) (h7 : F.fn 235) (hro : F.round = none) (hn : 1 ≤ n) (Bs o n₀ : Nat) (sv : Value) (zs : List (List UInt8)) (hreach : zs.length * 16 ≤ 140737488351232) (w : World) (hBs : Bs < w.heap.size) (hn₀ : n₀ ≤ w.heap.size)
  (hc : w.cell? ⟨Bs, o, none⟩ = some sv) (hI : Strs n₀ w sv zs) :
  SeqStopsK F n Tryz.prog 235 #[.pointer (some ⟨Bs, o, none⟩)] (fun x : List UInt8 => #[Value.string (str x)]) (Below n₀) (fun ys => ys = zs) (fun pre => pre <+: zs) zs.length w := fun l J Jx W hW _ _ hY h0 => by
 have hc' := (hW.cell (p := ⟨Bs, o, none⟩) hBs).trans hc
 obtain ⟨a, cap, rfl, hcs⟩ := hI.below (hW.mono hn₀)
 by_cases hz : zs = []
 · subst hz
   exact (z6q F n h7 hro l Bs o J W a cap hc' h0).mono fun e W' ⟨he, hj⟩ => ⟨he, .inl ⟨_, rfl, hj⟩⟩
 · obtain ⟨b, off, rfl, hb, hcs⟩ := hcs hz
   refine (z6p F n h7 hro hn l Bs o n₀ b off zs.length cap zs hreach hb J Jx hY W hc' hcs h0).mono ?_
   rintro e W' ⟨he, ⟨ys, rfl, hj⟩ | ⟨pre, ⟨k, hk, rfl⟩, hj⟩⟩
   · exact ⟨he, .inl ⟨_, upTo_all zs _, hj⟩⟩
   · exact ⟨he, .inr ⟨_, by rw [upTo_take zs hk]; exact List.take_prefix _ _, hj⟩⟩
def sV (s : List UInt8) : Value := .string (str s)
theorem sinfo : (Tryz.prog.info? 9).map (fun i => (i.zero, i.size, i.bytes)) = some (some (.string ⟨#[]⟩), 1, 16) := by kernel_rfl
theorem z2k (F : Fence) (n : Nat) (h3 : F.fn 243) (h7 : F.fn 235) (hro : F.round = none) (hn : 3 ≤ n) (Bs o : Nat) (sv : Value) (zs : List (List UInt8)) (hlen : zs.length ≤ maxLen) (hbytes : zs.length * 16 ≤ 140737488351232) (w : World) (hBs : Bs < w.heap.size)
  (hc : w.cell? ⟨Bs, o, none⟩ = some sv) (hI : Strs w.heap.size w sv zs) :
  CallsIn F n Tryz.prog 243 #[.slice none 0 0, .func (.func 235) #[] #[.pointer (some ⟨Bs, o, none⟩)]] w fun e W' => ∃ v, e = .returned v ∧ W'.ownsRow w.heap.size 9 1 v zs.length (zs.map sV) ∧ Below w.heap.size w W' := by
 have h1 : 1 ≤ n := by omega
 obtain ⟨i0, hi, hz0, hz1, hz2⟩ := info_parts sinfo
 refine callsIn_of_wp_marks Tryz.func243 rfl h3 ?_ hro
 simp only [Tryz.ntmps243, List.size_toArray, List.length_cons, List.length_nil, Nat.reduceAdd, Nat.reduceSub, Array.replicate_succ, Array.replicate_zero, List.push_toArray, List.append_toArray, List.nil_append, List.cons_append]
 gi_wp2
 have bO := Boxed.new w 29 (.slice none 0 0)
 have hB0 : Below w.heap.size w (w.alloc (.cells #[.slice none 0 0] 29)) := (Below.refl _ w).alloc (Nat.le_refl _) _
 refine wpIn_rangeFunc_ownG hro h1 (gf := 235) (lb := #[.pointer (some ⟨Bs, o, none⟩)]) rfl h7 (q0h Tryz.func235 (by kernel_rfl) rfl)
  (z6s F (n - 1) h7 hro (by omega) Bs o w.heap.size sv zs hbytes _ (by simp; omega) (by simp) ((hB0.cell (p := ⟨Bs, o, none⟩) hBs).trans hc) (hI.below hB0)) belowK_t (belowK_b (by simp)) (Below.refl _ _) (fun _ => rfl)
  (fun pre W => (∃ v, Boxed W w.heap.size 29 v ∧ W.ownsRow w.heap.size 9 1 v pre.length (pre.map sV) ∧ (v = .slice none 0 0 ↔ pre = [])) ∧ Below w.heap.size w W)
  (fun _ _ _ => False)
  (OwnFrom.and (Own.from (holdsRow_own w.heap.size w.heap.size 29 9 1 (fun pre => pre.length) (fun pre => pre.map sV) (fun pre v => v = .slice none 0 0 ↔ pre = [])) _) (ownFrom_below (Nat.le_refl _) (by simp)))
  (fun _ _ _ _ _ hs _ _ => hs)
  ⟨⟨_, bO, World.ownsRow_nil _ _ _ _, by simp⟩, hB0⟩
  (fun x => { tmps := #[.slice none 0 0, .func (.func 235) #[] #[.pointer (some ⟨Bs, o, none⟩)], .pointer (some ⟨w.heap.size, 0, none⟩), undef, .slice none 0 0, .string (str x), .func (.func 235) #[] #[.pointer (some ⟨Bs, o, none⟩)], .string (str x), undef, undef, undef, undef, undef], defers := [] }) ?assign ?body ?done ?stop
 case assign =>
  intro l x W K hK
  gi_wp2
  exact hK
 case body =>
  rintro l pre x W ⟨⟨v, hv, hrow, hnil⟩, hB⟩ hlt
  have hc := hv.cell
  gi_wp2_with (gi_at_builtin; refine wpListIn_append_own _ rfl _ _ 29 rfl w.heap.size 9 i0 (.string ⟨#[]⟩) 1 16 Tryz.underlying29 hi hz0 hz1 hz2 rfl (by decide) _ _ _ rfl (hrow.alloc _) ⟨W.heap.size, 0, none⟩ 1 1 [.string (str x)] rfl rfl (cell_one_new _ _ _) (by simp [Value.oneCell']) (by omega) (by omega) (by have := hB.size; simp; omega) ?_; intro v' w1 hown' hgrow _; obtain ⟨g', cap', rfl⟩ := ownsRow_succ hown'; obtain ⟨hv1, hv2, hr2, hk2, hb2⟩ := hv.appended (by decide) hrow hB.size (Nat.le_refl _) hown' hgrow; have hc1 := hv1.cell; have hf1 := hv1.frozen)
  exact ⟨hk2.from _, hb2, ⟨_, hv2, by simpa [sV] using hr2, by simp⟩, hB.trans hb2⟩
 case done =>
  rintro D ys W hD rfl ⟨⟨v, hv, hrow, hnil⟩, hB⟩ hK
  have hc := hv.cell
  gi_wp2
  refine ⟨by simp, .inl ⟨_, _, rfl, run_takeDeferred hK, ?_⟩⟩
  exact ⟨_, results_tmp rfl _ _ _, v, rfl, ownsRow_putObj hrow _ hK rfl, hB.trans (belowK_b (w := w) (Nat.le_refl _) W D _ _ (by simp at hD; omega) hK rfl rfl)⟩
 case stop =>
  rintro D c pre W _ _ h _
  exact h.elim
theorem z2l (Bs o : Nat) (sv : Value) (zs : List (List UInt8)) (hlen : zs.length ≤ maxLen) (hbytes : zs.length * 16 ≤ 140737488351232) (w : World) (hBs : Bs < w.heap.size)
  (hc : w.cell? ⟨Bs, o, none⟩ = some sv) (hI : Strs w.heap.size w sv zs) :
  Calls Tryz.prog 243 #[.slice none 0 0, .func (.func 235) #[] #[.pointer (some ⟨Bs, o, none⟩)]] w fun e W' => ∃ v, e = .returned v ∧ W'.ownsRow w.heap.size 9 1 v zs.length (zs.map sV) ∧ Below w.heap.size w W' :=
 calls_of_every_depth (L := [243, 235]) (n := 3) fun D => z2k _ 3 (by simp [Fence.list]) (by simp [Fence.list]) rfl (Nat.le_refl _) Bs o sv zs hlen hbytes w hBs hc hI
end
section
open Go.RowKit Go.Sort
def sA (l : List (List UInt8)) : List (List AV) := l.map fun s => [AV.c (.v (.string (str s)))]
def sB (l : List (List UInt8)) : Blkd := ⟨true, 9, 1, sA l⟩
theorem q4b (l : List (List UInt8)) : (sA l).length = l.length := by simp [sA]
theorem q5k (ρ : Nat → Nat) (l : List (List UInt8)) : (sA l).map (AV.renL ρ) = sA l := by
 induction l with
 | nil => rfl
 | cons x l ih => show AV.renL ρ _ :: (sA l).map _ = _; rw [ih]; rfl
theorem sA_sc {used : Nat → Prop} {h : Nat → Option Blkd} (l : List (List UInt8)) : (∀ e ∈ sA l, ∀ x ∈ e, Sc used h x) = True := eq_true fun e he x hx => by
 obtain ⟨b, _, rfl⟩ := List.mem_map.1 he
 simp at hx
 subst hx
 exact .c
theorem sA_flat (l : List (List UInt8)) : (sA l).flatten = l.map fun s => AV.c (.v (.string (str s))) := by
 induction l with
 | nil => rfl
 | cons x l ih => show _ ++ (sA l).flatten = _; rw [ih]; rfl
theorem j9u {W : World} {ro : Nat → Prop} {φ : Nat → Value} {h : Nat → Option Blkd} {j : Nat} {l : List (List UInt8)} (hB : BRep W ro φ h j (sB l)) : W.ownsRow 0 9 1 (φ j) l.length (l.map sV) := by
 obtain ⟨h1, h2, vs, h3, h4⟩ := hB
 rw [if_pos (show (sB l).row = true from rfl)] at h4
 have hvs : vs = l.map sV := by
  have h5 : RepL W ro φ h (l.map fun s => AV.c (.v (.string (str s)))) vs := by rw [← sA_flat]; exact h3
  apply List.ext_getElem?
  intro k
  by_cases hk : k < l.length
  · have hkv : k < vs.length := by rw [h5.1]; simpa using hk
    have := h5.2 k _ _ (by rw [List.getElem?_map, List.getElem?_eq_getElem hk]; rfl) (List.getElem?_eq_getElem hkv)
    rw [List.getElem?_eq_getElem hkv, q10 this, List.getElem?_map, List.getElem?_eq_getElem hk]
    rfl
  · rw [List.getElem?_eq_none (by rw [h5.1]; simpa using hk), List.getElem?_eq_none (by simpa using hk)]
 subst hvs
 have : (sB l).len = l.length := q4b l
 rw [this] at h4
 exact h4
theorem j78 {W : World} {ro : Nat → Prop} {φ : Nat → Value} {h : Nat → Option Blkd} {j : Nat} {l : List (List UInt8)} (ho : W.ownsRow 0 9 1 (φ j) l.length (l.map sV)) : BRep W ro φ h j (sB l) := by
 refine ⟨fun i e he => ?_, fun e he x hx => ?_, l.map sV, ?_, ?_⟩
 · obtain ⟨s, _, rfl⟩ := List.mem_map.1 (List.mem_of_getElem? he)
   rfl
 · obtain ⟨s, _, rfl⟩ := List.mem_map.1 he
   simp at hx
   subst hx
   rfl
 · show RepL W ro φ h (sA l).flatten _
   rw [sA_flat]
   refine ⟨by simp, fun k x v hx hv => ?_⟩
   rw [List.getElem?_map] at hx hv
   obtain ⟨s, h1, rfl⟩ := Option.map_eq_some_iff.1 hx
   rw [h1] at hv
   obtain rfl := Option.some.inj hv
   exact .c (.v rfl)
 · rw [if_pos (show (sB l).row = true from rfl)]
   have : (sB l).len = l.length := q4b l
   rw [this]
   exact ho
theorem hok_one {W : World} {ro : Nat → Prop} {φ : Nat → Value} {B : Blkd} (hB : BRep W ro φ (q0w [some B]) 1000000 B) (ho : ∀ b, q0y (φ 1000000) = some b → ¬ ro b) : HOk W ro φ (q0w [some B]) := by
 have key : ∀ j B1, q0w [some B] j = some B1 → j = 1000000 ∧ B1 = B := by
  intro j B1 hj
  obtain ⟨h1, h2⟩ := q69 hj
  have h3 := (List.getElem?_eq_some_iff.1 h2).1
  simp at h3
  obtain rfl : j = 1000000 := by omega
  simp at h2
  exact ⟨rfl, h2.symm⟩
 refine ⟨fun j B1 hj => ?_, fun j k B1 B2 b hj hk hne => ?_, fun j B1 b hj hb => ?_⟩
 · obtain ⟨rfl, rfl⟩ := key j B1 hj
   exact hB
 · exact absurd ((key j B1 hj).1.trans (key k B2 hk).1.symm) hne
 · obtain ⟨rfl, rfl⟩ := key j B1 hj
   exact ho b hb
theorem row_arg {W : World} {ro : Nat → Prop} {φ : Nat → Value} {B : Blkd} {vs : List Value} {n : Nat} (hn : B.len = n) (hl : RepL W ro φ (q0w ([B].map some)) [.row 1000000 n] vs) : vs = [φ 1000000] := by
 obtain ⟨h1, h2⟩ := hl
 match vs, h1, h2 with
 | [v], _, h2 =>
   have := h2 0 _ v rfl rfl
   cases this with
   | row _ hv => rw [hv B (by simp [q0w]) hn]
def srt (l : List (List UInt8)) : List (List UInt8) := l.mergeSort fun x y => decide (x ≤ y)
theorem q7d (l : List (List UInt8)) : (srt l).length = l.length := by simp [srt]
theorem z2m (l : List (List UInt8)) (hl : l.length ≤ 4294967296) :
  ToldM Tryz.prog 243 [.c (.v (.slice none 0 0)), .fn (.func 235) [] [.pp [.sl 1 (l.map sPV)]]] [] [some (sB l)] (.row 1000000 l.length) := by
 refine ⟨ent_243, trivial, ⟨?_, ?_⟩, fun W ro φ vs hro hgk hal hok => ?_⟩
 · exact .row ⟨by omega, by simp⟩ fun B hB => by simp [q0w] at hB; subst hB; exact Nat.le_of_eq (q4b l).symm
 · intro b hb B hB e he
   simp at hb
   subst hb
   obtain rfl := Option.some.inj hB
   exact fun x hx => (of_eq_true (sA_sc l)) e he x hx
 · obtain ⟨h1, h2⟩ := hal
   match vs, h1, h2 with
   | [v0, v1], _, h2 =>
     have e0 := q10 (h2 0 _ v0 rfl rfl)
     have e1 := h2 1 _ v1 rfl rfl
     subst e0
     cases e1 with
     | @fn _ _ _ us us' q1 q2 q3 q4 =>
       obtain rfl : us = [] := List.eq_nil_of_length_eq_zero q1
       match us', q3, q4 with
       | [p], _, q4 =>
         have e2 := q4 0 _ p rfl rfl
         cases e2 with
         | @pp _ b off vs hb hc hp =>
           match vs, hp with
           | [sv], hp =>
             have hsv := hp.2 0 _ sv rfl rfl
             have hcell : W.cell? ⟨b, off, none⟩ = some sv := by have := hc 0 (by simp); simpa using this
             have hS : Strs W.heap.size W sv l := by
              cases hsv with
              | @sl _ _ a c vss hn hcc hnil ha hll hz hz' hx =>
                refine ⟨a, c, by simp, fun hne => ?_⟩
                obtain ⟨b', off', rfl, hb', hcs⟩ := ha (by simpa using hne)
                refine ⟨b', off', rfl, hro b' hb', fun j hj => ?_⟩
                have hjv : j < vss.length := by rw [hll]; simpa using hj
                have hvj := List.getElem?_eq_getElem hjv
                have hlen := hz' j _ hvj
                have hx1 := hx j 0 (sPV l[j]) vss[j] (.v (.string (str l[j]))) (vss[j]'hjv)[0] (by rw [List.getElem?_map, List.getElem?_eq_getElem hj]; rfl) hvj rfl (List.getElem?_eq_getElem _)
                have hcc := hcs j _ hvj 0 (by omega)
                rw [List.getElem?_eq_getElem (by omega)] at hcc
                have hxe := q10 (h := h0) (φ := φ0) (.c hx1)
                rw [Nat.mul_one, Nat.add_zero] at hcc
                rw [hcc, hxe, List.getElem?_eq_getElem hj]
                rfl
             refine (z2l b off sv l (by unfold maxLen; omega) (by omega) W (hro b hb) hcell hS).mono ?_
             rintro e W' ⟨v, rfl, hown, hbel⟩
             have hlt := World.ownsRow.lt hown
             refine ⟨v, ro, fun _ => v, rfl, ⟨hbel.os, hbel.tape, hbel.output, hbel.size, fun k hk _ => hbel.block k hk⟩, fun b h => h, fun b h => ⟨.inl h, Nat.lt_of_lt_of_le (hro b h) hbel.size⟩, ?_, ?_, ?_, ?_⟩
             · exact .row (by rcases hown.2 with ⟨q, _⟩ | ⟨_, _, _, q, _⟩ <;> rw [q] <;> rfl) fun B hB hn => rfl
             · refine hok_one (j78 ?_) fun b hb' hrb => ?_
               · refine ⟨hown.1, ?_⟩
                 rcases hown.2 with h9 | ⟨g, cap, cur, h9, _, h10⟩
                 · exact .inl h9
                 · exact .inr ⟨g, cap, cur, h9, Nat.zero_le _, h10⟩
               · have := (hlt b (by rw [← q6q hown]; exact hb')).1
                 have := hro b hrb
                 omega
             · intro j B' hj; exact absurd hj.2 (by have := hj.1; simp; omega)
             · intro j B b hj hb'
               exact .inl (hlt b (by rw [← q6q hown]; exact hb')).1
theorem sort_told (l : List (List UInt8)) (hl : l.length ≤ 4294967296) : ToldM Tryz.prog 234 [.row 1000000 l.length] [sB l] [some (sB (srt l))] (.tup []) := by
 refine ⟨ent_234, ⟨rfl, trivial⟩, ⟨.tup (by simp), ?_⟩, fun W ro φ vs hro hgk hal hok => ?_⟩
 · intro b hb B hB e he
   simp at hb
   subst hb
   obtain rfl := Option.some.inj hB
   exact fun x hx => (of_eq_true (sA_sc (srt l))) e he x hx
 · obtain rfl := row_arg (B := sB l) (q4b l) hal
   have hlen : q0w ([sB l].map some) 1000000 = some (sB l) := by simp [q0w]
   have hown := j9u (hok.hp 1000000 _ hlen)
   have fin : ∀ W', W.grownBy W' (φ 1000000).ownBlock → W'.ownsRow 0 9 1 (φ 1000000) (srt l).length ((srt l).map sV) →
     ∃ v ro' φ', Ending.returned (.tuple #[]) = .returned v ∧ Keeps (fun b => ∃ j B, q0w ([sB l].map some) j = some B ∧ q0y (φ j) = some b) W W' ∧ (∀ b, ro b → ro' b) ∧
      (∀ b, ro' b → (ro b ∨ W.heap.size ≤ b ∨ ∃ j B, q0w ([sB l].map some) j = some B ∧ q0y (φ j) = some b) ∧ b < W'.heap.size) ∧ Rep W' ro' φ' (q0w [some (sB (srt l))]) (.tup []) v ∧ HOk W' ro' φ' (q0w [some (sB (srt l))]) ∧
      Goes (inL [sB l].length) φ φ' (q0w ([sB l].map some)) (q0w [some (sB (srt l))]) ∧ (∀ j B b, q0w [some (sB (srt l))] j = some B → q0y (φ' j) = some b → W.heap.size ≤ b ∨ ∃ j B, q0w ([sB l].map some) j = some B ∧ q0y (φ j) = some b) := by
    intro W' hg ho
    refine ⟨_, ro, φ, rfl, ⟨hg.os, hg.tape, hg.output, hg.size, fun k hk hm => hg.block k hk fun e => hm ⟨1000000, _, hlen, by rw [q6q hown, e]⟩⟩, fun b h => h, fun b h => ⟨.inl h, Nat.lt_of_lt_of_le (hro b h) hg.size⟩, .tup (vs := []) rfl (by simp), hok_one (j78 ho) fun b hb => hok.own 1000000 _ b hlen hb, ?_, ?_⟩
    · intro j B' hj hB'
      obtain rfl : j = 1000000 := by have := hj.1; have := hj.2; simp at this; omega
      simp [q0w] at hB'
      subst hB'
      exact ⟨_, hlen, .inr ⟨by show (sA l).length = (sA (srt l)).length; rw [q4b, q4b, q7d], rfl, rfl⟩⟩
    · intro j B b hj hb
      obtain ⟨h1, h2⟩ := q69 hj
      have h3 := (List.getElem?_eq_some_iff.1 h2).1
      simp at h3
      obtain rfl : j = 1000000 := by omega
      exact .inr ⟨1000000, _, hlen, hb⟩
   rcases hown.2 with ⟨h1, h2⟩ | ⟨g, cap, cur, h1, _, h2, h3, h4, h5, h6⟩
   · obtain rfl : l = [] := List.eq_nil_of_length_eq_zero h2
     rw [h1]
     refine (Tryz.slices_Sort_string_none none 0 W).mono ?_
     rintro e W' ⟨rfl, rfl⟩
     exact fin W' ⟨rfl, rfl, rfl, Nat.le_refl _, fun _ _ _ => rfl⟩ (by rw [show srt [] = [] from by simp [srt]]; exact hown)
   · have hH : Holds encStr W g 0 l.toArray := holds_of_block h2 (by rw [← Nat.mul_one l.length]; exact h6)
     rw [h1]
     refine (Tryz.slices_Sort_string g 0 cap l W hH (Array.getElem?_eq_some_iff.1 h2).1 (by omega)).mono ?_
     rintro e W' ⟨rfl, n, os, rfl⟩
     refine fin _ ?_ ?_
     · rw [h1]; exact grownBy_sorted _
     · rw [h1]
       have := ownsRow_sorted (n := n) (os := os) (ts := srt l) (q7d l) (Nat.zero_le g) h2 h3 h4 h5
       rw [q7d]
       exact this
theorem j9h (j : Nat) : q0w [none] j = none := by
 unfold q0w
 split
 · cases h : j - 1000000 with
   | zero => rfl
   | succ k => rfl
 · rfl
theorem z2z (l : List (List UInt8)) : (Lib.compact l).length ≤ l.length := by
 unfold Lib.compact Lib.compactUpTo
 rw [List.length_map]
 exact Nat.le_trans (List.length_filter_le _ _) (by simp)
theorem z21 (l : List (List UInt8)) (hl : l.length ≤ 4294967296) : ToldM Tryz.prog 220 [.row 1000000 l.length] [sB l] [none] (.c (.sl 1 ((Lib.compact l).map sPV))) := by
 refine ⟨ent_220, trivial, ⟨.c, fun b hb B hB => by simp at hb; subst hb; simp at hB⟩, fun W ro φ vs hro hgk hal hok => ?_⟩
 obtain rfl := row_arg (B := sB l) (q4b l) hal
 have hlen : q0w ([sB l].map some) 1000000 = some (sB l) := by simp [q0w]
 have hown := j9u (hok.hp 1000000 _ hlen)
 have hbl : ∀ b, q0y (φ 1000000) = some b → b < W.heap.size := fun b hb => (World.ownsRow.lt hown b (by rw [← q6q hown]; exact hb)).2
 have fin : ∀ (W' : World) (u : Value), W.grownBy W' (φ 1000000).ownBlock → PRep W' (fun b => ro b ∨ q0y (φ 1000000) = some b) (.sl 1 ((Lib.compact l).map sPV)) u →
   ∃ v ro' φ', Ending.returned u = .returned v ∧ Keeps (fun b => ∃ j B, q0w ([sB l].map some) j = some B ∧ q0y (φ j) = some b) W W' ∧ (∀ b, ro b → ro' b) ∧
    (∀ b, ro' b → (ro b ∨ W.heap.size ≤ b ∨ ∃ j B, q0w ([sB l].map some) j = some B ∧ q0y (φ j) = some b) ∧ b < W'.heap.size) ∧ Rep W' ro' φ' (q0w [none]) (.c (.sl 1 ((Lib.compact l).map sPV))) v ∧ HOk W' ro' φ' (q0w [none]) ∧
    Goes (inL [sB l].length) φ φ' (q0w ([sB l].map some)) (q0w [none]) ∧ (∀ j B b, q0w [none] j = some B → q0y (φ' j) = some b → W.heap.size ≤ b ∨ ∃ j B, q0w ([sB l].map some) j = some B ∧ q0y (φ j) = some b) := by
  intro W' u hg hu
  refine ⟨u, _, φ, rfl, ⟨hg.os, hg.tape, hg.output, hg.size, fun k hk hm => hg.block k hk fun e => hm ⟨1000000, _, hlen, by rw [q6q hown, e]⟩⟩, fun b h => .inl h, fun b h => ?_, .c hu, ⟨fun j B hj => ?_, fun j k B B' b hj => ?_, fun j B b hj => ?_⟩, fun j B hj hB => ?_, fun j B b hj => ?_⟩
  · rcases h with h | h
    · exact ⟨.inl h, Nat.lt_of_lt_of_le (hro b h) hg.size⟩
    · exact ⟨.inr (.inr ⟨1000000, _, hlen, h⟩), Nat.lt_of_lt_of_le (hbl b h) hg.size⟩
  all_goals first | (rw [j9h] at hj; simp at hj) | (rw [j9h] at hB; simp at hB)
 rcases hown.2 with ⟨h1, h2⟩ | ⟨g, cap, cur, h1, _, h2, h3, h4, h5, h6⟩
 · obtain rfl : l = [] := List.eq_nil_of_length_eq_zero h2
   rw [h1]
   refine (Tryz.slices_Compact_string_empty none 0 W).mono ?_
   rintro e W' ⟨rfl, rfl⟩
   exact fin W' _ ⟨rfl, rfl, rfl, Nat.le_refl _, fun _ _ _ => rfl⟩ (PRep.nil _ _ _)
 · have hH : Holds encStr W g 0 l.toArray := holds_of_block h2 (by rw [← Nat.mul_one l.length]; exact h6)
   rw [h1]
   refine (Tryz.slices_Compact_string g 0 cap l W hH (by omega) h3).mono ?_
   rintro e W' ⟨rfl, q, rfl⟩
   obtain ⟨ts, hts⟩ : ∃ ts, ts = Lib.compact l ++ List.replicate (l.length - (Lib.compact l).length) [] := ⟨_, rfl⟩
   have hcl := z2z l
   have htl : ts.length = l.length := by rw [hts]; simp; omega
   rw [← hts]
   have hg := grownBy_sorted (w := W) (g := g) (n := q) (os := #[]) ts.toArray
   have ho := ownsRow_sorted (n := q) (os := #[]) (ts := ts) htl (Nat.zero_le g) h2 h3 h4 h5
   rw [grow_empty] at hg ho
   refine fin _ _ (by rw [h1]; exact hg) ?_
   rcases ho.2 with ⟨h7, _⟩ | ⟨g', cap', cur', h7, _, h8, h9, h10, h11, h12⟩
   · simp at h7
   · obtain ⟨rfl, rfl⟩ : g = g' ∧ cap = cap' := by simpa using h7
     have hm : ((Lib.compact l).map sPV).length = (Lib.compact l).length := by simp
     rw [← hm]
     refine .sl (vss := (Lib.compact l).map fun s => [sV s]) (by rw [hm]; omega) (by unfold maxLen at h4; omega) (fun h => by simp at h) (fun hne => ⟨g, 0, rfl, .inr (by rw [h1]; rfl), fun i vs hi => ?_⟩) (by simp) (fun i e he => ?_) (fun i vs hi => ?_) (fun i j e vs p v he hvs hp hv => ?_)
     · rw [List.getElem?_map] at hi
       obtain ⟨s, h13, rfl⟩ := Option.map_eq_some_iff.1 hi
       intro j hj
       obtain rfl : j = 0 := by simpa using hj
       have h14 : (cur'.toList.take (l.length * 1))[i]? = some (sV s) := by
        rw [h12, List.getElem?_map, hts, List.getElem?_append_left (List.getElem?_eq_some_iff.1 h13).1, h13]; rfl
       have hi2 : i < l.length := by have := (List.getElem?_eq_some_iff.1 h13).1; omega
       rw [List.getElem?_take_of_lt (by omega)] at h14
       have := j1e h8 (l.length * 1) i (by rw [List.length_take]; simp; omega)
       rw [Nat.zero_add, List.getElem?_take_of_lt (by omega), h14] at this
       simpa using this
     · obtain ⟨s, _, rfl⟩ := List.mem_map.1 (List.mem_of_getElem? he); rfl
     · obtain ⟨s, _, rfl⟩ := List.mem_map.1 (List.mem_of_getElem? hi); rfl
     · rw [List.getElem?_map] at he hvs
       obtain ⟨s, h13, rfl⟩ := Option.map_eq_some_iff.1 he
       rw [h13] at hvs
       obtain rfl := Option.some.inj hvs
       match j, hp, hv with
       | 0, hp, hv =>
         obtain rfl := Option.some.inj hp
         obtain rfl := Option.some.inj hv
         exact .v rfl
end
section
attribute [local go_sem] opx opE ev okx q5h bnd okO AV.get AV.okb cAV q6y q8g q8f j0t j0s q79 q78 st q7s q5r q7u q7v q7t binV binI binS q42 q5o q5i q5p unV q6h q4h q3v q04 q2j Blkd.len setE grown q1r q45 q3w q4o pv q4j q30 q39 AV.cellish AV.pureL AV.pureB q77 q71 AV.ren AV.renL q8i Blkd.ren rho wrM renN q3t rhoE q4s q44 q7f q4y q6v q51 j0h j0i j0l q5l q8o q8w q8x q8z q83 q9a q9b q9f q9l q9n q9p q7g q9q q7h q50 q7i q7j j0b q6t q7k j0c q6e j0d q6u j0e q6f q7l j0f q7m j0g j0j j0k j0m j0n j0o j0p j0q q8p q8q q8r q8s q8t q8u q8v q8y q80 q81 q82 q84 q85 q86 q87 q88 q89 q9c q9d q9e q9g q9h q9i q9j q9k q9m q9o q9r q9s q9t q9u q9v q9w q9x q9y q9z q90 q91 q92 q93 q94 q95 q96 q97 q98 q99 j0a Option.map_some Option.map_none Option.getD_some Option.getD_none Option.bind_some Option.bind_none List.getElem?_cons_zero List.getElem?_cons_succ List.getElem?_nil List.getElem?_toArray List.length_cons List.length_nil List.length_map List.forall_mem_map List.map_cons List.map_nil List.drop_zero List.drop_succ_cons List.drop_nil List.take_zero List.take_succ_cons List.take_nil List.mem_cons List.not_mem_nil or_false forall_eq_or_imp forall_eq List.set_cons_zero List.set_cons_succ List.cons_append List.nil_append List.append_nil List.foldl_cons List.foldl_nil List.replicate_succ List.replicate_zero List.all_cons List.all_nil if_true if_false Bool.false_eq_true ne_eq not_false_eq_true not_true_eq_false true_and and_true and_self true_implies imp_self implies_true forall_const beq_self_eq_true Bool.and_true Bool.true_and Bool.and_false Bool.false_and Bool.or_true Bool.true_or Bool.or_false Bool.false_or Bool.not_true Bool.not_false Bool.not_eq_eq_eq_not q6a Value.oneCell' Int.toNat_natCast beq_true beq_false Bool.not_eq_true false_implies false_or true_or or_true Nat.zero_add Nat.add_zero decide_true decide_false Int.cast_ofNat_Int Int.toNat_zero Int.toNat_one eq_self

mutual
def JT.sm (N : Nat) : JT → Prop
 | .mk k n s ks xs => s.length ≤ N ∧ ks.length ≤ N ∧ (∀ y ∈ ks, y.length ≤ N) ∧ xs.length ≤ N ∧ JT.smL N xs
def JT.smL (N : Nat) : List JT → Prop
 | [] => True
 | x :: xs => x.sm N ∧ JT.smL N xs
end
theorem j6s {N : Nat} : ∀ {xs : List JT}, JT.smL N xs → ∀ x ∈ xs, x.sm N
 | x :: xs, h, y, hy => by
   rcases List.mem_cons.1 hy with rfl | hy
   · exact h.1
   · exact j6s h.2 y hy
def q4r : JT → Bool
 | .mk k n s ks xs =>
   if k = 1 then (n == 0) && s.isEmpty && xs.isEmpty else if k = 2 then (n == 0 || n == 1) && s.isEmpty && xs.isEmpty else if k = 3 then s.isEmpty && xs.isEmpty
   else if k = 4 then (n == 0) && xs.isEmpty && q2p s else if k = 5 ∨ k = 6 then (n == 0) && s.isEmpty else false
theorem j08 (s : List UInt8) : (!((str s).toList == (⟨#[]⟩ : ByteArray).toList)) = !s.isEmpty := by
 rw [q17, show (⟨#[]⟩ : ByteArray) = str [] from rfl, q17]
 cases s <;> rfl
theorem nn_eq (n m : Int) : (!(n != m)) = (n == m) := by cases h : n == m <;> simp_all [bne]
theorem z38 (t : JT) (ht : t.sm 140737488355328) : Told Tryz.prog 189 [t.av] (.c (.v (.bool (q4r t)))) := by
 cases t with
 | mk k n s ks xs =>
 have hs : s.length ≤ 140737488355328 := ht.1
 have hR := j2p s (by omega)
 refine VC.told ent_189 Tryz.func189 rfl Tryz.ntmps189 (by simp) rfl rfl fun hb => ?_
 clear hb
 have g1 : decide ((xs.length : Int) > 0) = !xs.isEmpty := by cases xs <;> simp <;> omega
 refine q0c (And.intro @JT.av_eq (And.intro @q0n (And.intro @j08 g1))) ?_
 refine VC.cond (by rfl) (by trivial) (fun h1 => ?_) (fun h1 => ?_)
 · refine q0b ?_
   refine retX Tryz.results189 ?_
   refine q1p ?_
   simp only [beq_iff_eq] at h1
   simp only [q4r, h1, if_true, nn_eq, q5r, Bool.not_not]
 refine q0c (And.intro @JT.av_eq @q0n) ?_
 refine VC.cond (by rfl) (by trivial) (fun h2 => ?_) (fun h2 => ?_)
 · refine q0c (And.intro @q0n (And.intro @j08 g1)) ?_
   refine retX Tryz.results189 ?_
   refine q1p ?_
   obtain rfl : k = 2 := by simpa using h2
   simp [q4r]
 refine q0c (And.intro @JT.av_eq @q0n) ?_
 refine VC.cond (by rfl) (by trivial) (fun h3 => ?_) (fun h3 => ?_)
 · refine q0c (And.intro @q0n (And.intro @j08 g1)) ?_
   refine retX Tryz.results189 ?_
   refine q1p ?_
   obtain rfl : k = 3 := by simpa using h3
   simp [q4r]
 refine q0c (And.intro @JT.av_eq @q0n) ?_
 refine VC.cond (by rfl) (by trivial) (fun h4 => ?_) (fun h4 => ?_)
 · obtain rfl : k = 4 := by simpa using h4
   refine q0c (And.intro @q0n (And.intro @j08 (And.intro g1 (And.intro @q2a hs)))) ?_
   refine q7o (@q6s) (hR) ?_
   refine q0b ?_
   refine retX Tryz.results189 ?_
   refine q1p ?_
   simp only [q4r, nn_eq, q5r, Bool.not_not]
   simp
 refine q0c (And.intro @JT.av_eq @q0n) ?_
 refine VC.cond (by rfl) (by trivial) (fun h5 => ?_) (fun h5 => ?_)
 · obtain rfl : k = 5 := by simpa using h5
   refine q0c (@q0n) ?_
   refine VC.condT (by rfl) (by trivial) ?_
   refine q0c (And.intro @q0n (And.intro @j08 g1)) ?_
   refine retX Tryz.results189 ?_
   refine q1p ?_
   simp only [q4r, nn_eq, q5r, Bool.not_not]
   simp
 refine q0c (And.intro @JT.av_eq @q0n) ?_
 refine VC.cond (by rfl) (by trivial) (fun h6 => ?_) (fun h6 => ?_)
 · obtain rfl : k = 6 := by simpa using h6
   refine q0c (And.intro @q0n (And.intro @j08 g1)) ?_
   refine retX Tryz.results189 ?_
   refine q1p ?_
   simp only [q4r, nn_eq, q5r, Bool.not_not]
   simp
 · refine q0c (And.intro @q0n (And.intro @j08 g1)) ?_
   refine retX Tryz.results189 ?_
   refine q1p ?_
   simp only [beq_eq_false_iff_ne] at h1 h2 h3 h4 h5 h6
   simp [q4r, h1, h2, h3, h4, h5, h6]
section
open Go.RowKit Go.Sort
theorem z6r (l : List (List UInt8)) : Told Tryz.prog 218 [.c (.sl 1 (l.map sPV))] (.fn (.func 235) [] [.pp [.sl 1 (l.map sPV)]]) := by
 refine VC.toldP ent_218 Tryz.func218 rfl Tryz.ntmps218 fun hb => ?_
 clear hb
 refine q0b ?_
 refine retX Tryz.results218 ?_
 exact .fnL .nil (.cons (.refP (es := [.sl 1 (l.map sPV)]) rfl rfl rfl rfl rfl) .nil)
theorem z2y (l : List (List UInt8)) (hl : l.length ≤ 4294967296) : ToldM Tryz.prog 233 [.fn (.func 235) [] [.pp [.sl 1 (l.map sPV)]]] [] [some (sB l)] (.row 1000000 l.length) := by
 have h := z2m l hl
 unfold sB at h ⊢
 refine VC.toldXF (And.intro @q4b @sA_sc) ent_233 [16] Tryz.func233 rfl Tryz.ntmps233 fun hb hbL => ?_
 clear hb hbL
 refine q0b ?_
 refine q01 (@q5k) [] (h) ?_
 refine q0c (And.intro @q5k @q4b) ?_
 refine q16 (And.intro @q5k @q4b) Tryz.results233 ?_
 exact .keepW rfl
theorem z5w (l : List (List UInt8)) (hl : l.length ≤ 4294967296) : ToldM Tryz.prog 217 [.fn (.func 235) [] [.pp [.sl 1 (l.map sPV)]]] [] [some (sB (srt l))] (.row 1000000 l.length) := by
 have h := z2y l hl
 have h2 := sort_told l hl
 have hsl := q7d l
 unfold sB at h h2 ⊢
 refine VC.toldXF (And.intro @q4b (And.intro @sA_sc hsl)) ent_217 [16] Tryz.func217 rfl Tryz.ntmps217 fun hb hbL => ?_
 clear hb hbL
 refine q0b ?_
 refine q01 (@q5k) [] (h) ?_
 refine q0c (And.intro @q5k @q4b) ?_
 refine q01 (@q5k) [16] (h2) ?_
 refine q0c (And.intro @q5k @q4b) ?_
 refine q16 (And.intro @q5k @q4b) Tryz.results217 ?_
 exact .keepW rfl
theorem z4b (s : List UInt8) (hs : s.length ≤ 140737488355328) : Told Tryz.prog 219 [.c (.v (.string (str s)))] (.c (.v (.bool (!q2p s)))) := by
 have h := j2p s (by omega)
 refine VC.toldP ent_219 Tryz.func219 rfl Tryz.ntmps219 fun hb => ?_
 clear hb
 refine q0c (And.intro @q2a hs) ?_
 refine q06 (@q6s) (h) ?_
 refine q0b ?_
 refine retX Tryz.results219 ?_
 exact .c _
def q75 : JT → Bool
 | .mk k n s ks xs => if k ≠ 6 then ks.isEmpty else decide (ks.length = xs.length) && (decide ((Lib.compact (srt ks)).length = ks.length) && ks.all q2p)
theorem z39 (t : JT) (ht : t.sm 4294967296) : Told Tryz.prog 190 [t.av] (.c (.v (.bool (q75 t)))) := by
 cases t with
 | mk k n s ks xs =>
 obtain ⟨_, hk, hks, _, _⟩ := ht
 have hV := z6r ks
 have hS := z5w ks hk
 have hC := z21 (srt ks) (by rw [q7d]; exact hk)
 have hF := j44 (g := 219) (fs := []) (cs := []) rfl rfl ks (fun s => !q2p s) fun s hs => z4b s (by have := hks s hs; omega)
 unfold sB at hS hC
 rw [q7d] at hC
 refine VC.told ent_190 Tryz.func190 rfl Tryz.ntmps190 (by simp) rfl rfl fun hb => ?_
 clear hb
 refine q0c (And.intro @JT.av_eq @q0n) ?_
 refine VC.cond (by rfl) (by trivial) (fun h6 => ?_) (fun h6 => ?_)
 · refine q0c (@q0n) ?_
   refine retX Tryz.results190 ?_
   refine q1p ?_
   simp only [bne_iff_ne] at h6
   simp only [q75]
   rw [if_pos h6]
   cases ks <;> simp <;> omega
 · refine q0c (@q0n) ?_
   refine q0j (hV) ?_
   refine q0b ?_
   refine q01 (@q5k) [] (hS) ?_
   simp only [bne_eq_false_iff_eq] at h6
   subst h6
   by_cases hkx : ks.length = xs.length
   · have hg : ((ks.length : Int) == (xs.length : Int)) = true := by simp [hkx]
     refine q0c (And.intro @q5k (And.intro @q4b (And.intro @q0n hg))) ?_
     refine q01 (And.intro @q5k (And.intro @q4b @q7d)) [64] (hC) ?_
     refine q0c (And.intro @q5k (And.intro @q4b (And.intro @q0n hg))) ?_
     refine q7o (@q0n) (hF) ?_
     refine q0b ?_
     refine retX Tryz.results190 ?_
     refine q1p ?_
     have e1 : (!ks.any fun s => !q2p s) = ks.all q2p := by rw [List.not_any_eq_all_not]; simp
     have e2 : (((Lib.compact (srt ks)).length : Int) == (ks.length : Int)) = decide ((Lib.compact (srt ks)).length = ks.length) := by
      rw [Bool.eq_iff_iff]
      simp
      omega
     rw [e1, e2]
     simp [q75, hkx]
   · have hg : ((ks.length : Int) == (xs.length : Int)) = false := by simp; omega
     refine q0c (And.intro @q5k (And.intro @q4b (And.intro @q0n hg))) ?_
     refine retX Tryz.results190 ?_
     refine q1p ?_
     simp [q75, hkx]
end

theorem ixfJ_told {g : FuncId} {fs cs : List AV} (hp : AV.pureL fs = true) (hp' : AV.pureL cs = true) (l : List (JT)) (p : JT → Bool) (hk : ∀ x ∈ l, Told Tryz.prog g (fs ++ ([x.av] ++ cs)) (.c (.v (.bool (p x))))) :
  Told Tryz.prog 221 [.c (.sl 5 (l.map JT.cells)), .fn (.func g) fs cs] (.c (.v (.int .i64 (idxP p l)))) := by
 refine VC.told ent_221 Tryz.func221 rfl Tryz.ntmps221 (by simp) (by simp [AV.pureB, AV.pureL, hp, hp']) rfl fun hb => ?_
 simp only [List.mem_cons, List.not_mem_nil, or_false, forall_eq_or_imp, forall_eq, q5n, q5x, List.length_map] at hb
 have h1 := hb.1.1
 clear hb
 refine q0b ?_
 refine VC.loop (ι := {i : Nat // i ≤ l.length ∧ ∀ j x, j < i → l[j]? = some x → p x = false}) (fun i => [(0, .c (.sl 5 (l.map JT.cells))), (1, .fn (.func g) fs cs), (7, .c (.v (.int .i64 l.length))), (8, .c (.v (.int .i64 i.1)))]) (fun _ => []) 0 (fun i => l.length - i.1) ⟨0, Nat.zero_le _, by intro j x hj; omega⟩ ?_ ?_
 · simp only [q4l hp, q4l hp', Weak, eq_self, q0v, q0p, sc_c, q0r, q0s, q0t, q0o, q0q, ScL, q0u, List.forall_mem_map, go_sem, Int.reduceBEq, Int.reduceLE, Int.reduceLT, Int.reduceNeg, Nat.reduceAdd, Nat.reduceEqDiff, Nat.reduceLT, Nat.reduceLeDiff, Nat.reduceMul, Nat.reduceSub, reduceCtorEq, ↓reduceIte]
   all_goals rfl
 rintro ⟨i, hi, ht⟩
 refine q0b ?_
 refine VC.cond (by rfl) (by trivial) (fun hc => ?_) (fun hc => ?_)
 · simp only [decide_eq_true_eq] at hc
   obtain ⟨x, hx⟩ : ∃ x, l[i]? = some x := ⟨l[i]'(by omega), List.getElem?_eq_getElem _⟩
   have hw : IntKind.i64.wrap ((i : Int) + 1) = (i : Int) + 1 := q0f (by omega) (by omega)
   have hkx := hk x (List.mem_of_getElem? hx)
   refine q0c (And.intro @q4t (And.intro hx (And.intro @JT.av_eq (And.intro @q1z (And.intro @q18 @q19))))) ?_
   refine q06 (And.intro @JT.av_eq (And.intro @q1z (And.intro @q18 (And.intro @q19 (And.intro hp (And.intro hp' (And.intro @j31 (And.intro @q02 @lAss)))))))) (hkx) ?_
   refine q0b ?_
   refine VC.cond (by rfl) (by trivial) (fun hpx => ?_) (fun hpx => ?_)
   · have hr := j52 hx hpx ht
     refine q0b ?_
     refine retX Tryz.results221 ?_
     rw [hr]
     exact .c _
   · refine q0c (hw) ?_
     refine .next ⟨i + 1, by omega, fun j y hj hy => ?_⟩ ?_ (by simp only []; omega)
     · rcases Nat.lt_or_ge j i with h | h
       · exact ht j y h hy
       · obtain rfl : j = i := by omega
         rw [hx] at hy
         obtain rfl := Option.some.inj hy
         exact hpx
     simp only [q4l hp, q4l hp', Weak, eq_self, q0v, q0p, sc_c, q0r, q0s, q0t, q0o, q0q, ScL, q0u, List.forall_mem_map, go_sem, Int.reduceBEq, Int.reduceLE, Int.reduceLT, Int.reduceNeg, Nat.reduceAdd, Nat.reduceEqDiff, Nat.reduceLT, Nat.reduceLeDiff, Nat.reduceMul, Nat.reduceSub, reduceCtorEq, ↓reduceIte]
     exact cI (by omega)
 · simp only [decide_eq_false_iff_not] at hc
   obtain rfl : i = l.length := by omega
   have hr := j53 ht
   refine q0b ?_
   refine retX Tryz.results221 ?_
   rw [hr]
   exact .c _
theorem cnfJ_told {g : FuncId} {fs cs : List AV} (hp : AV.pureL fs = true) (hp' : AV.pureL cs = true) (l : List (JT)) (p : JT → Bool) (hk : ∀ x ∈ l, Told Tryz.prog g (fs ++ ([x.av] ++ cs)) (.c (.v (.bool (p x))))) :
  Told Tryz.prog 191 [.c (.sl 5 (l.map JT.cells)), .fn (.func g) fs cs] (.c (.v (.bool (l.any p)))) := by
 have hi := ixfJ_told hp hp' l p hk
 refine VC.told ent_191 Tryz.func191 rfl Tryz.ntmps191 (by simp) (by simp [AV.pureB, AV.pureL, hp, hp']) rfl fun hb => ?_
 clear hb
 refine q0b ?_
 refine q06 (And.intro hp hp') (hi) ?_
 refine q0b ?_
 refine retX Tryz.results191 ?_
 exact q1p (by rw [j51])

def JT.kids : JT → List JT
 | .mk _ _ _ _ xs => xs
mutual
theorem sm_le {N M : Nat} (h : N ≤ M) : ∀ t : JT, t.sm N → t.sm M
 | .mk k n s ks xs => fun ⟨h1, h2, h3, h4, h5⟩ => ⟨Nat.le_trans h1 h, Nat.le_trans h2 h, fun y hy => Nat.le_trans (h3 y hy) h, Nat.le_trans h4 h, smL_le h xs h5⟩
theorem smL_le {N M : Nat} (h : N ≤ M) : ∀ xs : List JT, JT.smL N xs → JT.smL M xs
 | [] => fun _ => trivial
 | x :: xs => fun hx => ⟨sm_le h x hx.1, smL_le h xs hx.2⟩
end
mutual
def q6b (d : Nat) : JT → Bool
 | .mk k n s ks xs => q4r (.mk k n s ks xs) && q75 (.mk k n s ks xs) && !(decide (32 ≤ d) && (decide (k = 5) || decide (k = 6))) && q76 (d + 1) xs
def q76 (d : Nat) : List JT → Bool
 | [] => true
 | x :: xs => q6b d x && q76 d xs
end
theorem j9d (d : Nat) : ∀ xs : List JT, (!xs.any fun x => !q6b d x) = q76 d xs
 | [] => rfl
 | x :: xs => by rw [q76, ← j9d d xs]; simp
theorem z4t {x : JT} {z : Int} {b : Bool} (h0 : 0 ≤ z) (h1 : z ≤ 32) (h : Told Tryz.prog 150 [x.av, .c (.v (.int .i64 (z + 1)))] (.c (.v (.bool b)))) : Told Tryz.prog 192 [x.av, .pp [.v (.int .i64 z)]] (.c (.v (.bool (!b)))) := by
 have hw : IntKind.i64.wrap (z + 1) = z + 1 := q0f (by omega) (by omega)
 refine VC.told ent_192 Tryz.func192 rfl Tryz.ntmps192 (by simp) (by simp [AV.pureB, AV.pureL, JT.av, q02]) rfl fun hb => ?_
 clear hb
 refine q0c (And.intro @JT.av_eq (And.intro @q1z (And.intro @q18 (And.intro @q19 hw)))) ?_
 refine q06 (And.intro @JT.av_eq (And.intro @q1z (And.intro @q18 (And.intro @q19 (And.intro hw @q02))))) (h) ?_
 refine q0b ?_
 refine retX Tryz.results192 ?_
 exact .c _
theorem j7z {k n : Int} {s : List UInt8} {ks : List (List UInt8)} {xs : List JT} (h : q4r (.mk k n s ks xs) = true) (h5 : k ≠ 5) (h6 : k ≠ 6) : xs = [] := by
 rw [q4r] at h
 split at h
 · simp at h; exact h.2
 · split at h
   · simp at h; exact h.2
   · split at h
     · simp at h; exact h.2
     · split at h
       · simp at h; exact h.1.2
       · rw [if_neg (by simp [h5, h6])] at h
         exact absurd h (by simp)
theorem z4v : ∀ (m : Nat) (t : JT), SizeOf.sizeOf t ≤ m → t.sm 4294967296 → ∀ (d : Nat) (z : Int), d ≤ 32 → z = (d : Int) → Told Tryz.prog 150 [t.av, .c (.v (.int .i64 z))] (.c (.v (.bool (q6b d t)))) := by
 intro m
 induction m with
 | zero => intro t ht; cases t; simp at ht
 | succ m ih =>
 intro t ht hsm d z hd hz
 have hB := z38 t (sm_le (by omega) t hsm)
 have hKy := z39 t hsm
 have hx : ∀ x ∈ t.kids, Told Tryz.prog 150 [x.av, .c (.v (.int .i64 (z + 1)))] (.c (.v (.bool (q6b (d + 1) x)))) ∨ 32 ≤ d := by
  intro x hx
  by_cases h32 : 32 ≤ d
  · exact .inr h32
  · cases t with
    | mk k n s ks xs => exact .inl (ih x (by have := List.sizeOf_lt_of_mem (show x ∈ xs from hx); simp at ht; omega) (j6s hsm.2.2.2.2 x hx) (d + 1) (z + 1) (by omega) (by omega))
 clear ih ht hsm
 obtain ⟨V, hV⟩ : ∃ V, V = q6b d t := ⟨_, rfl⟩
 rw [← hV]
 cases t with
 | mk k n s ks xs =>
 rw [q6b] at hV
 replace hx : ∀ x ∈ xs, _ := hx
 obtain ⟨b1, hb1⟩ : ∃ b1, b1 = q4r (.mk k n s ks xs) := ⟨_, rfl⟩
 obtain ⟨b2, hb2⟩ : ∃ b2, b2 = q75 (.mk k n s ks xs) := ⟨_, rfl⟩
 rw [← hb1] at hB hV
 rw [← hb2] at hKy hV
 simp only [JT.av, q0n, List.map_cons, List.map_nil] at hB hKy
 refine VC.told ent_150 Tryz.func150 rfl Tryz.ntmps150 (by simp) rfl rfl fun hb => ?_
 clear hb
 refine q0c (And.intro @JT.av_eq @q0n) ?_
 refine q06 (And.intro @JT.av_eq @q0n) (hB) ?_
 refine q0c (And.intro @JT.av_eq @q0n) ?_
 refine q7o (And.intro @JT.av_eq @q0n) (hKy) ?_
 refine q0c (And.intro @JT.av_eq @q0n) ?_
 refine VC.cond (by rfl) (by trivial) (fun hc => ?_) (fun hc => ?_)
 · have hVf : V = false := by
    rw [hV]
    cases b1 <;> cases b2 <;> simp_all
    omega
   rw [hVf]
   refine q0b ?_
   refine retX Tryz.results150 ?_
   exact .c _
 · have hb12 : b1 = true ∧ b2 = true ∧ (32 ≤ d → k ≠ 5 ∧ k ≠ 6) := by
    cases b1 <;> cases b2 <;> simp_all
    intro h32
    exact hc (by omega)
   obtain ⟨rfl, rfl, hk56⟩ := hb12
   have hx2 : ∀ x ∈ xs, Told Tryz.prog 150 [x.av, .c (.v (.int .i64 (z + 1)))] (.c (.v (.bool (q6b (d + 1) x)))) := by
    intro x hxm
    rcases hx x hxm with h | h
    · exact h
    · obtain ⟨h5, h6⟩ := hk56 h
      rw [j7z hb1.symm h5 h6] at hxm
      simp at hxm
   have hVt : V = q76 (d + 1) xs := by
    rw [hV]
    by_cases h32 : 32 ≤ d
    · obtain ⟨h5, h6⟩ := hk56 h32
      simp [h5, h6]
    · simp [h32]
   have hF := cnfJ_told (g := 192) (fs := []) (cs := [.pp [.v (.int .i64 z)]]) rfl rfl xs (fun x => !q6b (d + 1) x) fun x hxm => z4t (by omega) (by omega) (hx2 x hxm)
   refine VC.skip ?_; refine SQ.normal ?_
   refine VC.frz [8] [(2, .ref 0 1 0 0), (3, .pp [.v (.int .i64 z)])] [(0, ⟨false, 36, 5, [(JT.mk k n s ks xs).cells.map .c]⟩)] 400 ?_ ?_
   · refine q5c (@q0n) ?_
     exact ⟨⟨.same _, .ref (es := [.v (.int .i64 z)]) (by simp) rfl rfl rfl rfl⟩, .same _⟩
   refine q0c (@q0n) ?_
   refine q06 (@q0n) (hF) ?_
   refine q0b ?_
   refine retX Tryz.results150 ?_
   rw [hVt, ← j9d]
   exact .c _
def jR (t : JT) : Bool := q6b 0 t
theorem z37 (t : JT) (ht : t.sm 4294967296) : Told Tryz.prog 100 [t.av] (.c (.v (.bool (jR t)))) := by
 have h := z4v _ t (Nat.le_refl _) ht 0 0 (by omega) rfl
 refine VC.told ent_100 Tryz.func100 rfl Tryz.ntmps100 (by simp) (by simp [AV.pureB, AV.pureL, JT.av, q02]) rfl fun hb => ?_
 clear hb
 refine q0c (And.intro @JT.av_eq (And.intro @q1z (And.intro @q18 @q19))) ?_
 refine q06 (And.intro @JT.av_eq (And.intro @q1z (And.intro @q18 (And.intro @q19 @q02)))) (h) ?_
 refine q0b ?_
 refine retX Tryz.results100 ?_
 exact .c _
end
end Go.Proofs.YtepneflbhpidbaaGreatDoor
