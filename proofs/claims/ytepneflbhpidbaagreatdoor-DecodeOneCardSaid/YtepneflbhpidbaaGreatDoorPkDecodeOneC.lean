/- Texts that lead to the law DecodeOne, joined. -/
import Derived.Test.YtepneflbhpidbaaGreatDoorPkDecodeOneB
import Derived.Test.YtepneflbhpidbaaGreatDoorPkDecodeOneA
import Derived.Test.YtepneflbhpidbaaGreatDoorPkDecodeOneXAbB
import Derived.Test.YtepneflbhpidbaaGreatDoorPkDecodeOneXShi
namespace Go.Proofs.YtepneflbhpidbaaGreatDoor
set_option maxRecDepth 100000
set_option maxHeartbeats 6400000
open Go.RowKit
set_option linter.unusedVariables false
set_option linter.unusedSimpArgs false

theorem nodup_of {ks : List (List UInt8)} (h : (Lib.compact (srt ks)).length = ks.length) : ks.Nodup := by
 have hperm : (srt ks).Perm ks := List.mergeSort_perm ks _
 have hlen := q7d ks
 have hsort : (srt ks).Pairwise fun a b => a ≤ b := by
  have := List.pairwise_mergeSort (le := fun x y : List UInt8 => decide (x ≤ y)) (fun a b c h1 h2 => by simp only [decide_eq_true_eq] at h1 h2 ⊢; exact List.le_trans h1 h2) (fun a b => by simp only [Bool.or_eq_true, decide_eq_true_eq]; exact List.le_total a b) ks
  exact this.imp fun h => by simpa using h
 generalize srt ks = L at h hperm hlen hsort
 refine hperm.nodup_iff.1 ?_
 have hk : ∀ j, j < L.length → Lib.keeps L.toArray j = true := by
  rw [← hlen] at h
  unfold Lib.compact Lib.compactUpTo at h
  rw [List.length_map] at h
  have h2 : ((List.range L.length).filter (Lib.keeps L.toArray)).length = (List.range L.length).length := by rw [h, List.length_range]
  intro j hj
  exact List.length_filter_eq_length_iff.1 h2 j (List.mem_range.2 hj)
 rw [List.nodup_iff_pairwise_ne, List.pairwise_iff_getElem]
 intro i j hi hj hij heq
 have h1 := List.pairwise_iff_getElem.1 hsort
 have hk1 := hk (i + 1) (by omega)
 have hle1 := h1 i (i + 1) hi (by omega) (by omega)
 have hle2 : L[i + 1]'(by omega) ≤ L[j] := by
  rcases Nat.lt_or_ge (i + 1) j with h2 | h2
  · exact h1 (i + 1) j (by omega) hj h2
  · have : i + 1 = j := by omega
    subst this
    exact List.le_refl _
 rw [← heq] at hle2
 have he := List.le_antisymm hle1 hle2
 unfold Lib.keeps at hk1
 have g1 : L.toArray[i + 1]! = L[i + 1]'(by omega) := by simp [show i + 1 < L.length by omega]
 have g2 : L.toArray[i + 1 - 1]! = L[i] := by simp [hi]
 rw [g1, g2, he] at hk1
 simp at hk1
theorem z20 {ks : List (List UInt8)} (h : ks.Nodup) : (Lib.compact (srt ks)).length = ks.length := by
 have hperm : (srt ks).Perm ks := List.mergeSort_perm ks _
 have hlen := q7d ks
 have hnd := hperm.nodup_iff.2 h
 generalize srt ks = L at hperm hlen hnd ⊢
 have hk : ∀ j, j < L.length → Lib.keeps L.toArray j = true := by
  intro j hj
  unfold Lib.keeps
  by_cases h0 : j = 0
  · simp [h0]
  · have g1 : L.toArray[j]! = L[j] := by simp [hj]
    have g2 : L.toArray[j - 1]! = L[j - 1]'(by omega) := by simp [show j - 1 < L.length by omega]
    rw [g1, g2]
    have := List.pairwise_iff_getElem.1 (List.nodup_iff_pairwise_ne.1 hnd) (j - 1) j (by omega) hj (by omega)
    exact decide_eq_true (.inr fun e => this e.symm)
 unfold Lib.compact Lib.compactUpTo
 rw [List.length_map, List.length_filter_eq_length_iff.2 fun j hj => hk j (List.mem_range.1 hj), List.length_range, hlen]

def rfail : JT → Bool
 | .mk k n s ks xs => decide (k < 1) || decide (k > 6) || (decide (k ≠ 2) && decide (k ≠ 3) && decide (n ≠ 0)) || (decide (k = 2) && decide (n ≠ 0) && decide (n ≠ 1)) || (decide (k ≠ 4) && !s.isEmpty) || !q2p s
   || (decide (k < 5) && !xs.isEmpty) || (decide (k ≠ 6) && !ks.isEmpty) || (decide (k = 6) && decide (ks.length ≠ xs.length))
mutual
def q5z : JT → Bool
 | .mk k n s ks xs => !rfail (.mk k n s ks xs) && (ks.all q2p && decide ks.Nodup) && q6r xs
def q6r : List JT → Bool
 | [] => true
 | x :: xs => q5z x && q6r xs
end
theorem z4u : q2p [] = true := by decide +kernel
theorem j28 (m : Nat) : ∀ (xs : List JT) (n : Nat), q3i n xs ≤ m ↔ n ≤ m ∧ ∀ x ∈ xs, 1 + q2b x ≤ m
 | [], n => by simp [q3i]
 | x :: xs, n => by
   rw [q3i, j28 m xs]
   simp only [List.mem_cons, forall_eq_or_imp]
   constructor
   · rintro ⟨h1, h2⟩; exact ⟨by omega, by omega, h2⟩
   · rintro ⟨h1, h2, h3⟩; exact ⟨by omega, h3⟩
theorem keyed_iff {k n : Int} {s : List UInt8} {ks : List (List UInt8)} {xs : List JT} : q75 (.mk k n s ks xs) = ((if k ≠ 6 then ks.isEmpty else decide (ks.length = xs.length)) && (ks.all q2p && decide ks.Nodup)) := by
 rw [q75]
 by_cases h6 : k = 6
 · rw [if_neg (by simp [h6]), if_neg (by simp [h6])]
   have : decide ((Lib.compact (srt ks)).length = ks.length) = decide ks.Nodup := by
    rw [Bool.eq_iff_iff]
    simp only [decide_eq_true_eq]
    exact ⟨nodup_of, z20⟩
   rw [this, Bool.and_comm (ks.all q2p)]
 · rw [if_pos h6, if_pos h6]
   cases ks with
   | nil => simp
   | cons y ks => simp
theorem bare_iff (k n : Int) (s : List UInt8) (ks : List (List UInt8)) (xs : List JT) : (q4r (.mk k n s ks xs) && (if k ≠ 6 then ks.isEmpty else decide (ks.length = xs.length))) = !rfail (.mk k n s ks xs) := by
 rw [Bool.eq_iff_iff]
 unfold rfail
 rw [q4r]
 have hr := z4u
 by_cases h1 : k = 1
 · subst h1; cases s <;> cases xs <;> cases ks <;> simp [hr]
 by_cases h2 : k = 2
 · subst h2; cases s <;> cases xs <;> cases ks <;> simp [hr]
   all_goals omega
 by_cases h3 : k = 3
 · subst h3; cases s <;> cases xs <;> cases ks <;> simp [hr]
 by_cases h4 : k = 4
 · subst h4; cases s <;> cases xs <;> cases ks <;> simp [hr]
 by_cases h5 : k = 5
 · subst h5; cases s <;> cases xs <;> cases ks <;> simp [hr]
 by_cases h6 : k = 6
 · subst h6; cases s <;> cases xs <;> cases ks <;> simp [hr]
 · have : k < 1 ∨ k > 6 := by omega
   simp [h1, h2, h3, h4, h5, h6, this]
   omega
mutual
theorem z0a (d : Nat) (hd : d ≤ 32) : ∀ t : JT, q6b d t = (decide (d + q2b t ≤ 32) && q5z t)
 | .mk k n s ks xs => by
   rw [q6b, q5z, keyed_iff, ← bare_iff, q2b]
   by_cases hb : q4r (.mk k n s ks xs) = true
   · by_cases h56 : k = 5 ∨ k = 6
     · rw [if_pos h56]
       by_cases h32 : d = 32
       · subst h32
         have := (j28 0 xs 1)
         have h1 : ¬ 32 + q3i 1 xs ≤ 32 := by
          intro h
          have := (j28 0 xs 1).1 (by omega)
          omega
         rw [Bool.eq_iff_iff]
         simp [h1]
         omega
       · rw [z0b (d + 1) (by omega) xs]
         have h2 : decide (d + q3i 1 xs ≤ 32) = (xs.all fun x => decide (d + 1 + q2b x ≤ 32)) := by
          rw [Bool.eq_iff_iff]
          simp only [decide_eq_true_eq, List.all_eq_true]
          have := j28 (32 - d) xs 1
          constructor
          · intro h x hx
            have := (this.1 (by omega)).2 x hx
            omega
          · intro h
            have := this.2 ⟨by omega, fun x hx => by have := h x hx; omega⟩
            omega
         have h3 : decide (32 ≤ d) = false := by simp; omega
         rw [h2, hb, h3]
         simp only [Bool.false_and, Bool.not_false, Bool.and_true, Bool.true_and]
         generalize (xs.all fun x => decide (d + 1 + q2b x ≤ 32)) = A
         generalize ((if k ≠ 6 then ks.isEmpty else decide (ks.length = xs.length)) && (ks.all q2p && decide ks.Nodup)) = Z
         cases A <;> cases Z <;> simp
     · rw [if_neg h56, j7z hb (fun h => h56 (.inl h)) (fun h => h56 (.inr h))]
       have h5 : decide (k = 5) = false := by simp; exact fun h => h56 (.inl h)
       have h6 : decide (k = 6) = false := by simp; exact fun h => h56 (.inr h)
       rw [h5, h6]
       simp [q76, q6r, hd, Bool.and_assoc]
   · simp [hb]
theorem z0b (d : Nat) (hd : d ≤ 32) : ∀ xs : List JT, q76 d xs = ((xs.all fun x => decide (d + q2b x ≤ 32)) && q6r xs)
 | [] => rfl
 | x :: xs => by
   rw [q76, q6r, z0a d hd x, z0b d hd xs, List.all_cons]
   cases decide (d + q2b x ≤ 32) <;> cases q5z x <;> simp
end
theorem jR_shape (t : JT) : jR t = (decide (q2b t ≤ 32) && q5z t) := by
 unfold jR
 rw [z0a 0 (by omega) t, Nat.zero_add]
section
attribute [local go_sem] opx opE ev okx q5h bnd okO AV.get AV.okb cAV q6y q8g q8f j0t j0s q79 q78 st q7s q5r q7u q7v q7t binV binI binS q42 q5o q5i q5p unV q6h q4h q3v q04 q2j Blkd.len setE grown q1r q45 q3w q4o pv q4j q30 q39 AV.cellish AV.pureL AV.pureB q77 q71 AV.ren AV.renL q8i Blkd.ren rho wrM renN q3t rhoE q4s q44 q7f q4y q6v q51 j0h j0i j0l q5l q8o q8w q8x q8z q83 q9a q9b q9f q9l q9n q9p q7g q9q q7h q50 q7i q7j j0b q6t q7k j0c q6e j0d q6u j0e q6f q7l j0f q7m j0g j0j j0k j0m j0n j0o j0p j0q q8p q8q q8r q8s q8t q8u q8v q8y q80 q81 q82 q84 q85 q86 q87 q88 q89 q9c q9d q9e q9g q9h q9i q9j q9k q9m q9o q9r q9s q9t q9u q9v q9w q9x q9y q9z q90 q91 q92 q93 q94 q95 q96 q97 q98 q99 j0a Option.map_some Option.map_none Option.getD_some Option.getD_none Option.bind_some Option.bind_none List.getElem?_cons_zero List.getElem?_cons_succ List.getElem?_nil List.getElem?_toArray List.length_cons List.length_nil List.length_map List.forall_mem_map List.map_cons List.map_nil List.drop_zero List.drop_succ_cons List.drop_nil List.take_zero List.take_succ_cons List.take_nil List.mem_cons List.not_mem_nil or_false forall_eq_or_imp forall_eq List.set_cons_zero List.set_cons_succ List.cons_append List.nil_append List.append_nil List.foldl_cons List.foldl_nil List.replicate_succ List.replicate_zero List.all_cons List.all_nil if_true if_false Bool.false_eq_true ne_eq not_false_eq_true not_true_eq_false true_and and_true and_self true_implies imp_self implies_true forall_const beq_self_eq_true Bool.and_true Bool.true_and Bool.and_false Bool.false_and Bool.or_true Bool.true_or Bool.or_false Bool.false_or Bool.not_true Bool.not_false Bool.not_eq_eq_eq_not q6a Value.oneCell' Int.toNat_natCast beq_true beq_false Bool.not_eq_true false_implies false_or true_or or_true Nat.zero_add Nat.add_zero decide_true decide_false Int.cast_ofNat_Int Int.toNat_zero Int.toNat_one eq_self

theorem z00 {α : Type} [DecidableEq α] {ks ls : List α} {i : Nat} {x y : α} (hx : ks[i]? = some x) (hy : ls[i]? = some y) (ht : ks.take i = ls.take i) : ks.take (i + 1) = ls.take (i + 1) ↔ x = y := by
 rw [List.take_add_one, List.take_add_one, hx, hy, ht]
 simp
theorem z0t (ks ls : List (List UInt8)) : Told Tryz.prog 48 [.c (.sl 1 (ks.map sPV)), .c (.sl 1 (ls.map sPV))] (.c (.v (.bool (ks == ls)))) := by
 refine VC.told ent_48 Tryz.func48 rfl Tryz.ntmps48 (by simp) rfl rfl fun hb => ?_
 simp only [q5n, q5x, List.mem_cons, List.not_mem_nil, or_false, forall_eq_or_imp, forall_eq, List.length_map] at hb
 have h1 := hb.1.1
 have h2 := hb.2.1
 clear hb
 refine q0b ?_
 refine VC.cond (by rfl) (by trivial) (fun hc => ?_) (fun hc => ?_)
 · have hne : (ks == ls) = false := by
    rw [beq_eq_false_iff_ne]
    intro e
    subst e
    simp at hc
   refine q0b ?_
   refine ⟨.inr rfl, ?_⟩
   rw [Tryz.results48, hne]
   simp only [q1f, resV, go_sem, simprocAttr]
   exact .c _
 · have hlen : ks.length = ls.length := by
    simp at hc
    omega
   refine q0b ?_
   refine VC.loop (ι := {i : Nat // i ≤ ks.length ∧ ks.take i = ls.take i}) (fun i => [(0, .c (.sl 1 (ks.map sPV))), (1, .c (.sl 1 (ls.map sPV))), (12, .c (.v (.int .i64 ks.length))), (13, .c (.v (.int .i64 i.1)))]) (fun _ => []) 0 (fun i => ks.length - i.1) ⟨0, Nat.zero_le _, rfl⟩ ?_ ?_
   · simp only [Weak, eq_self, q0v, q0p, sc_c, q0r, q0s, q0t, q0o, q0q, ScL, q0u, List.forall_mem_map, go_sem, Int.reduceBEq, Int.reduceLE, Int.reduceLT, Int.reduceNeg, Nat.reduceAdd, Nat.reduceEqDiff, Nat.reduceLT, Nat.reduceLeDiff, Nat.reduceMul, Nat.reduceSub, reduceCtorEq, ↓reduceIte]
     all_goals rfl
   rintro ⟨i, hi, ht⟩
   refine q0b ?_
   refine VC.cond (by rfl) (by trivial) (fun hc => ?_) (fun hc => ?_)
   · simp only [decide_eq_true_eq] at hc
     obtain ⟨x, hx⟩ : ∃ x, ks[i]? = some x := ⟨ks[i], List.getElem?_eq_getElem (by omega)⟩
     obtain ⟨y, hy⟩ : ∃ y, ls[i]? = some y := ⟨ls[i], List.getElem?_eq_getElem (by omega)⟩
     have hw : IntKind.i64.wrap ((i : Int) + 1) = (i : Int) + 1 := q0f (by omega) (by omega)
     have htn := z00 hx hy ht
     refine q0c (And.intro @q4t (And.intro hx (And.intro hy (And.intro @q4c @q17)))) ?_
     refine VC.cond (by rfl) (by trivial) (fun hc2 => ?_) (fun hc2 => ?_)
     · have hne : (ks == ls) = false := by
        rw [beq_eq_false_iff_ne]
        intro e
        subst e
        rw [hx] at hy
        obtain rfl := Option.some.inj hy
        simp at hc2
       refine q0b ?_
       refine ⟨.inr rfl, ?_⟩
       rw [Tryz.results48, hne]
       simp only [q1f, resV, go_sem, simprocAttr]
       exact .c _
     · have hxy : x = y := by simpa using hc2
       refine q0c (hw) ?_
       refine .next ⟨i + 1, by omega, htn.2 hxy⟩ ?_ (by simp only []; omega)
       refine q5b ?_
       exact cI (by omega)
   · simp only [decide_eq_false_iff_not] at hc
     obtain rfl : i = ks.length := by omega
     have heq : (ks == ls) = true := by
      rw [List.take_length, hlen, List.take_length] at ht
      simp [ht]
     refine q0b ?_
     refine ⟨.inr rfl, ?_⟩
     rw [Tryz.results48, heq]
     simp only [q1f, resV, go_sem, simprocAttr]
     exact .c _
noncomputable def jeq (a b : JT) : Bool := @decide (a = b) (Classical.propDecidable _)
theorem j2e (a b : JT) : jeq a b = true ↔ a = b := by simp [jeq]
theorem j54 (a b : JT) : jeq a b = false ↔ a ≠ b := by simp [jeq]
theorem j3s (a : JT) : jeq a a = true := (j2e a a).2 rfl
noncomputable def jeqL (a b : List JT) : Bool := @decide (a = b) (Classical.propDecidable _)
theorem j9c (a b : List JT) : jeqL a b = true ↔ a = b := by simp [jeqL]
theorem j9b (a b : List JT) : jeqL a b = false ↔ a ≠ b := by simp [jeqL]
theorem jeq_mk (k n k' n' : Int) (s s' : List UInt8) (ks ks' : List (List UInt8)) (xs xs' : List JT) : jeq (.mk k n s ks xs) (.mk k' n' s' ks' xs') = ((((k == k' && n == n') && s == s') && ks == ks') && jeqL xs xs') := by
 rw [Bool.eq_iff_iff]
 simp only [j2e, Bool.and_eq_true, beq_iff_eq, j9c, JT.mk.injEq]
 constructor
 · rintro ⟨rfl, rfl, rfl, rfl, rfl⟩; simp
 · rintro ⟨⟨⟨⟨rfl, rfl⟩, rfl⟩, rfl⟩, rfl⟩; simp
theorem z3z (xs ys : List JT) (hcall : ∀ x ∈ xs, ∀ y, Told Tryz.prog 76 [x.av, y.av] (.c (.v (.bool (jeq x y))))) :
  Told Tryz.prog 138 [.c (.sl 5 (xs.map JT.cells)), .c (.sl 5 (ys.map JT.cells)), .fn (.func 76) [] []] (.c (.v (.bool (jeqL xs ys)))) := by
 refine VC.told ent_138 Tryz.func138 rfl Tryz.ntmps138 (by simp) rfl rfl fun hb => ?_
 simp only [q5n, q5x, List.mem_cons, List.not_mem_nil, or_false, forall_eq_or_imp, forall_eq, List.length_map] at hb
 have h1 := hb.1.1
 have h2 := hb.2.1.1
 clear hb
 refine q0b ?_
 refine VC.cond (by rfl) (by trivial) (fun hc => ?_) (fun hc => ?_)
 · have hne : jeqL xs ys = false := by
    rw [j9b]
    intro e
    subst e
    simp at hc
   refine q0b ?_
   refine ⟨.inr rfl, ?_⟩
   rw [Tryz.results138, hne]
   simp only [q1f, resV, go_sem, simprocAttr]
   exact .c _
 · have hlen : xs.length = ys.length := by
    simp at hc
    omega
   refine q0b ?_
   refine VC.loop (ι := {i : Nat // i ≤ xs.length ∧ xs.take i = ys.take i}) (fun i => [(1, .c (.sl 5 (ys.map JT.cells))), (2, .fn (.func 76) [] []), (15, .c (.sl 5 (xs.map JT.cells))), (16, .c (.v (.int .i64 xs.length))), (17, .c (.v (.int .i64 i.1)))]) (fun _ => []) 0 (fun i => xs.length - i.1) ⟨0, Nat.zero_le _, rfl⟩ ?_ ?_
   · simp only [Weak, eq_self, q0v, q0p, sc_c, q0r, q0s, q0t, q0o, q0q, ScL, q0u, List.forall_mem_map, go_sem, Int.reduceBEq, Int.reduceLE, Int.reduceLT, Int.reduceNeg, Nat.reduceAdd, Nat.reduceEqDiff, Nat.reduceLT, Nat.reduceLeDiff, Nat.reduceMul, Nat.reduceSub, reduceCtorEq, ↓reduceIte]
     all_goals rfl
   rintro ⟨i, hi, ht⟩
   refine q0b ?_
   refine VC.cond (by rfl) (by trivial) (fun hc => ?_) (fun hc => ?_)
   · simp only [decide_eq_true_eq] at hc
     obtain ⟨x, hx⟩ : ∃ x, xs[i]? = some x := ⟨xs[i], List.getElem?_eq_getElem (by omega)⟩
     obtain ⟨y, hy⟩ : ∃ y, ys[i]? = some y := ⟨ys[i], List.getElem?_eq_getElem (by omega)⟩
     have hw : IntKind.i64.wrap ((i : Int) + 1) = (i : Int) + 1 := q0f (by omega) (by omega)
     have hcl := hcall x (List.mem_of_getElem? hx) y
     refine q0c (And.intro @q4t (And.intro hx (And.intro hy (And.intro @q1z (And.intro @q18 @q19))))) ?_
     (refine AO.step fun K hK => ?_; simp only [go_sem, Int.reduceBEq, Int.reduceLE, Int.reduceLT, Int.reduceNeg, Nat.reduceAdd, Nat.reduceEqDiff, Nat.reduceLT, Nat.reduceLeDiff, Nat.reduceMul, Nat.reduceSub, reduceCtorEq, ↓reduceIte, q02]; (first | refine q1k ?_ | skip))
     refine .inl ⟨_, hcl, hK _ _ _ ?_⟩
     clear hK K
     refine q0b ?_
     refine VC.cond (by rfl) (by trivial) (fun hc2 => ?_) (fun hc2 => ?_)
     · have hne : jeqL xs ys = false := by
        rw [j9b]
        intro e
        subst e
        rw [hx] at hy
        obtain rfl := Option.some.inj hy
        rw [j3s] at hc2
        simp at hc2
       refine q0b ?_
       refine ⟨.inr rfl, ?_⟩
       rw [Tryz.results138, hne]
       simp only [q1f, resV, go_sem, simprocAttr]
       exact .c _
     · have hxy : x = y := by
        rw [← j2e]
        simpa using hc2
       refine q0c (hw) ?_
       refine .next ⟨i + 1, by omega, ?_⟩ ?_ (by simp only []; omega)
       · rw [List.take_add_one, List.take_add_one, hx, hy, ht, hxy]
       refine q5b ?_
       exact cI (by omega)
   · simp only [decide_eq_false_iff_not] at hc
     obtain rfl : i = xs.length := by omega
     have heq : jeqL xs ys = true := by
      rw [List.take_length, hlen, List.take_length] at ht
      rw [j9c, ht]
     refine q0b ?_
     refine ⟨.inr rfl, ?_⟩
     rw [Tryz.results138, heq]
     simp only [q1f, resV, go_sem, simprocAttr]
     exact .c _
theorem same_told : ∀ (m : Nat) (a b : JT), SizeOf.sizeOf a ≤ m → Told Tryz.prog 76 [a.av, b.av] (.c (.v (.bool (jeq a b)))) := by
 intro m
 induction m with
 | zero => intro a b ha; cases a; simp at ha
 | succ m ih =>
 intro a b ha
 cases a with
 | mk k n s ks xs =>
 cases b with
 | mk k' n' s' ks' xs' =>
 refine VC.told ent_76 Tryz.func76 rfl Tryz.ntmps76 (by simp) rfl rfl fun hb => ?_
 clear hb
 simp only [JT.av, q0n, List.map_cons, List.map_nil]
 have hE := z3z xs xs' fun x hx y => ih x y (by
  have h1 := List.sizeOf_lt_of_mem hx
  simp at ha
  omega)
 refine q0c (@q17) ?_
 (refine AO.step fun K hK => ?_; simp only [go_sem, Int.reduceBEq, Int.reduceLE, Int.reduceLT, Int.reduceNeg, Nat.reduceAdd, Nat.reduceEqDiff, Nat.reduceLT, Nat.reduceLeDiff, Nat.reduceMul, Nat.reduceSub, reduceCtorEq, ↓reduceIte]; (first | refine q1k ?_ | skip))
 refine .inl ⟨_, fun _ => z0t ks ks', hK _ _ _ ?_⟩
 clear hK K
 refine q0b ?_
 (refine AO.step fun K hK => ?_; simp only [go_sem, Int.reduceBEq, Int.reduceLE, Int.reduceLT, Int.reduceNeg, Nat.reduceAdd, Nat.reduceEqDiff, Nat.reduceLT, Nat.reduceLeDiff, Nat.reduceMul, Nat.reduceSub, reduceCtorEq, ↓reduceIte]; (first | refine q1k ?_ | skip))
 refine .inl ⟨_, fun _ => hE, hK _ _ _ ?_⟩
 clear hK K
 refine q0b ?_
 refine ⟨.inr rfl, ?_⟩
 rw [Tryz.results76]
 simp only [q1f, resV, go_sem, simprocAttr]
 rw [jeq_mk]
 exact .c _

/-! Names. -/
def q4g (c : UInt8) : Bool := (decide (97 ≤ c.toNat) && decide (c.toNat ≤ 122)) || ((decide (65 ≤ c.toNat) && decide (c.toNat ≤ 90)) || decide (c.toNat = 95))
def q6o (c : UInt8) : Bool := decide (48 ≤ c.toNat) && decide (c.toNat ≤ 57)
def q4d : List UInt8 → Bool
 | [] => false
 | c :: cs => q4g c && cs.all fun c => q4g c || q6o c
def q11 (s : List UInt8) : Bool := decide (s.length ≤ 100) && q4d s
def q57 : Nat → List UInt8 → Bool
 | 0, _ => false
 | n + 1, s => q4d (s.takeWhile (· != 46)) && (match s.dropWhile (· != 46) with | [] => true | _ :: r => q57 n r)
def q3l (s : List UInt8) : Bool := decide (s.length ≤ 100) && q57 (s.length + 1) s
theorem j86 : ∀ (n m : Nat) (s : List UInt8), s.length < n → s.length < m → q57 n s = q57 m s
 | 0, _, _, h, _ => by omega
 | _, 0, _, _, h => by omega
 | n + 1, m + 1, s, h1, h2 => by
   rw [q57, q57]
   congr 1
   have hd : (s.dropWhile (· != 46)).length ≤ s.length := (List.dropWhile_sublist _).length_le
   split
   · rfl
   · rename_i x r hr
     rw [hr] at hd
     simp at hd
     exact j86 n m r (by omega) (by omega)
def q3s : List (List UInt8) := [[], [110, 117, 108, 108], [98, 111, 111, 108, 101, 97, 110], [105, 110, 116], [108, 111, 110, 103], [102, 108, 111, 97, 116], [100, 111, 117, 98, 108, 101], [98, 121, 116, 101, 115], [115, 116, 114, 105, 110, 103], [114, 101, 99, 111, 114, 100], [101, 110, 117, 109], [97, 114, 114, 97, 121], [109, 97, 112], [], [102, 105, 120, 101, 100]]
def q5u (s : List UInt8) : Nat := if s = [] then 0 else match q3s.findIdx? (· == s) with | some i => i | none => 0
/-! Schemas that may be. -/
def q3k (rule : List UInt8 → Bool) (l : List (List UInt8)) : Bool := l.all rule && decide l.Nodup
def allM (rule : List UInt8 → Bool) (l : List (List UInt8)) : Bool := decide (l.length ≤ 40) && l.all rule
def q6p : JT := .mk 0 0 [] [] []
def q64 (n : NT) : Bool :=
 (q1h n.kind || (n.name.isEmpty && n.aliases.isEmpty)) && ((n.kind == 9 || n.fields.isEmpty) && ((n.kind == 10 || (n.symbols.isEmpty && (!n.has && n.dflt.isEmpty))) && ((n.kind == 14 || n.size == 0) && ((n.kind == 11 || n.kind == 12 || n.items == 0) && (n.kind == 13 || n.branches.isEmpty)))))
noncomputable def q4f (f : FT) : Bool := allM q11 f.aliases && (if f.has = true then jR f.dflt else jeq f.dflt q6p)
noncomputable def q56 (l : List FT) : Bool := l.all q4f && (decide (l.length ≤ 40) && q3k q11 (l.map (·.name)))
def j12 (ns : List NT) (l : List Int) (k : Int) : Bool := q3c ns k.toNat != 13 && !l.any fun m => m == k || (!q1h (q3c ns k.toNat) && q3c ns m.toNat == q3c ns k.toNat)
def q4e (ns : List NT) : List Int → List Int → Bool
 | _, [] => true
 | l, k :: ks => j12 ns l k && q4e ns (l ++ [k]) ks
def j09 (ns : List NT) (l : List Int) : Bool := decide (1 ≤ l.length) && (decide (l.length ≤ 10) && q4e ns [] l)
noncomputable def q2h (ns : List NT) (n : NT) : Bool :=
 (decide (1 ≤ n.kind) && (decide (n.kind ≤ 14) && q64 n)) && ((!q1h n.kind || (q3l n.name && (q5u n.name == 0 && allM q3l n.aliases))) && (
  if n.kind = 9 then q56 n.fields else if n.kind = 10 then ((n.has == n.symbols.contains n.dflt) && (n.has || n.dflt.isEmpty)) && (decide (1 ≤ n.symbols.length) && (decide (n.symbols.length ≤ 40) && q3k q11 n.symbols))
  else if n.kind = 14 then decide (0 ≤ n.size) && decide (n.size ≤ 1000) else if n.kind = 13 then j09 ns n.branches else true))
def q3y (f : Nat → List Int → Int × List Int) : List FT → Int → List Int → Int × List Int
 | [], n, kn => (n, kn)
 | x :: xs, n, kn => q3y f xs (min (n + (f x.type.toNat kn).1) 1001) (f x.type.toNat kn).2
def knAt (kn : List Int) (k : Nat) : Int := match kn[k]? with | some n => n | none => 0
def q1t (ns : List NT) (k : Nat) : List FT := match ns[k]? with | some n => (if n.kind = 9 then n.fields else []) | none => []
def q2v (ns : List NT) : Nat → Nat → List Int → Int × List Int
 | 0, _, kn => (1001, kn)
 | d + 1, p, kn => if knAt kn p < 0 then (1001, kn) else if 0 < knAt kn p then (knAt kn p, kn) else
   ((q3y (q2v ns d) (q1t ns p) 1 (kn.set p (-1))).1, (q3y (q2v ns d) (q1t ns p) 1 (kn.set p (-1))).2.set p (q3y (q2v ns d) (q1t ns p) 1 (kn.set p (-1))).1)
noncomputable def q4a (ns : List NT) : List NT → Nat → List Int → Bool
 | [], _, _ => true
 | n :: r, p, kn => q2h ns n && (decide ((q2v ns (ns.length + 1) p kn).1 ≤ 1000) && q4a ns r (p + 1) (q2v ns (ns.length + 1) p kn).2)
def q1u (ns : List NT) : List (List UInt8) := (ns.filter fun n => q1h n.kind).map (·.name)
noncomputable def q1s (s : ST) : Bool := q38 s && (q4a s.nodes s.nodes 0 (List.replicate s.nodes.length 0) && q3k q3l (q1u s.nodes))
theorem j1t {s : ST} (h : q1s s = true) : q38 s = true := by
 unfold q1s at h
 simp only [Bool.and_eq_true] at h
 exact h.1

theorem j5d (s : ST) (xs : List VT) (hl : xs.length ≤ 1000000) (f : Nat → Int) (g : FuncId) (c : List PV) (hg : ∀ i, i < xs.length → Told Tryz.prog g [.c (.v (.int .i64 (i : Int))), .pp c] (.c (.v (.int .i64 (f i)))))
  (hx : ∀ (i : Nat) (x : VT), xs[i]? = some x → Told Tryz.prog 64 [s.av, .c (.v (.int .i64 (f i))), x.av] (.c (.v (.bool (isM s.nodes (f i) x))))) :
  Told Tryz.prog 124 [s.av, .c (.sl 6 (xs.map VT.cells)), .fn (.func g) [] [.pp c]] (.c (.v (.bool (q1x s.nodes f xs && decide (xs.length ≤ 300))))) := by
 obtain ⟨V, hV⟩ : ∃ V, V = (q1x s.nodes f xs && decide (xs.length ≤ 300)) := ⟨_, rfl⟩
 rw [← hV]
 simp only [ST.av_eq, q0i, List.map_cons, List.map_nil] at hx
 rw [ST.av_eq, q0i]
 refine VC.toldP ent_124 Tryz.func124 rfl Tryz.ntmps124 fun hb => ?_
 clear hb
 refine q0b ?_
 refine VC.loop (ι := {i : Nat // i ≤ xs.length ∧ ∀ (j : Nat) (x : VT), j < i → xs[j]? = some x → isM s.nodes (f j) x = true}) (fun q => [(1, .c (.sl 6 (xs.map VT.cells))), (2, .fn (.func g) [] [.pp c]), (3, .ref 0 1 0 0), (9, .c (.sl 6 (xs.map VT.cells))), (10, .c (.v (.int .i64 (xs.length : Int)))), (11, .c (.v (.int .i64 (q.1 : Int))))])
  (fun _ => [(0, ⟨false, 24, 2, [[.c (.sl 10 (s.nodes.map NT.cells)), .c (.v (.int .i64 s.root))]]⟩)]) 800 (fun q => xs.length - q.1) ⟨0, Nat.zero_le _, by intro j x h; omega⟩ ?_ ?_
 · exact q2z
 rintro ⟨i, hi, ht⟩
 simp only []
 refine q0b ?_
 refine VC.cond (by rfl) (by trivial) (fun hc => ?_) (fun hc => ?_)
 · have hlt : i < xs.length := by simp at hc; omega
   obtain ⟨x, hxi⟩ : ∃ x, xs[i]? = some x := ⟨xs[i], List.getElem?_eq_getElem hlt⟩
   have hw : IntKind.i64.wrap ((i : Int) + 1) = (i : Int) + 1 := q0f (by omega) (by omega)
   have hG := hg i hlt
   have hX := hx i x hxi
   clear hg hx
   have hxp : (xs.map VT.cells)[i]? = some x.cells := by rw [List.getElem?_map, hxi]; rfl
   rw [VT.av_eq] at hX
   have hB := fun h => z3v (ns := s.nodes) (f := f) hxi h
   obtain ⟨B, hBt⟩ : ∃ B, B = isM s.nodes (f i) x := ⟨_, rfl⟩
   rw [← hBt] at hX hB
   replace hBt := hBt.symm
   refine q0c (And.intro hxp (And.intro @q1b (And.intro @q1n @q1i))) ?_
   refine q0j (hG) ?_
   refine q0c (And.intro hxp (And.intro @q1b (And.intro @q1n @q1i))) ?_
   refine q06 (@q02) (hX) ?_
   refine q0b ?_
   refine VC.cond (by rfl) (by trivial) (fun hc2 => ?_) (fun hc2 => ?_)
   · have hf : B = false := by simpa using hc2
     obtain rfl : V = false := by rw [hV, hB hf]; rfl
     refine q0b ?_
     refine retX Tryz.results124 ?_
     exact .c _
   · have hf : B = true := by simpa using hc2
     refine q0c (hw) ?_
     refine .next ⟨i + 1, by omega, ?_⟩ ?_ (by simp only []; omega)
     · intro j y hj hy
       by_cases hji : j < i
       · exact ht j y hji hy
       · obtain rfl : j = i := by omega
         rw [hxi] at hy
         obtain rfl := Option.some.inj hy
         exact hBt.trans hf
     refine q5b ?_
     exact cI (by omega)
 · have hie : i = xs.length := by simp at hc; omega
   have hall : q1x s.nodes f xs = true := (j3d _ _ _).2 fun j x hj => ht j x (by have := (List.getElem?_eq_some_iff.1 hj).1; omega) hj
   have hv : V = decide ((xs.length : Int) ≤ 300) := by
    rw [hV, hall, Bool.true_and]
    exact decide_eq_decide.2 (by omega)
   clear hV
   refine q0b ?_
   refine retX Tryz.results124 ?_
   rw [hv]
   exact .c _
theorem z23 (nd : NT) (i : Nat) (hi : i < nd.fields.length) : Told Tryz.prog 125 [.c (.v (.int .i64 (i : Int))), .pp nd.cells] (.c (.v (.int .i64 (q2u nd i)))) := by
 obtain ⟨f, hf⟩ : ∃ f, nd.fields[i]? = some f := ⟨nd.fields[i], List.getElem?_eq_getElem hi⟩
 have hfp : (nd.fields.map FT.cells)[i]? = some f.cells := by rw [List.getElem?_map, hf]; rfl
 rw [show q2u nd i = f.type by rw [q2u, hf], q0d]
 refine VC.toldP ent_125 Tryz.func125 rfl Tryz.ntmps125 fun hb => ?_
 clear hb
 refine q0c (And.intro hfp @q3h) ?_
 refine retX Tryz.results125 ?_
 exact .c _
theorem j8i (nd : NT) (i : Int) : Told Tryz.prog 127 [.c (.v (.int .i64 i)), .pp nd.cells] (.c (.v (.int .i64 nd.items))) := by
 rw [q0d]
 refine VC.toldP ent_127 Tryz.func127 rfl Tryz.ntmps127 fun hb => ?_
 clear hb
 refine q0b ?_
 refine retX Tryz.results127 ?_
 exact .c _
theorem j65 {h : Nat → Option Blkd} {f : Fn} {x y : AV} (hv : View h x y) : View h (.fn f [] [x]) (.fn f [] [y]) := by
 refine .fn rfl (by simp) rfl fun k u z h1 h2 => ?_
 match k with
 | 0 => obtain rfl := Option.some.inj h1; obtain rfl := Option.some.inj h2; exact hv
 | k + 1 => simp at h1
theorem shr32 (b : Int) (hb : 0 ≤ b) : (b.fdiv (2 ^ min (Int.toNat 32) 64) == 0) = decide (b < 4294967296) := by
 rw [show (2 : Int) ^ min (Int.toNat 32) 64 = 4294967296 from rfl, Int.fdiv_eq_ediv_of_nonneg _ (by decide), Bool.eq_iff_iff]
 simp only [beq_iff_eq, decide_eq_true_eq]
 omega
theorem q6z {k n b : Int} {s : List UInt8} {m : Nat} {ks : List (List UInt8)} (h : q2y k n b s m ks = true) (h9 : k ≠ 9) (h11 : k ≠ 11) (h12 : k ≠ 12) (h13 : k ≠ 13) : m = 0 := by
 unfold q2y at h
 simp only [Bool.and_eq_true, Bool.or_eq_true, beq_iff_eq] at h
 omega
theorem z6t {k n b : Int} {s : List UInt8} {m : Nat} {ks : List (List UInt8)} (h : q2y k n b s m ks = true) (h12 : k ≠ 12) : ks = [] := by
 unfold q2y at h
 simp only [Bool.and_eq_true, Bool.or_eq_true, beq_iff_eq, List.isEmpty_iff] at h
 rcases h.2.2.2.2 with h | h
 · exact absurd h h12
 · exact h
theorem z24 (s : ST) (hkd : ∀ n ∈ s.nodes, ∀ k ∈ q1e n, 0 ≤ k ∧ k < (s.nodes.length : Int)) : ∀ (m : Nat) (v : VT), SizeOf.sizeOf v ≤ m → v.sm 1000000 → ∀ (a : Int), 0 ≤ a → a < (s.nodes.length : Int) → Told Tryz.prog 64 [s.av, .c (.v (.int .i64 a)), v.av] (.c (.v (.bool (isM s.nodes a v)))) := by
 intro m
 induction m with
 | zero => intro v hv; cases v; simp at hv
 | succ m ih =>
 intro v hv hsm a ha0 ha
 cases v with
 | mk k n b t xs ks =>
 obtain ⟨nd, hnd⟩ : ∃ nd, s.nodes[a.toNat]? = some nd := ⟨s.nodes[a.toNat]'(by omega), List.getElem?_eq_getElem (by omega)⟩
 have hnp : (s.nodes.map NT.cells)[a.toNat]? = some nd.cells := by rw [List.getElem?_map, hnd]; rfl
 have hkn := hkd nd (List.mem_of_getElem? hnd)
 obtain ⟨V, hV⟩ : ∃ V, V = isM s.nodes a (.mk k n b t xs ks) := ⟨_, rfl⟩
 rw [← hV]
 rw [q67 hnd] at hV
 obtain ⟨⟨hb0, hb1⟩, hs1, hs2, hs3, hs4, hs5⟩ := hsm
 have hit : ∀ (i : Nat) (x : VT), xs[i]? = some x → ∀ (f : Int), 0 ≤ f → f < (s.nodes.length : Int) → Told Tryz.prog 64 [s.av, .c (.v (.int .i64 f)), x.av] (.c (.v (.bool (isM s.nodes f x)))) := fun i x hx f h1 h2 => ih x (by
  have h3 := List.sizeOf_lt_of_mem (List.mem_of_getElem? hx)
  simp at hv
  omega) (j2q hs5 x (List.mem_of_getElem? hx)) f h1 h2
 have hB := z6u k n b t xs ks
 rw [VT.av_eq, q03] at hB
 have hR := j2p t (by omega)
 have hKy := z6w ks hs3
 clear ih hkd
 obtain ⟨nk, a1, a2, a3, a4, a5, a6, a7, a8, a9⟩ := nd
 rw [VT.av_eq, q03, ST.av_eq, q0i]
 rw [q0d] at hnp
 refine VC.toldP ent_64 Tryz.func64 rfl Tryz.ntmps64 fun hb => ?_
 clear hb
 refine q0c (hnp) ?_
 refine q2m (hB) ?_
 refine q0c (@j40) ?_
 unfold q3a at hV
 simp only [] at hV
 obtain ⟨bv, hbv⟩ : ∃ bv, bv = q2y k n b t xs.length ks := ⟨_, rfl⟩
 rw [← hbv] at hV ⊢
 refine VC.cond (by rfl) (by trivial) (fun hc => ?_) (fun hc => ?_)
 · have hh : (k == nk && (bv && decide (t.length ≤ 20000))) = false := by
    rw [Bool.eq_false_iff]
    intro h
    simp only [Bool.and_eq_true, beq_iff_eq, decide_eq_true_eq] at h
    obtain ⟨rfl, rfl, h⟩ := h
    simp at hc
    omega
   obtain rfl : V = false := by rw [hV, hh]; rfl
   refine q0b ?_
   refine retX Tryz.results64 ?_
   exact .c _
 have hh : (k == nk && (bv && decide (t.length ≤ 20000))) = true := by
  simp at hc
  simp only [Bool.and_eq_true, beq_iff_eq, decide_eq_true_eq]
  exact ⟨hc.1.1, hc.1.2, by omega⟩
 rw [hh, Bool.true_and] at hV
 simp only [Bool.and_eq_true, beq_iff_eq, decide_eq_true_eq] at hh
 obtain ⟨rfl, rfl, hh⟩ := hh
 clear hc hB
 replace hbv := hbv.symm
 refine q0b ?_
 by_cases h2 : k = 2
 · subst h2
   obtain rfl : xs = [] := List.length_eq_zero_iff.1 (q6z hbv (by decide) (by decide) (by decide) (by decide))
   refine q0m ?_
   refine retX Tryz.results64 ?_
   refine q1p ?_
   rw [hV, q1x]
   simp
 by_cases h3 : k = 3
 · subst h3
   obtain rfl : xs = [] := List.length_eq_zero_iff.1 (q6z hbv (by decide) (by decide) (by decide) (by decide))
   refine q0m ?_
   refine retX Tryz.results64 ?_
   refine q1p ?_
   rw [hV, q1x]
   simp
 by_cases h5 : k = 5
 · subst h5
   obtain rfl : xs = [] := List.length_eq_zero_iff.1 (q6z hbv (by decide) (by decide) (by decide) (by decide))
   refine q0m ?_
   refine retX Tryz.results64 ?_
   refine q1p ?_
   rw [hV, q1x]
   rw [show (b.fdiv (2 ^ min 32 64) == 0) = decide (b < 4294967296) from shr32 b hb0]
   simp
 by_cases h8 : k = 8
 · subst h8
   obtain rfl : xs = [] := List.length_eq_zero_iff.1 (q6z hbv (by decide) (by decide) (by decide) (by decide))
   refine q0m ?_
   refine q0j (hR) ?_
   refine q0b ?_
   refine retX Tryz.results64 ?_
   refine q1p ?_
   rw [hV, q1x]
   simp
 by_cases h14 : k = 14
 · subst h14
   obtain rfl : xs = [] := List.length_eq_zero_iff.1 (q6z hbv (by decide) (by decide) (by decide) (by decide))
   refine q0a (@j40) ?_
   refine retX Tryz.results64 ?_
   refine q1p ?_
   rw [hV, q1x]
   simp
 by_cases h10 : k = 10
 · subst h10
   obtain rfl : xs = [] := List.length_eq_zero_iff.1 (q6z hbv (by decide) (by decide) (by decide) (by decide))
   refine q0m ?_
   refine retX Tryz.results64 ?_
   refine q1p ?_
   rw [hV, q1x]
   simp
 by_cases h9 : k = 9
 · subst h9
   have hkn9 : ∀ i, i < a3.length → 0 ≤ q2u ⟨9, a1, a2, a3, a4, a5, a6, a7, a8, a9⟩ i ∧ q2u ⟨9, a1, a2, a3, a4, a5, a6, a7, a8, a9⟩ i < (s.nodes.length : Int) := by
    intro i hi
    rw [q2u]
    simp only [List.getElem?_eq_getElem hi]
    exact hkn _ (by rw [q1e, if_pos rfl]; exact List.mem_map.2 ⟨_, List.getElem_mem hi, rfl⟩)
   by_cases hlen : xs.length = a3.length
   · have hE := j5d s xs hs4 (q2u ⟨9, a1, a2, a3, a4, a5, a6, a7, a8, a9⟩) 125 (NT.cells ⟨9, a1, a2, a3, a4, a5, a6, a7, a8, a9⟩) (fun i hi => z23 _ i (by simp only []; omega)) fun i x hx => hit i x hx _ (hkn9 i (by have := (List.getElem?_eq_some_iff.1 hx).1; omega)).1 (hkn9 i (by have := (List.getElem?_eq_some_iff.1 hx).1; omega)).2
     have hle : ((xs.length : Int) == (a3.length : Int)) = true := by simp; omega
     rw [show q08 ⟨9, a1, a2, a3, a4, a5, a6, a7, a8, a9⟩ n = q2u ⟨9, a1, a2, a3, a4, a5, a6, a7, a8, a9⟩ from by funext i; simp [q08]] at hV
     generalize q1x s.nodes (q2u ⟨9, a1, a2, a3, a4, a5, a6, a7, a8, a9⟩) xs = E at hE hV
     simp only [ST.av_eq, q0i, List.map_cons, List.map_nil] at hE
     refine q0a (hle) ?_
     (refine AO.step fun K hK => ?_; simp only [go_sem, Int.reduceBEq, Int.reduceLE, Int.reduceLT, Int.reduceNeg, Nat.reduceAdd, Nat.reduceEqDiff, Nat.reduceLT, Nat.reduceLeDiff, Nat.reduceMul, Nat.reduceSub, reduceCtorEq, ↓reduceIte]; (first | refine q1k ?_ | skip))
     refine .inr (.inl ⟨.c (.v (.bool (E && decide (xs.length ≤ 300)))), [.agg [.c (.sl 10 (s.nodes.map NT.cells)), .c (.v (.int .i64 s.root))], .c (.sl 6 (xs.map VT.cells)), .fn (.func 125) [] [.pp (NT.cells ⟨9, a1, a2, a3, a4, a5, a6, a7, a8, a9⟩)]], [64], ⟨by rfl, rfl, fun k x z h5 h6 => ?_, rfl, hE⟩, hK _ _ _ ?_⟩)
     · match k with
       | 0 => obtain rfl := Option.some.inj h5; obtain rfl := Option.some.inj h6; exact .same _
       | 1 => obtain rfl := Option.some.inj h5; obtain rfl := Option.some.inj h6; exact .same _
       | 2 =>
         obtain rfl := Option.some.inj h5
         obtain rfl := Option.some.inj h6
         exact j65 (View.ref (es := NT.cells ⟨9, a1, a2, a3, a4, a5, a6, a7, a8, a9⟩) rfl rfl rfl rfl)
       | k + 3 => simp at h5
     clear hK K
     refine q0b ?_
     refine retX Tryz.results64 ?_
     refine q1p ?_
     rw [hV]
     simp [hlen, Bool.and_comm]
   · have hle : ((xs.length : Int) == (a3.length : Int)) = false := by simp; omega
     refine q0a (hle) ?_
     refine retX Tryz.results64 ?_
     refine q1p ?_
     rw [hV]
     simp [hlen]
 by_cases h12 : k = 12
 · subst h12
   have hki := hkn a8 (by rw [q1e, if_neg (by simp), if_pos (by simp)]; simp)
   have hE := j5d s xs hs4 (fun _ => a8) 127 (NT.cells ⟨12, a1, a2, a3, a4, a5, a6, a7, a8, a9⟩) (fun i _ => j8i ⟨12, a1, a2, a3, a4, a5, a6, a7, a8, a9⟩ i) fun i x hx => hit i x hx a8 hki.1 hki.2
   rw [show q08 ⟨12, a1, a2, a3, a4, a5, a6, a7, a8, a9⟩ n = fun _ => a8 from by funext i; simp [q08]] at hV
   generalize q1x s.nodes (fun _ => a8) xs = E at hE hV
   simp only [ST.av_eq, q0i, List.map_cons, List.map_nil] at hE
   by_cases hlen : ks.length = xs.length
   · have hle : ((ks.length : Int) != (xs.length : Int)) = false := by simp; omega
     rw [show (ks.length == xs.length) = true by simpa using hlen, Bool.true_and] at hV
     generalize ks.all keyM = bk at hKy hV
     refine q0a (hle) ?_
     refine q0j (hKy) ?_
     refine q0b ?_
     cases bk with
     | false =>
       refine q0m ?_
       refine retX Tryz.results64 ?_
       refine q1p ?_
       rw [hV]
       simp
     | true =>
       refine q0m ?_
       (refine AO.step fun K hK => ?_; simp only [go_sem, Int.reduceBEq, Int.reduceLE, Int.reduceLT, Int.reduceNeg, Nat.reduceAdd, Nat.reduceEqDiff, Nat.reduceLT, Nat.reduceLeDiff, Nat.reduceMul, Nat.reduceSub, reduceCtorEq, ↓reduceIte]; (first | refine q1k ?_ | skip))
       refine .inr (.inl ⟨.c (.v (.bool (E && decide (xs.length ≤ 300)))), [.agg [.c (.sl 10 (s.nodes.map NT.cells)), .c (.v (.int .i64 s.root))], .c (.sl 6 (xs.map VT.cells)), .fn (.func 127) [] [.pp (NT.cells ⟨12, a1, a2, a3, a4, a5, a6, a7, a8, a9⟩)]], [64], ⟨by rfl, rfl, fun k x z h5 h6 => ?_, rfl, hE⟩, hK _ _ _ ?_⟩)
       · match k with
         | 0 => obtain rfl := Option.some.inj h5; obtain rfl := Option.some.inj h6; exact .same _
         | 1 => obtain rfl := Option.some.inj h5; obtain rfl := Option.some.inj h6; exact .same _
         | 2 =>
           obtain rfl := Option.some.inj h5
           obtain rfl := Option.some.inj h6
           exact j65 (View.ref (es := NT.cells ⟨12, a1, a2, a3, a4, a5, a6, a7, a8, a9⟩) rfl rfl rfl rfl)
         | k + 3 => simp at h5
       clear hK K
       refine q0b ?_
       refine retX Tryz.results64 ?_
       refine q1p ?_
       rw [hV]
       simp [Bool.and_comm]
   · have hle : ((ks.length : Int) != (xs.length : Int)) = true := by simp; omega
     refine q0a (hle) ?_
     refine retX Tryz.results64 ?_
     refine q1p ?_
     rw [hV]
     simp [hlen]
 by_cases h11 : k = 11
 · subst h11
   have hki := hkn a8 (by rw [q1e, if_neg (by simp), if_pos (by simp)]; simp)
   have hE := j5d s xs hs4 (fun _ => a8) 127 (NT.cells ⟨11, a1, a2, a3, a4, a5, a6, a7, a8, a9⟩) (fun i _ => j8i ⟨11, a1, a2, a3, a4, a5, a6, a7, a8, a9⟩ i) fun i x hx => hit i x hx a8 hki.1 hki.2
   rw [show q08 ⟨11, a1, a2, a3, a4, a5, a6, a7, a8, a9⟩ n = fun _ => a8 from by funext i; simp [q08]] at hV
   generalize q1x s.nodes (fun _ => a8) xs = E at hE hV
   simp only [ST.av_eq, q0i, List.map_cons, List.map_nil] at hE
   refine q0m ?_
   (refine AO.step fun K hK => ?_; simp only [go_sem, Int.reduceBEq, Int.reduceLE, Int.reduceLT, Int.reduceNeg, Nat.reduceAdd, Nat.reduceEqDiff, Nat.reduceLT, Nat.reduceLeDiff, Nat.reduceMul, Nat.reduceSub, reduceCtorEq, ↓reduceIte]; (first | refine q1k ?_ | skip))
   refine .inr (.inl ⟨.c (.v (.bool (E && decide (xs.length ≤ 300)))), [.agg [.c (.sl 10 (s.nodes.map NT.cells)), .c (.v (.int .i64 s.root))], .c (.sl 6 (xs.map VT.cells)), .fn (.func 127) [] [.pp (NT.cells ⟨11, a1, a2, a3, a4, a5, a6, a7, a8, a9⟩)]], [64], ⟨by rfl, rfl, fun k x z h5 h6 => ?_, rfl, hE⟩, hK _ _ _ ?_⟩)
   · match k with
     | 0 => obtain rfl := Option.some.inj h5; obtain rfl := Option.some.inj h6; exact .same _
     | 1 => obtain rfl := Option.some.inj h5; obtain rfl := Option.some.inj h6; exact .same _
     | 2 =>
       obtain rfl := Option.some.inj h5
       obtain rfl := Option.some.inj h6
       exact j65 (View.ref (es := NT.cells ⟨11, a1, a2, a3, a4, a5, a6, a7, a8, a9⟩) rfl rfl rfl rfl)
     | k + 3 => simp at h5
   clear hK K
   refine q0b ?_
   refine retX Tryz.results64 ?_
   refine q1p ?_
   rw [hV]
   simp [Bool.and_comm]
 by_cases h13 : k = 13
 · subst h13
   by_cases hg : (0 ≤ n ∧ n < (a9.length : Int)) ∧ xs.length = 1
   · obtain ⟨⟨hg1, hg2⟩, hg3⟩ := hg
     obtain ⟨x, rfl⟩ := List.length_eq_one_iff.1 hg3
     have hnl : n.toNat < a9.length := by omega
     obtain ⟨q, hq⟩ : ∃ q, a9[n.toNat]? = some q := ⟨a9[n.toNat], List.getElem?_eq_getElem hnl⟩
     have hqp : (a9.map iPV)[n.toNat]? = some (iPV q) := by rw [List.getElem?_map, hq]; rfl
     have hki := hkn q (by rw [q1e, if_neg (by simp), if_neg (by simp), if_pos rfl]; exact List.mem_of_getElem? hq)
     have hX := hit 0 x rfl q hki.1 hki.2
     have e1 : decide (n ≥ 0) = true := by simpa using hg1
     have e2 : decide (n < (a9.length : Int)) = true := by simpa using hg2
     have hv2 : V = isM s.nodes q x := by
      have hib : q08 ⟨13, a1, a2, a3, a4, a5, a6, a7, a8, a9⟩ n 0 = q := by
       show (if (13 : Int) = 9 then _ else if (13 : Int) = 13 then q2x _ n else _) = q
       rw [if_neg (by decide), if_pos rfl, q2x]
       simp only [hq]
      rw [hV, q1x, q1x, hib]
      simp [hg1, hg2]
     clear hV
     generalize isM s.nodes q x = E at hX hv2
     simp only [ST.av_eq, VT.av_eq, q0i, List.map_cons, List.map_nil] at hX
     refine q0a (And.intro e1 (And.intro e2 (And.intro hqp (And.intro @q3b (And.intro @q1b (And.intro @q1n @q1i)))))) ?_
     refine q06 (@q02) (hX) ?_
     refine q0b ?_
     refine retX Tryz.results64 ?_
     rw [hv2]
     exact .c _
   · have hvf : V = false := by
      have : (decide (0 ≤ n) && (decide (n < (a9.length : Int)) && xs.length == 1)) = false := by
       rw [Bool.eq_false_iff]
       intro h
       simp only [Bool.and_eq_true, decide_eq_true_eq, beq_iff_eq] at h
       exact hg ⟨⟨h.1, h.2.1⟩, h.2.2⟩
      rw [hV]
      simp only [Int.reduceEq, if_false, if_true]
      rw [this]
      rfl
     clear hV
     by_cases hg1 : 0 ≤ n
     · have e1 : decide (n ≥ 0) = true := by simpa using hg1
       by_cases hg2 : n < (a9.length : Int)
       · have e2 : decide (n < (a9.length : Int)) = true := by simpa using hg2
         have e3 : ((xs.length : Int) == 1) = false := by
          simp only [beq_eq_false_iff_ne]
          intro h
          exact hg ⟨⟨hg1, hg2⟩, by omega⟩
         refine q0a (And.intro e1 (And.intro e2 e3)) ?_
         refine retX Tryz.results64 ?_
         rw [hvf]
         exact .c _
       · have e2 : decide (n < (a9.length : Int)) = false := by simpa using hg2
         refine q0a (And.intro e1 e2) ?_
         refine retX Tryz.results64 ?_
         rw [hvf]
         exact .c _
     · have e1 : decide (n ≥ 0) = false := by simpa using hg1
       refine q0a (e1) ?_
       refine retX Tryz.results64 ?_
       rw [hvf]
       exact .c _
 have e2 : (k == 2) = false := by simpa using h2
 have e3 : (k == 3) = false := by simpa using h3
 have e5 : (k == 5) = false := by simpa using h5
 have e8 : (k == 8) = false := by simpa using h8
 have e14 : (k == 14) = false := by simpa using h14
 have e10 : (k == 10) = false := by simpa using h10
 have e9 : (k == 9) = false := by simpa using h9
 have e12 : (k == 12) = false := by simpa using h12
 have e11 : (k == 11) = false := by simpa using h11
 have e13 : (k == 13) = false := by simpa using h13
 obtain rfl : xs = [] := List.length_eq_zero_iff.1 (q6z hbv h9 h11 h12 h13)
 rw [e2]
 refine q0a (And.intro e2 (And.intro e3 (And.intro e5 (And.intro e8 (And.intro e14 (And.intro e10 (And.intro e9 (And.intro e12 (And.intro e11 e13))))))))) ?_
 refine retX Tryz.results64 ?_
 refine q1p ?_
 rw [hV, q1x]
 simp [h2, h3, h5, h8, h14, h10, h9, h12, h11, h13]

theorem put1_told (ns : List NT) (r : Int) (cuts : List Int) (nd : NT) (k n b : Int) (t : List UInt8) (xs : List VT) (ks : List (List UInt8)) (i : Nat) (x : VT) (hx : xs[i]? = some x) (l : List UInt8) (c : Nat) (e : List UInt8 × Nat)
  (hP : ToldM Tryz.prog 121 [.ref 1000000 1 0 0, .row 1000001 l.length, .c (.v (.int .i64 nd.items)), x.av] [xE ns r cuts c, bB l] [some (xE ns r cuts e.2), some (bB (l ++ e.1))] (.row 1000001 (l ++ e.1).length)) :
  ToldM Tryz.prog 176 [.row 1000001 l.length, .c (.v (.int .i64 (i : Int))), .ref 1000002 1 0 0, .pp nd.cells, .pp (VT.mk k n b t xs ks).cells] [xE ns r cuts c, bB l, pE] [some (xE ns r cuts e.2), some (bB (l ++ e.1)), some pE] (.row 1000001 (l ++ e.1).length) := by
 have hxp : (xs.map VT.cells)[i]? = some x.cells := by rw [List.getElem?_map, hx]; rfl
 have hlt := (List.getElem?_eq_some_iff.1 hx).1
 obtain ⟨o, c'⟩ := e
 simp only [] at hP ⊢
 obtain ⟨m, hm⟩ : ∃ m, m = l ++ o := ⟨_, rfl⟩
 rw [← hm] at hP ⊢
 rw [VT.av_eq] at hP
 unfold bB xE at hP
 unfold bB xE pE
 refine VC.toldXF (And.intro @q0k @q3e) ent_176 [] Tryz.func176 rfl Tryz.ntmps176 fun hb hbL => ?_
 clear hb hbL
 refine q0c (And.intro @q03 (And.intro @q0d (And.intro hxp (And.intro @q0k (And.intro @q1b (And.intro @q1n @q1i)))))) ?_
 refine q01 (And.intro @q0k @q00) [1000000, 1000001] (hP) ?_
 refine q0c (And.intro @q0k @q00) ?_
 refine q16 (And.intro @q00 @q0k) Tryz.results176 ?_
 exact .keepW rfl
theorem put2_told (ns : List NT) (r : Int) (cuts : List Int) (nd : NT) (k n b : Int) (t : List UInt8) (xs : List VT) (ks : List (List UInt8)) (i : Nat) (x : VT) (hx : xs[i]? = some x) (y : List UInt8) (hy : ks[i]? = some y) (hyl : y.length ≤ 1000000) (l : List UInt8) (hl : l.length ≤ 90000000) (c : Nat) (e : List UInt8 × Nat)
  (hP : ToldM Tryz.prog 121 [.ref 1000000 1 0 0, .row 1000001 (l ++ (vput (y.length : Int) ++ y)).length, .c (.v (.int .i64 nd.items)), x.av] [xE ns r cuts c, bB (l ++ (vput (y.length : Int) ++ y))] [some (xE ns r cuts e.2), some (bB ((l ++ (vput (y.length : Int) ++ y)) ++ e.1))] (.row 1000001 ((l ++ (vput (y.length : Int) ++ y)) ++ e.1).length)) :
  ToldM Tryz.prog 177 [.row 1000001 l.length, .c (.v (.int .i64 (i : Int))), .ref 1000002 1 0 0, .pp (VT.mk k n b t xs ks).cells, .pp nd.cells] [xE ns r cuts c, bB l, pE] [some (xE ns r cuts e.2), some (bB (l ++ ((vput (y.length : Int) ++ y) ++ e.1))), some pE] (.row 1000001 (l ++ ((vput (y.length : Int) ++ y) ++ e.1)).length) := by
 have hxp : (xs.map VT.cells)[i]? = some x.cells := by rw [List.getElem?_map, hx]; rfl
 have hyp : (ks.map sPV)[i]? = some (sPV y) := by rw [List.getElem?_map, hy]; rfl
 have hlt := (List.getElem?_eq_some_iff.1 hx).1
 have hlt2 := (List.getElem?_eq_some_iff.1 hy).1
 have hB := j6d l y (by omega) (by omega)
 obtain ⟨o, c'⟩ := e
 simp only [] at hP ⊢
 obtain ⟨p, hp⟩ : ∃ p, p = l ++ (vput (y.length : Int) ++ y) := ⟨_, rfl⟩
 rw [← List.append_assoc, ← hp]
 rw [← hp] at hP hB
 obtain ⟨m, hm⟩ : ∃ m, m = p ++ o := ⟨_, rfl⟩
 rw [← hm] at hP ⊢
 rw [VT.av_eq] at hP
 have hbs : q0e (str y).data.toList = q0e y := by rw [q6s]
 unfold bB xE at hP
 unfold bB at hB
 unfold bB xE pE
 refine VC.toldXF (And.intro @q0k @q3e) ent_177 [] Tryz.func177 rfl Tryz.ntmps177 fun hb hbL => ?_
 clear hb hbL
 refine q0c (And.intro @q03 (And.intro @q0d (And.intro hxp (And.intro hyp (And.intro @q4c (And.intro @q2a (And.intro hbs (And.intro @q0k (And.intro @q1b (And.intro @q1n @q1i)))))))))) ?_
 refine q01 (And.intro @q0k @q00) [1000001] (hB) ?_
 refine q0c (And.intro @q03 (And.intro @q0d (And.intro hxp (And.intro @q0k (And.intro @q00 (And.intro @q1b (And.intro @q1n @q1i))))))) ?_
 refine q01 (And.intro @q0k @q00) [1000000, 1000001] (hP) ?_
 refine q0c (And.intro @q0k @q00) ?_
 refine q16 (And.intro @q00 @q0k) Tryz.results177 ?_
 exact .keepW rfl

theorem z50 {P : Program} {f : FuncId} {xs : List Value} {r : Value} (hE : q0g P f) (hr : r.oneCell' = true) (h : ∀ W : World, Calls P f xs.toArray W fun e w' => e = .returned r ∧ w' = W) : Told P f (xs.map fun x => .c (.v x)) (.c (.v r)) := by
 refine ⟨hE, fun W ro vs hro hgk hl => ?_⟩
 have hvs : vs = xs := by
  apply List.ext_getElem?
  intro k
  by_cases hk : k < xs.length
  · have hkv : k < vs.length := by rw [hl.1]; simpa using hk
    have := hl.2 k _ _ (by rw [List.getElem?_map, List.getElem?_eq_getElem hk]; rfl) (List.getElem?_eq_getElem hkv)
    rw [List.getElem?_eq_getElem hkv, q10 this, List.getElem?_eq_getElem hk]
  · rw [List.getElem?_eq_none (by rw [hl.1]; simpa using hk), List.getElem?_eq_none (by omega)]
 subst hvs
 refine (h W).mono ?_
 rintro e W' ⟨rfl, rfl⟩
 exact ⟨r, ro, rfl, Below.refl _ _, fun b h => h, fun b h => ⟨.inl h, hro b h⟩, .c (.v hr), .c _⟩

theorem z4d (c : UInt8) : Told Tryz.prog 186 [.c (.v (.int .u8 (c.toNat : Int)))] (.c (.v (.bool (q4g c)))) := by
 obtain ⟨V, hV⟩ : ∃ V, V = q4g c := ⟨_, rfl⟩
 rw [← hV]
 obtain ⟨y, hy⟩ : ∃ y : Int, y = (c.toNat : Int) := ⟨_, rfl⟩
 rw [← hy]
 have hv : V = ((decide (y ≥ 97) && decide (y ≤ 122)) || ((decide (y ≥ 65) && decide (y ≤ 90)) || (y == 95))) := by
  have e : (y == 95) = decide (c.toNat = 95) := by
   rw [hy]
   by_cases h : c.toNat = 95
   · simp [h]
   · have : ¬ ((c.toNat : Int) = 95) := by omega
     simp [h, this]
  rw [hV, q4g, e, hy]
  congr 1
  · congr 1 <;> simp <;> omega
  · congr 1
    congr 1 <;> simp <;> omega
 clear hV hy
 replace hv := Lib.hid hv
 refine VC.toldP ent_186 Tryz.func186 rfl Tryz.ntmps186 fun hb => ?_
 clear hb
 refine q0c (@lAss) ?_
 refine retX Tryz.results186 ?_
 have hv2 : V = ((decide (y ≥ 97) && decide (y ≤ 122)) || (decide (y ≥ 65) && decide (y ≤ 90)) || (y == 95)) := by rw [hv.out, Bool.or_assoc]
 rw [hv2]
 exact .c _
def okAt (i : Nat) (c : UInt8) : Bool := q4g c || (decide (0 < i) && q6o c)
theorem z0u {s : List UInt8} : q4d s = true ↔ s ≠ [] ∧ ∀ (i : Nat) (c : UInt8), s[i]? = some c → okAt i c = true := by
 cases s with
 | nil => simp [q4d]
 | cons x xs =>
   simp only [q4d, Bool.and_eq_true, List.all_eq_true, ne_eq, reduceCtorEq, not_false_eq_true, true_and]
   constructor
   · rintro ⟨h1, h2⟩ i c hc
     match i with
     | 0 =>
       simp at hc
       subst hc
       simp [okAt, h1]
     | i + 1 =>
       rw [List.getElem?_cons_succ] at hc
       have := h2 c (List.mem_of_getElem? hc)
       simpa [okAt] using this
   · intro h
     refine ⟨by simpa [okAt] using h 0 x rfl, fun c hc => ?_⟩
     obtain ⟨i, hi⟩ := List.getElem?_of_mem hc
     simpa [okAt] using h (i + 1) c (by rw [List.getElem?_cons_succ]; exact hi)
theorem z0v (s : List UInt8) (hs : s.length ≤ 1000000000) : Told Tryz.prog 137 [.c (.v (.string (str s)))] (.c (.v (.bool (q4d s)))) := by
 obtain ⟨V, hV⟩ : ∃ V, V = q4d s := ⟨_, rfl⟩
 rw [← hV]
 refine VC.toldP ent_137 Tryz.func137 rfl Tryz.ntmps137 fun hb => ?_
 clear hb
 refine q0c (@q2a) ?_
 refine VC.loop (ι := {i : Nat // i ≤ s.length ∧ ∀ (j : Nat) (c : UInt8), j < i → s[j]? = some c → okAt j c = true})
  (fun q => [(0, .c (.v (.string (str s)))), (5, .c (.v (.int .i64 (s.length : Int)))), (6, .c (.v (.int .i64 (q.1 : Int))))]) (fun _ => []) 800 (fun q => s.length - q.1) ⟨0, Nat.zero_le _, fun j c h => by omega⟩ ?_ ?_
 · simp only [Weak, eq_self, q0v, q0p, sc_c, q0r, q0s, q0t, q0o, q0q, ScL, q0u, List.forall_mem_map, go_sem, Int.reduceBEq, Int.reduceLE, Int.reduceLT, Int.reduceNeg, Nat.reduceAdd, Nat.reduceEqDiff, Nat.reduceLT, Nat.reduceLeDiff, Nat.reduceMul, Nat.reduceSub, reduceCtorEq, ↓reduceIte]
   try trivial
 rintro ⟨i, hi, ht⟩
 simp only []
 refine q0b ?_
 refine VC.cond (by rfl) (by trivial) (fun hc => ?_) (fun hc => ?_)
 · have hlt : i < s.length := by simp at hc; omega
   obtain ⟨c, hx⟩ : ∃ c, s[i]? = some c := ⟨s[i], List.getElem?_eq_getElem hlt⟩
   have hw : IntKind.i64.wrap ((i : Int) + 1) = (i : Int) + 1 := q0f (by omega) (by omega)
   have hL := z4d c
   refine q0c (And.intro @q2a (And.intro @q6s hx)) ?_
   refine q0j (hL) ?_
   refine q0c (And.intro @q2a (And.intro @q6s hx)) ?_
   refine VC.cond (by rfl) (by trivial) (fun hc2 => ?_) (fun hc2 => ?_)
   · have hf : V = false := by
      cases h : V with
      | false => rfl
      | true =>
        rw [hV, z0u] at h
        have := h.2 i c hx
        cases hl : q4g c with
        | true => simp [hl] at hc2
        | false =>
          simp [okAt, q6o, hl] at this hc2
          omega
     subst hf
     refine q0b ?_
     refine retX Tryz.results137 ?_
     exact .c _
   · refine q0c (hw) ?_
     refine .next ⟨i + 1, by omega, ?_⟩ ?_ (by simp only []; omega)
     · intro j d hj hd
       by_cases hji : j < i
       · exact ht j d hji hd
       · obtain rfl : j = i := by omega
         rw [hx] at hd
         obtain rfl := Option.some.inj hd
         cases hl : q4g c with
         | true => simp [okAt, hl]
         | false =>
           simp [okAt, q6o, hl] at hc2 ⊢
           omega
     simp only [Weak, eq_self, q0v, q0p, sc_c, q0r, q0s, q0t, q0o, q0q, ScL, q0u, List.forall_mem_map, go_sem, Int.reduceBEq, Int.reduceLE, Int.reduceLT, Int.reduceNeg, Nat.reduceAdd, Nat.reduceEqDiff, Nat.reduceLT, Nat.reduceLeDiff, Nat.reduceMul, Nat.reduceSub, reduceCtorEq, ↓reduceIte]
     try exact cI (by omega)
 · have hE : (⟨#[]⟩ : ByteArray).toList = [] := q17 []
   have hie : i = s.length := by simp at hc; omega
   have hf : V = !(s == []) := by
    rw [hV, Bool.eq_iff_iff, z0u]
    constructor
    · rintro ⟨h1, _⟩
      simpa using h1
    · intro h1
      refine ⟨by simpa using h1, fun j c hj => ht j c ?_ hj⟩
      have := (List.getElem?_eq_some_iff.1 hj).1
      omega
   refine q0c (And.intro @q17 hE) ?_
   refine retX Tryz.results137 ?_
   rw [hf]
   exact .c _
theorem j6r (s : List UInt8) (hs : s.length ≤ 1000000000) : Told Tryz.prog 134 [.c (.v (.string (str s)))] (.c (.v (.bool (q11 s)))) := by
 obtain ⟨V, hV⟩ : ∃ V, V = q11 s := ⟨_, rfl⟩
 rw [← hV]
 have hv : V = (decide ((s.length : Int) ≤ 100) && q4d s) := by
  rw [hV, q11]
  congr 1
  simp
  omega
 have hT := z0v s hs
 clear hV
 refine VC.toldP ent_134 Tryz.func134 rfl Tryz.ntmps134 fun hb => ?_
 clear hb
 refine q0c (@q2a) ?_
 refine q2m (hT) ?_
 refine q0b ?_
 refine retX Tryz.results134 ?_
 rw [hv]
 exact .c _

theorem j89 (c : UInt8) : ∀ s : List UInt8, (Lib.indexByte s c = -1 ∧ s.takeWhile (· != c) = s ∧ s.dropWhile (· != c) = []) ∨ (∃ i : Nat, i < s.length ∧ Lib.indexByte s c = (i : Int) ∧ s.takeWhile (· != c) = s.take i ∧ s.dropWhile (· != c) = c :: s.drop (i + 1))
 | [] => .inl ⟨rfl, rfl, rfl⟩
 | x :: xs => by
   by_cases h : x = c
   · subst h
     exact .inr ⟨0, by simp, by simp [Lib.indexByte], by simp, by simp⟩
   · have hb : (x == c) = false := by simp [h]
     have hb' : (x != c) = true := by simp [h]
     rcases j89 c xs with ⟨h1, h2, h3⟩ | ⟨i, h0, h1, h2, h3⟩
     · exact .inl ⟨by simp [Lib.indexByte, hb, h1], by rw [List.takeWhile_cons, if_pos hb', h2], by rw [List.dropWhile_cons, if_pos hb', h3]⟩
     · refine .inr ⟨i + 1, by simp; omega, ?_, by rw [List.takeWhile_cons, if_pos hb', h2]; rfl, by rw [List.dropWhile_cons, if_pos hb', h3]; rfl⟩
       rw [Lib.indexByte, hb, h1]
       have : ((i : Int) == -1) = false := by simp
       simp [this]
theorem j4h (l : List UInt8) (a b : Nat) : (str l).extract a b = str ((l.take b).drop a) := by
 apply ByteArray.ext
 simp [str, ByteArray.data_extract, List.drop_take]
theorem z35 (s : List UInt8) : Told Tryz.prog 214 [.c (.v (.string (str s))), .c (.v (.string ⟨#[46]⟩))] (.c (.v (.int .i64 (Lib.indexByte s 46)))) :=
 z50 (xs := [.string (str s), .string ⟨#[46]⟩]) ent_214 rfl fun W => Tryz.stringslite_Index_one (str s) 46 W
theorem cut0_told (s : List UInt8) (hs : s.length ≤ 1000000000) : Told Tryz.prog 185 [.c (.v (.string (str s))), .c (.v (.string ⟨#[46]⟩))] (.tup [.c (.v (.string (str (s.takeWhile (· != 46))))), .c (.v (.string (str (s.dropWhile (· != 46)).tail))), .c (.v (.bool (!(s.dropWhile (· != 46)).isEmpty)))]) := by
 have hI := z35 s
 rcases j89 46 s with ⟨h1, h2, h3⟩ | ⟨i, h0, h1, h2, h3⟩
 · rw [h2, h3]
   rw [h1] at hI
   refine VC.toldP ent_185 Tryz.func185 rfl Tryz.ntmps185 fun hb => ?_
   clear hb
   refine q0b ?_
   refine q0j (hI) ?_
   refine q0m ?_
   refine retX Tryz.results185 ?_
   exact ⟨.c _, .c _, .c _⟩
 · rw [h2, h3]
   rw [h1] at hI
   have hd : decide ((i : Int) ≥ 0) = true := by simp
   have hz : (⟨#[46]⟩ : ByteArray).size = 1 := rfl
   have hw : IntKind.i64.wrap ((i : Int) + 1) = (i : Int) + 1 := q0f (by omega) (by omega)
   have hx1 : (str s).extract 0 i = str (s.take i) := by
    rw [j4h, List.drop_zero]
   have hx2 : (str s).extract (i + 1) s.length = str (s.drop (i + 1)) := by
    rw [j4h, List.take_length]
   have ht : ((i : Int) + 1).toNat = i + 1 := by omega
   refine VC.toldP ent_185 Tryz.func185 rfl Tryz.ntmps185 fun hb => ?_
   clear hb
   refine q0b ?_
   refine q0j (hI) ?_
   refine q0a (And.intro hd (And.intro hz (And.intro hw @q2a))) ?_
   refine retX Tryz.results185 ?_
   rw [ht, hx1, hx2]
   exact ⟨.c _, .c _, .c _⟩
theorem cut_told (s : List UInt8) (hs : s.length ≤ 1000000000) : Told Tryz.prog 136 [.c (.v (.string (str s))), .c (.v (.string ⟨#[46]⟩))] (.tup [.c (.v (.string (str (s.takeWhile (· != 46))))), .c (.v (.string (str (s.dropWhile (· != 46)).tail))), .c (.v (.bool (!(s.dropWhile (· != 46)).isEmpty)))]) := by
 have hI := cut0_told s hs
 refine VC.toldP ent_136 Tryz.func136 rfl Tryz.ntmps136 fun hb => ?_
 clear hb
 refine q0b ?_
 refine q0j (hI) ?_
 refine q0b ?_
 refine retX Tryz.results136 ?_
 exact ⟨.c _, .c _, .c _⟩
theorem j50 (s : List UInt8) (hs : s.length ≤ 1000000000) : Told Tryz.prog 72 [.c (.v (.string (str s)))] (.c (.v (.bool (q3l s)))) := by
 obtain ⟨V, hV⟩ : ∃ V, V = q3l s := ⟨_, rfl⟩
 rw [← hV]
 unfold q3l at hV
 refine VC.toldP ent_72 Tryz.func72 rfl Tryz.ntmps72 fun hb => ?_
 clear hb
 refine q0c (@q2a) ?_
 refine VC.cond (by rfl) (by trivial) (fun hc => ?_) (fun hc => ?_)
 · have hf : V = false := by
    have : ¬ (s.length ≤ 100) := by simp at hc; omega
    rw [hV]
    simp [this]
   subst hf
   refine q0b ?_
   refine retX Tryz.results72 ?_
   exact .c _
 have hl : s.length ≤ 100 := by simp at hc; omega
 have hv : q57 (s.length + 1) s = V := by rw [hV]; simp [hl]
 clear hV hc
 refine q0b ?_
 refine VC.loop (ι := {l : List UInt8 // l.length ≤ 100 ∧ q57 (l.length + 1) l = V}) (fun q => [(0, .c (.v (.string (str q.1))))]) (fun _ => []) 800 (fun q => q.1.length) ⟨s, hl, hv⟩ ?_ ?_
 · exact q2z
 rintro ⟨l, hl, hv⟩
 simp only []
 rw [q57] at hv
 have hC := cut_told l (by omega)
 obtain ⟨p, hp⟩ : ∃ p, p = l.takeWhile (· != 46) := ⟨_, rfl⟩
 obtain ⟨D, hD⟩ : ∃ D, D = l.dropWhile (· != 46) := ⟨_, rfl⟩
 have hpl : p.length ≤ l.length := by rw [hp]; exact (List.takeWhile_sublist _).length_le
 have hDl : D.length ≤ l.length := by rw [hD]; exact (List.dropWhile_sublist _).length_le
 rw [← hp, ← hD] at hC hv
 clear hp hD
 have hS := z0v p (by omega)
 refine q0b ?_
 refine q0j (hC) ?_
 refine q0b ?_
 refine q0j (hS) ?_
 refine q0b ?_
 refine VC.cond (by rfl) (by trivial) (fun hc => ?_) (fun hc => ?_)
 · have hf : V = false := by
    rw [← hv]
    have : q4d p = false := by simpa using hc
    simp [this]
   subst hf
   refine q0b ?_
   refine retX Tryz.results72 ?_
   exact .c _
 have hp1 : q4d p = true := by simpa using hc
 rw [hp1, Bool.true_and] at hv
 refine q0b ?_
 refine VC.cond (by rfl) (by trivial) (fun hc2 => ?_) (fun hc2 => ?_)
 · cases D with
   | cons x r => simp at hc2
   | nil =>
     have hf : V = true := hv.symm
     subst hf
     refine q0b ?_
     refine retX Tryz.results72 ?_
     exact .c _
 · cases D with
   | nil => simp at hc2
   | cons x r =>
     simp only [] at hv
     simp only [List.length_cons] at hDl
     refine q0c (@lTail) ?_
     refine .next ⟨r, by omega, by rw [← hv]; exact j86 _ _ _ (by omega) (by omega)⟩ ?_ (by simp only []; omega)
     exact q2z
theorem kind_told (s : List UInt8) : Told Tryz.prog 130 [.c (.v (.string (str s)))] (.c (.v (.int .i64 (q5u s : Int)))) := by
 obtain ⟨V, hV⟩ : ∃ V, V = q5u s := ⟨_, rfl⟩
 rw [← hV]
 obtain ⟨L, hL⟩ : ∃ L, L = q3s.map fun l => PV.v (.string (str l)) := ⟨_, rfl⟩
 have hg : glob Tryz.prog 0 = some L := by rw [hL]; kernel_rfl
 have hLl : L.length = 15 := by rw [hL]; rfl
 have hLt : L.take 15 = L := by rw [← hLl, List.take_length]
 refine VC.toldP ent_130 Tryz.func130 rfl Tryz.ntmps130 fun hb => ?_
 clear hb
 refine q0c (And.intro hg (And.intro hLl hLt)) ?_
 have hE : (⟨#[]⟩ : ByteArray).toList = [] := q17 []
 have hkl : q3s.length = 15 := rfl
 refine VC.loop (ι := {i : Nat // i ≤ 15 ∧ ∀ (j : Nat) (w : List UInt8), j < i → q3s[j]? = some w → s ≠ [] → w ≠ s}) (fun q => [(0, .c (.v (.string (str s)))), (5, .agg (L.map .c)), (6, .c (.v (.int .i64 (q.1 : Int))))]) (fun _ => []) 800 (fun q => 15 - q.1) ⟨0, by omega, fun j w h => by omega⟩ ?_ ?_
 · exact q2z
 rintro ⟨i, hi, ht⟩
 simp only []
 refine q0b ?_
 refine VC.cond (by rfl) (by trivial) (fun hc => ?_) (fun hc => ?_)
 · have hlt : i < 15 := by simp at hc; omega
   obtain ⟨w, hx⟩ : ∃ w, q3s[i]? = some w := ⟨q3s[i]'(by omega), List.getElem?_eq_getElem (by omega)⟩
   have hLx : (L.map AV.c)[i]? = some (.c (.v (.string (str w)))) := by rw [hL, List.getElem?_map, List.getElem?_map, hx]; rfl
   have hw : IntKind.i64.wrap ((i : Int) + 1) = (i : Int) + 1 := q0f (by omega) (by omega)
   refine q0c (And.intro hLx (And.intro @q17 hE)) ?_
   refine VC.cond (by rfl) (by trivial) (fun hc2 => ?_) (fun hc2 => ?_)
   · have hh : w = s ∧ s ≠ [] := by simpa using hc2
     have hf : V = i := by
      rw [hV, q5u, if_neg hh.2]
      have : q3s.findIdx? (· == s) = some i := by
       rw [List.findIdx?_eq_some_iff_getElem]
       refine ⟨by omega, ?_, fun j hj => ?_⟩
       · have := (List.getElem?_eq_some_iff.1 hx).2
         simp [this, hh.1]
       · have := ht j _ hj (List.getElem?_eq_getElem (by omega)) hh.2
         simpa using this
      rw [this]
     subst hf
     refine q0b ?_
     refine retX Tryz.results130 ?_
     exact .c _
   · have hh : ¬ (w = s ∧ s ≠ []) := by simpa using hc2
     refine q0c (hw) ?_
     refine .next ⟨i + 1, by omega, ?_⟩ ?_ (by simp only []; omega)
     · intro j u hj hu hs
       by_cases hji : j < i
       · exact ht j u hji hu hs
       · obtain rfl : j = i := by omega
         rw [hx] at hu
         obtain rfl := Option.some.inj hu
         exact fun e => hh ⟨e, hs⟩
     refine q5b ?_
     exact cI (by omega)
 · have hie : i = 15 := by simp at hc; omega
   have hf : V = 0 := by
    rw [hV, q5u]
    split
    · rfl
    · rename_i hs
      have : q3s.findIdx? (· == s) = none := by
       rw [List.findIdx?_eq_none_iff]
       intro w hw
       obtain ⟨j, hj⟩ := List.getElem?_of_mem hw
       have := ht j w (by have := (List.getElem?_eq_some_iff.1 hj).1; omega) hj hs
       simpa using this
      rw [this]
   subst hf
   refine q0b ?_
   refine retX Tryz.results130 ?_
   exact .c _

theorem z5v (ks : List (List UInt8)) (key : List UInt8) : Told Tryz.prog 182 [.c (.sl 1 (ks.map sPV)), .c (.v (.string (str key)))] (.c (.v (.int .i64 (idxS key ks)))) := by
 refine VC.told ent_182 Tryz.func182 rfl Tryz.ntmps182 (by simp) rfl rfl fun hb => ?_
 simp only [q5n, q5x, pbd_v, List.mem_cons, List.not_mem_nil, or_false, forall_eq_or_imp, forall_eq, List.length_map, and_true] at hb
 have h1 := hb.1
 clear hb
 refine q0b ?_
 refine VC.loop (ι := {i : Nat // i ≤ ks.length ∧ ∀ j, j < i → ks[j]? ≠ some key}) (fun i => [(0, .c (.sl 1 (ks.map sPV))), (1, .c (.v (.string (str key)))), (7, .c (.v (.int .i64 ks.length))), (8, .c (.v (.int .i64 i.1)))]) (fun _ => []) 0 (fun i => ks.length - i.1) ⟨0, Nat.zero_le _, by intro j hj; omega⟩ ?_ ?_
 · simp only [Weak, eq_self, q0v, q0p, sc_c, q0r, q0s, q0t, q0o, q0q, ScL, q0u, List.forall_mem_map, go_sem, Int.reduceBEq, Int.reduceLE, Int.reduceLT, Int.reduceNeg, Nat.reduceAdd, Nat.reduceEqDiff, Nat.reduceLT, Nat.reduceLeDiff, Nat.reduceMul, Nat.reduceSub, reduceCtorEq, ↓reduceIte]
   all_goals rfl
 rintro ⟨i, hi, ht⟩
 refine q0b ?_
 refine VC.cond (by rfl) (by trivial) (fun hc => ?_) (fun hc => ?_)
 · simp only [decide_eq_true_eq] at hc
   obtain ⟨x, hx⟩ : ∃ x, ks[i]? = some x := ⟨ks[i], List.getElem?_eq_getElem (by omega)⟩
   have hw : IntKind.i64.wrap ((i : Int) + 1) = (i : Int) + 1 := q0f (by omega) (by omega)
   refine q0c (And.intro @q4t (And.intro hx (And.intro @q4c @q17))) ?_
   refine VC.cond (by rfl) (by trivial) (fun hc2 => ?_) (fun hc2 => ?_)
   · have hxy : key = x := by simpa using hc2
     subst hxy
     have hr := idxS_at hx ht
     refine q0b ?_
     refine ⟨.inr rfl, ?_⟩
     rw [Tryz.results182, hr]
     simp only [q1f, resV, go_sem, simprocAttr]
     exact .c _
   · have hxy : key ≠ x := by simpa using hc2
     refine q0c (hw) ?_
     refine .next ⟨i + 1, by omega, fun j hj => ?_⟩ ?_ (by simp only []; omega)
     · rcases Nat.lt_or_ge j i with h | h
       · exact ht j h
       · obtain rfl : j = i := by omega
         rw [hx]
         intro e
         exact hxy (Option.some.inj e).symm
     refine q5b ?_
     exact cI (by omega)
 · simp only [decide_eq_false_iff_not] at hc
   obtain rfl : i = ks.length := by omega
   have hr := idxS_none ht
   refine q0b ?_
   refine ⟨.inr rfl, ?_⟩
   rw [Tryz.results182, hr]
   simp only [q1f, resV, go_sem, simprocAttr]
   exact .c _

theorem j2g (k : Int) : Told Tryz.prog 70 [.c (.v (.int .i64 k))] (.c (.v (.bool (q1h k)))) := by
 obtain ⟨V, hV⟩ : ∃ V, V = q1h k := ⟨_, rfl⟩
 rw [← hV]
 unfold q1h at hV
 replace hV := Lib.hid hV
 refine VC.toldP ent_70 Tryz.func70 rfl Tryz.ntmps70 fun hb => ?_
 clear hb
 refine q0b ?_
 refine retX Tryz.results70 ?_
 rw [hV.out]
 exact .c _
theorem idxS_ge (key : List UInt8) (ks : List (List UInt8)) : decide (idxS key ks ≥ 0) = ks.contains key := by
 unfold idxS
 cases h : ks.findIdx? (fun k => decide (key = k)) with
 | none =>
   rw [List.findIdx?_eq_none_iff] at h
   have : key ∉ ks := fun hm => by simpa using h key hm
   simp [this]
 | some i =>
   rw [List.findIdx?_eq_some_iff_getElem] at h
   obtain ⟨hi, h1, _⟩ := h
   have : key ∈ ks := by
    have := List.getElem_mem hi
    simp at h1
    rwa [← h1] at this
   simp [this]
theorem j8j (ks : List (List UInt8)) (key : List UInt8) : Told Tryz.prog 133 [.c (.sl 1 (ks.map sPV)), .c (.v (.string (str key)))] (.c (.v (.bool (ks.contains key)))) := by
 have hI := z5v ks key
 have hG := idxS_ge key ks
 generalize idxS key ks = z at hI hG
 rw [← hG]
 clear hG
 refine VC.toldP ent_133 Tryz.func133 rfl Tryz.ntmps133 fun hb => ?_
 clear hb
 refine q0b ?_
 refine q0j (hI) ?_
 refine q0b ?_
 refine retX Tryz.results133 ?_
 exact .c _
def fnP (g : FuncId) : PV := .v (.func (.func g) ⟨[]⟩ ⟨[]⟩)
theorem z3d {rule : List UInt8 → Bool} {l : List (List UInt8)} {i : Nat} {x : List UInt8} (hx : l[i]? = some x) : q3k rule (l.take (i + 1)) = (q3k rule (l.take i) && (rule x && !(l.take i).contains x)) := by
 have ht : l.take (i + 1) = l.take i ++ [x] := by
  rw [List.take_add_one, hx]
  rfl
 rw [ht, Bool.eq_iff_iff]
 simp only [q3k, List.all_append, List.all_cons, List.all_nil, Bool.and_true, Bool.and_eq_true, decide_eq_true_eq, List.nodup_append, Bool.not_eq_true', List.contains_eq_mem, decide_eq_false_iff_not]
 constructor
 · rintro ⟨⟨h1, h2⟩, h3, _, h5⟩
   exact ⟨⟨h1, h3⟩, h2, fun h => h5 x h x (by simp) rfl⟩
 · rintro ⟨⟨h1, h3⟩, h2, h4⟩
   exact ⟨⟨h1, h2⟩, h3, by simp, fun a ha b hb => by
    obtain rfl := List.mem_singleton.1 hb
    rintro rfl
    exact h4 ha⟩
theorem j49 {g : FuncId} {rule : List UInt8 → Bool} (l : List (List UInt8)) (hl : l.length ≤ 1000000000) (hk : ∀ x ∈ l, Told Tryz.prog g [.c (.v (.string (str x)))] (.c (.v (.bool (rule x))))) :
  Told Tryz.prog 71 [.c (.sl 1 (l.map sPV)), .fn (.func g) [] []] (.c (.v (.bool (q3k rule l)))) := by
 obtain ⟨V, hV⟩ : ∃ V, V = q3k rule l := ⟨_, rfl⟩
 rw [← hV]
 refine VC.toldP ent_71 Tryz.func71 rfl Tryz.ntmps71 fun hb => ?_
 clear hb
 refine q0b ?_
 refine VC.loop (ι := {i : Nat // i ≤ l.length ∧ q3k rule (l.take i) = true}) (fun q => [(0, .c (.sl 1 (l.map sPV))), (1, .fn (.func g) [] []), (7, .c (.sl 1 (l.map sPV))), (8, .c (.v (.int .i64 (l.length : Int)))), (9, .c (.v (.int .i64 (q.1 : Int))))]) (fun _ => []) 800 (fun q => l.length - q.1) ⟨0, Nat.zero_le _, by simp [q3k]⟩ ?_ ?_
 · simp only [Weak, eq_self, q0v, q0p, sc_c, q0r, q0s, q0t, q0o, q0q, ScL, q0u, List.forall_mem_map, go_sem, Int.reduceBEq, Int.reduceLE, Int.reduceLT, Int.reduceNeg, Nat.reduceAdd, Nat.reduceEqDiff, Nat.reduceLT, Nat.reduceLeDiff, Nat.reduceMul, Nat.reduceSub, reduceCtorEq, ↓reduceIte]
   try simp
 rintro ⟨i, hi, ht⟩
 simp only []
 refine q0b ?_
 refine VC.cond (by rfl) (by trivial) (fun hc => ?_) (fun hc => ?_)
 · have hlt : i < l.length := by simp at hc; omega
   obtain ⟨x, hx⟩ : ∃ x, l[i]? = some x := ⟨l[i], List.getElem?_eq_getElem hlt⟩
   have hw : IntKind.i64.wrap ((i : Int) + 1) = (i : Int) + 1 := q0f (by omega) (by omega)
   have hxp : (l.map sPV)[i]? = some (sPV x) := by rw [List.getElem?_map, hx]; rfl
   have hT := hk x (List.mem_of_getElem? hx)
   have hC := j8j (l.take i) x
   have hn := z3d (rule := rule) hx
   rw [ht, Bool.true_and] at hn
   have hmt : (l.map sPV).take i = (l.take i).map sPV := by rw [List.map_take]
   refine q0c (And.intro hxp @q4c) ?_
   refine q0j (hT) ?_
   refine q0c (hmt) ?_
   refine q2m (hC) ?_
   refine q0b ?_
   refine VC.cond (by rfl) (by trivial) (fun hc2 => ?_) (fun hc2 => ?_)
   · have hf : V = false := by
      cases h : V with
      | false => rfl
      | true =>
        rw [hV] at h
        have hall : q3k rule (l.take (i + 1)) = true := by
         unfold q3k at h ⊢
         simp only [Bool.and_eq_true, List.all_eq_true, decide_eq_true_eq] at h ⊢
         exact ⟨fun y hy => h.1 y (List.mem_of_mem_take hy), h.2.sublist (List.take_sublist _ _)⟩
        rw [hn] at hall
        simp at hall hc2
        simp [hall] at hc2
     subst hf
     refine q0b ?_
     refine retX Tryz.results71 ?_
     exact .c _
   · refine q0c (hw) ?_
     refine .next ⟨i + 1, by omega, ?_⟩ ?_ (by simp only []; omega)
     · rw [hn]
       simpa using hc2
     simp only [Weak, eq_self, q0v, q0p, sc_c, q0r, q0s, q0t, q0o, q0q, ScL, q0u, List.forall_mem_map, go_sem, Int.reduceBEq, Int.reduceLE, Int.reduceLT, Int.reduceNeg, Nat.reduceAdd, Nat.reduceEqDiff, Nat.reduceLT, Nat.reduceLeDiff, Nat.reduceMul, Nat.reduceSub, reduceCtorEq, ↓reduceIte]
     try exact cI (by omega)
 · have hie : i = l.length := by simp at hc; omega
   have hf : V = true := by
    rw [hie, List.take_length] at ht
    rw [hV, ht]
   subst hf
   refine q0b ?_
   refine retX Tryz.results71 ?_
   exact .c _

def q3f : Nat → List (List UInt8) → Option Nat
 | n, [] => some n
 | n, y :: ys => if n ≤ 2500 then (if 2500 < y.length then none else q3f (n + 1 + y.length) ys) else some n
mutual
def q3o (d : Nat) : JT → Nat
 | .mk k n s ks xs => if 60 < d ∨ 2500 < s.length ∨ 2500 < ks.length ∨ 2500 < xs.length then 2501 else match q3f (1 + s.length) ks with | none => 2501 | some n => q3q d n xs
def q3q (d : Nat) : Nat → List JT → Nat
 | n, [] => n
 | n, x :: xs => if n ≤ 2500 then q3q d (n + q3o (d + 1) x) xs else n
end
theorem j4x : ∀ (ys : List (List UInt8)) (n m : Nat), n ≤ 5001 → q3f n ys = some m → m ≤ 5001
 | [], n, m, h, e => by simp [q3f] at e; omega
 | y :: ys, n, m, h, e => by
   rw [q3f] at e
   split at e
   · split at e
     · simp at e
     · exact j4x ys _ m (by omega) e
   · simp at e; omega
mutual
theorem j4i (d : Nat) : ∀ (t : JT), q3o d t ≤ 5001 + 2501 * (61 - d)
 | .mk k n s ks xs => by
   rw [q3o]
   split
   · omega
   · rename_i h
     split
     · omega
     · rename_i m hm
       exact j2y d xs m (by have := j4x ks _ _ (by omega) hm; omega)
theorem j2y (d : Nat) : ∀ (xs : List JT) (n : Nat), n ≤ 5001 + 2501 * (61 - d) → q3q d n xs ≤ 5001 + 2501 * (61 - d)
 | [], n, h => by rw [q3q]; exact h
 | x :: xs, n, h => by
   rw [q3q]
   split
   · have := j4i (d + 1) x
     by_cases hd : 60 < d
     · have h2 : q3o (d + 1) x = 2501 := by
        cases x
        rw [q3o, if_pos (by omega)]
       exact j2y d xs _ (by omega)
     · exact j2y d xs _ (by omega)
   · exact h
end
theorem j2x (d : Nat) : ∀ (xs : List JT) (n : Nat), n ≤ q3q d n xs
 | [], n => by rw [q3q]; exact Nat.le_refl _
 | x :: xs, n => by
   rw [q3q]
   split
   · exact Nat.le_trans (Nat.le_add_right _ _) (j2x d xs _)
   · exact Nat.le_refl _
mutual
theorem z01 (d : Nat) : ∀ (t : JT), q3o d t ≤ 2500 → q2b t + d ≤ 61
 | .mk k n s ks xs => fun h => by
   rw [q3o] at h
   split at h
   · omega
   · rename_i hd
     split at h
     · omega
     · rw [q2b]
       split
       · exact j70 d xs _ 1 (by omega) h
       · omega
theorem j70 (d : Nat) : ∀ (xs : List JT) (n m : Nat), m + d ≤ 61 → q3q d n xs ≤ 2500 → q3i m xs + d ≤ 61
 | [], n, m, hm, h => by rw [q3i]; exact hm
 | x :: xs, n, m, hm, h => by
   rw [q3q] at h
   split at h
   · have h1 := j2x d xs (n + q3o (d + 1) x)
     have h2 := z01 (d + 1) x (by omega)
     rw [q3i]
     exact j70 d xs _ _ (by omega) h
   · omega
end
theorem z2v {ks : List (List UInt8)} {i n : Nat} {y : List UInt8} (hy : ks[i]? = some y) (hn : n ≤ 2500) (hl : y.length ≤ 2500) : q3f n (ks.drop i) = q3f (n + 1 + y.length) (ks.drop (i + 1)) := by
 obtain ⟨hlt, rfl⟩ := List.getElem?_eq_some_iff.1 hy
 rw [List.drop_eq_getElem_cons hlt, q3f, if_pos hn, if_neg (by omega)]
theorem z2u {ks : List (List UInt8)} {i n : Nat} {y : List UInt8} (hy : ks[i]? = some y) (hn : n ≤ 2500) (hl : 2500 < y.length) : q3f n (ks.drop i) = none := by
 obtain ⟨hlt, rfl⟩ := List.getElem?_eq_some_iff.1 hy
 rw [List.drop_eq_getElem_cons hlt, q3f, if_pos hn, if_pos hl]
theorem z2t {ks : List (List UInt8)} {i n : Nat} (h : ¬ (i < ks.length ∧ n ≤ 2500)) : q3f n (ks.drop i) = some n := by
 by_cases hlt : i < ks.length
 · rw [List.drop_eq_getElem_cons hlt, q3f, if_neg (by omega)]
 · rw [List.drop_of_length_le (by omega), q3f]
theorem z2s {d : Nat} {xs : List JT} {i n : Nat} {x : JT} (hx : xs[i]? = some x) (hn : n ≤ 2500) : q3q d n (xs.drop i) = q3q d (n + q3o (d + 1) x) (xs.drop (i + 1)) := by
 obtain ⟨hlt, rfl⟩ := List.getElem?_eq_some_iff.1 hx
 rw [List.drop_eq_getElem_cons hlt, q3q, if_pos hn]
theorem z2r {d : Nat} {xs : List JT} {i n : Nat} (h : ¬ (i < xs.length ∧ n ≤ 2500)) : q3q d n (xs.drop i) = n := by
 by_cases hlt : i < xs.length
 · rw [List.drop_eq_getElem_cons hlt, q3q, if_neg (by omega)]
 · rw [List.drop_of_length_le (by omega), q3q]
theorem z2w : ∀ (m : Nat) (t : JT), SizeOf.sizeOf t ≤ m → ∀ (d : Nat) (z : Int), d ≤ 61 → z = (d : Int) → Told Tryz.prog 66 [t.av, .c (.v (.int .i64 2500)), .c (.v (.int .i64 z))] (.c (.v (.int .i64 (q3o d t)))) := by
 intro m
 induction m with
 | zero => intro t ht; cases t; simp at ht
 | succ m ih =>
 intro t ht d z hd hz
 cases t with
 | mk k n s ks xs =>
 have hbl := j4i d (.mk k n s ks xs)
 have hbi := j2y d xs
 refine VC.told ent_66 Tryz.func66 rfl Tryz.ntmps66 (by simp) rfl rfl fun hb => ?_
 simp only [JT.av, q0n, List.map_cons, List.map_nil, j2t, q5n, pbd_v, q5x, List.mem_cons, List.not_mem_nil, or_false, forall_eq_or_imp, forall_eq, true_and, List.length_map] at hb ⊢
 clear hb
 have hw21 : IntKind.i64.wrap (2500 + 1) = 2501 := by rfl
 rw [q3o] at hbl ⊢
 refine q0c (@q2a) ?_
 refine VC.cond (by rfl) (by trivial) (fun hc => ?_) (fun hc => ?_)
 · have hcc : 60 < d ∨ 2500 < s.length ∨ 2500 < ks.length ∨ 2500 < xs.length := by
    simp at hc
    omega
   rw [if_pos hcc]
   refine q0c (hw21) ?_
   refine ⟨.inr rfl, ?_⟩
   rw [Tryz.results66]
   simp only [q1f, resV, go_sem, simprocAttr]
   exact .c _
 · have hcc : ¬ (60 < d ∨ 2500 < s.length ∨ 2500 < ks.length ∨ 2500 < xs.length) := by
    simp at hc
    omega
   rw [if_neg hcc] at hbl ⊢
   clear hc
   obtain ⟨V, hV⟩ : ∃ V, V = q3f (1 + s.length) ks := ⟨_, rfl⟩
   rw [← hV] at hbl ⊢
   have hw1 : IntKind.i64.wrap (1 + (s.length : Int)) = 1 + (s.length : Int) := q0f (by omega) (by omega)
   refine q0c (And.intro @q0n (And.intro @q2a hw1)) ?_
   refine VC.loop (ι := {p : Nat × Nat // p.1 ≤ ks.length ∧ p.2 ≤ 5001 ∧ q3f p.2 (ks.drop p.1) = V}) (fun p => [(1, .c (.v (.int .i64 2500))), (2, .c (.v (.int .i64 z))), (3, .ref 0 1 0 0), (7, .c (.v (.int .i64 p.1.2))), (8, .c (.v (.int .i64 p.1.1)))])
    (fun _ => [(0, ⟨false, 36, 5, [(JT.mk k n s ks xs).cells.map .c]⟩)]) 8 (fun p => ks.length - p.1.1) ⟨(0, 1 + s.length), Nat.zero_le _, by simp only []; omega, by simpa using hV.symm⟩ ?_ ?_
   · simp only [q0n, Weak, eq_self, q0v, q0p, sc_c, q0r, q0s, q0t, q0o, q0q, ScL, q0u, List.forall_mem_map, go_sem, Int.reduceBEq, Int.reduceLE, Int.reduceLT, Int.reduceNeg, Nat.reduceAdd, Nat.reduceEqDiff, Nat.reduceLT, Nat.reduceLeDiff, Nat.reduceMul, Nat.reduceSub, reduceCtorEq, ↓reduceIte]
     all_goals first | rfl | exact cI (by omega)
   rintro ⟨⟨i, b⟩, hi, hb, hbk⟩
   simp only [] at hi hb hbk ⊢
   refine q0c (@q0n) ?_
   refine VC.cond (by rfl) (by trivial) (fun hc => ?_) (fun hc => ?_)
   · have hcc : i < ks.length ∧ b ≤ 2500 := by
      simp at hc
      omega
     clear hc
     obtain ⟨y, hy⟩ : ∃ y, ks[i]? = some y := ⟨ks[i], List.getElem?_eq_getElem hcc.1⟩
     refine q0c (And.intro @q0n (And.intro @q4t (And.intro hy (And.intro @q4c @q2a)))) ?_
     refine VC.cond (by rfl) (by trivial) (fun hc => ?_) (fun hc => ?_)
     · have hl : 2500 < y.length := by
        simp at hc
        omega
       obtain rfl : V = none := hbk.symm.trans (z2u hy hcc.2 hl)
       refine q0c (hw21) ?_
       refine ⟨.inr rfl, ?_⟩
       rw [Tryz.results66]
       simp only [q1f, resV, go_sem, simprocAttr]
       exact .c _
     · have hl : y.length ≤ 2500 := by
        simp at hc
        omega
       have hw2 : IntKind.i64.wrap ((b : Int) + 1) = (b : Int) + 1 := q0f (by omega) (by omega)
       have hw3 : IntKind.i64.wrap ((b : Int) + 1 + (y.length : Int)) = (b : Int) + 1 + (y.length : Int) := q0f (by omega) (by omega)
       have hw4 : IntKind.i64.wrap ((i : Int) + 1) = (i : Int) + 1 := q0f (by omega) (by omega)
       refine q0c (And.intro @q0n (And.intro @q4t (And.intro hy (And.intro @q4c (And.intro @q2a (And.intro hw2 (And.intro hw3 hw4))))))) ?_
       refine .next ⟨(i + 1, b + 1 + y.length), by simp only []; omega, by simp only []; omega, by simp only []; rw [← hbk, z2v hy hcc.2 hl]⟩ ?_ (by simp only []; omega)
       refine q1j (@q0n) ?_
       exact ⟨cI (by omega), cI (by omega)⟩
   · have hcc : ¬ (i < ks.length ∧ b ≤ 2500) := by
      simp at hc
      omega
     clear hc
     obtain rfl : V = some b := hbk.symm.trans (z2t hcc)
     simp only [] at hbl ⊢
     obtain ⟨V, hV2⟩ : ∃ V, V = q3q d b xs := ⟨_, rfl⟩
     rw [← hV2] at hbl ⊢
     refine q0b ?_
     refine VC.loop (ι := {p : Nat × Nat // p.1 ≤ xs.length ∧ p.2 ≤ 5001 + 2501 * (61 - d) ∧ q3q d p.2 (xs.drop p.1) = V}) (fun p => [(1, .c (.v (.int .i64 2500))), (2, .c (.v (.int .i64 z))), (3, .ref 0 1 0 0), (7, .c (.v (.int .i64 p.1.2))), (9, .c (.v (.int .i64 p.1.1)))])
      (fun _ => [(0, ⟨false, 36, 5, [(JT.mk k n s ks xs).cells.map .c]⟩)]) 8 (fun p => xs.length - p.1.1) ⟨(0, b), Nat.zero_le _, by simp only []; omega, by simpa using hV2.symm⟩ ?_ ?_
     · simp only [q0n, Weak, eq_self, q0v, q0p, sc_c, q0r, q0s, q0t, q0o, q0q, ScL, q0u, List.forall_mem_map, go_sem, Int.reduceBEq, Int.reduceLE, Int.reduceLT, Int.reduceNeg, Nat.reduceAdd, Nat.reduceEqDiff, Nat.reduceLT, Nat.reduceLeDiff, Nat.reduceMul, Nat.reduceSub, reduceCtorEq, ↓reduceIte]
       all_goals rfl
     clear hi hcc hbk
     rintro ⟨⟨i, c⟩, hi, hcb, hbt⟩
     simp only [] at hi hcb hbt ⊢
     refine q0c (@q0n) ?_
     refine VC.cond (by rfl) (by trivial) (fun hc => ?_) (fun hc => ?_)
     · have hcc : i < xs.length ∧ c ≤ 2500 := by
        simp at hc
        omega
       clear hc
       obtain ⟨x, hx⟩ : ∃ x, xs[i]? = some x := ⟨xs[i], List.getElem?_eq_getElem hcc.1⟩
       have hxm := List.mem_of_getElem? hx
       have hsz : SizeOf.sizeOf x ≤ m := by
        have h1 := List.sizeOf_lt_of_mem hxm
        simp at ht
        omega
       have hcall := ih x hsz (d + 1) (z + 1) (by omega) (by omega)
       have hxb := j4i (d + 1) x
       have hw1 : IntKind.i64.wrap (z + 1) = z + 1 := q0f (by omega) (by omega)
       have hw2 : IntKind.i64.wrap ((c : Int) + (q3o (d + 1) x : Int)) = (c : Int) + (q3o (d + 1) x : Int) := q0f (by omega) (by omega)
       have hw4 : IntKind.i64.wrap ((i : Int) + 1) = (i : Int) + 1 := q0f (by omega) (by omega)
       refine q0c (And.intro @q0n (And.intro @q4t (And.intro hx (And.intro @q1z (And.intro @q18 (And.intro @q19 hw1)))))) ?_
       (refine AO.step fun K hK => ?_; simp only [go_sem, Int.reduceBEq, Int.reduceLE, Int.reduceLT, Int.reduceNeg, Nat.reduceAdd, Nat.reduceEqDiff, Nat.reduceLT, Nat.reduceLeDiff, Nat.reduceMul, Nat.reduceSub, reduceCtorEq, ↓reduceIte, q02]; (first | refine q1k ?_ | skip))
       refine .inl ⟨_, hcall, hK _ _ _ ?_⟩
       clear hK K
       refine q0c (And.intro hw2 hw4) ?_
       refine .next ⟨(i + 1, c + q3o (d + 1) x), by simp only []; omega, by simp only []; omega, by simp only []; rw [← hbt, z2s hx hcc.2]⟩ ?_ (by simp only []; omega)
       refine q1j (@q0n) ?_
       exact ⟨cI (by omega), cI (by omega)⟩
     · have hcc : ¬ (i < xs.length ∧ c ≤ 2500) := by
        simp at hc
        omega
       obtain rfl : V = c := hbt.symm.trans (z2r hcc)
       refine q0b ?_
       refine ⟨.inr rfl, ?_⟩
       rw [Tryz.results66]
       simp only [q1f, resV, go_sem, simprocAttr]
       exact .c _
/-! A tree that is not great is small. -/
theorem j2z : ∀ (ys : List (List UInt8)) (n m : Nat), q3f n ys = some m → m ≤ 2500 → n + ys.length ≤ m ∧ ∀ y ∈ ys, y.length ≤ 2500
 | [], n, m, h, hm => by rw [q3f] at h; obtain rfl := Option.some.inj h; exact ⟨by simp, by simp⟩
 | y :: ys, n, m, h, hm => by
   rw [q3f] at h
   split at h
   · split at h
     · simp at h
     · obtain ⟨h1, h2⟩ := j2z ys _ m h hm
       refine ⟨by simp; omega, fun z hz => ?_⟩
       rcases List.mem_cons.1 hz with rfl | hz
       · omega
       · exact h2 z hz
   · obtain rfl := Option.some.inj h
     omega
mutual
theorem j79 (d : Nat) : ∀ t : JT, q3o d t ≤ 2500 → t.sm 2500
 | .mk k n s ks xs => fun h => by
   rw [q3o] at h
   split at h
   · omega
   · rename_i h1
     split at h
     · omega
     · rename_i m hm
       have h2 := j2x d xs m
       obtain ⟨_, h3⟩ := j2z ks _ m hm (by omega)
       exact ⟨by omega, by omega, h3, by omega, j71 d m xs h⟩
theorem j71 (d n : Nat) : ∀ xs : List JT, q3q d n xs ≤ 2500 → JT.smL 2500 xs
 | [] => fun _ => trivial
 | x :: xs => fun h => by
   rw [q3q] at h
   split at h
   · have := j2x d xs (n + q3o (d + 1) x)
     exact ⟨j79 (d + 1) x (by omega), j71 d _ xs h⟩
   · omega
end

def q49 : Nat → List (List UInt8) → Nat
 | n, [] => n
 | n, y :: ys => if n ≤ 2500 then (if 2500 < y.length then 2501 else q49 (n + y.length) ys) else n
def q4m (l : List (List UInt8)) : Nat := if 2500 < l.length then 2501 else q49 l.length l
def q3r : Nat → List FT → Option Nat
 | n, [] => some n
 | n, f :: fs => if n ≤ 2500 then (if 2500 < f.name.length then none else q3r (n + f.name.length + q4m f.aliases + q3o 0 f.dflt) fs) else some n
def q46 : Nat → List NT → Nat
 | n, [] => n
 | n, x :: xs => if n ≤ 2500 then (if 2500 < x.name.length ∨ 2500 < x.fields.length ∨ 2500 < x.branches.length ∨ 2500 < x.dflt.length then 2501 else
   match q3r (n + x.name.length + x.fields.length + x.branches.length + x.dflt.length + q4m x.aliases + q4m x.symbols) x.fields with | none => 2501 | some m => q46 m xs) else n
def q6d (s : ST) : Nat := if 2500 < s.nodes.length then 2501 else q46 s.nodes.length s.nodes
def FT.sm (N : Nat) (f : FT) : Prop := f.name.length ≤ N ∧ f.aliases.length ≤ N ∧ (∀ y ∈ f.aliases, y.length ≤ N) ∧ f.dflt.sm N
def NT.sm (N : Nat) (n : NT) : Prop := n.name.length ≤ N ∧ n.dflt.length ≤ N ∧ (n.aliases.length ≤ N ∧ ∀ y ∈ n.aliases, y.length ≤ N) ∧ (n.symbols.length ≤ N ∧ ∀ y ∈ n.symbols, y.length ≤ N) ∧ n.branches.length ≤ N ∧ (n.fields.length ≤ N ∧ ∀ f ∈ n.fields, f.sm N)
def ST.sm (N : Nat) (s : ST) : Prop := s.nodes.length ≤ N ∧ ∀ n ∈ s.nodes, n.sm N
theorem z07 : ∀ (l : List (List UInt8)) (n : Nat), n ≤ 5000 → q49 n l ≤ 5000
 | [], n, h => h
 | y :: ys, n, h => by
   rw [q49]
   split
   · split
     · omega
     · exact z07 ys _ (by omega)
   · exact h
theorem z06 : ∀ (l : List (List UInt8)) (n : Nat), n ≤ 2500 ∨ True → q49 n l ≤ 2500 → n ≤ q49 n l ∧ ∀ y ∈ l, y.length ≤ 2500
 | [], n, _, _ => ⟨Nat.le_refl _, by simp⟩
 | y :: ys, n, _, h => by
   rw [q49] at h ⊢
   split at h
   · rename_i h1
     rw [if_pos h1]
     split at h
     · omega
     · rename_i h2
       rw [if_neg h2]
       obtain ⟨h3, h4⟩ := z06 ys _ (.inr trivial) h
       refine ⟨by omega, fun z hz => ?_⟩
       rcases List.mem_cons.1 hz with rfl | hz
       · omega
       · exact h4 z hz
   · omega
theorem j4j (l : List (List UInt8)) : q4m l ≤ 5000 := by
 unfold q4m
 split
 · omega
 · exact z07 l _ (by omega)
theorem j6y {l : List (List UInt8)} (h : q4m l ≤ 2500) : l.length ≤ 2500 ∧ ∀ y ∈ l, y.length ≤ 2500 := by
 unfold q4m at h
 split at h
 · omega
 · rename_i h1
   exact ⟨by omega, (z06 l _ (.inr trivial) h).2⟩
theorem z02 (t : JT) : q3o 0 t ≤ 200000 := by
 have := j4i 0 t
 omega
theorem j8x : ∀ (l : List FT) (n m : Nat), n ≤ 300000 → q3r n l = some m → m ≤ 300000
 | [], n, m, h, e => by rw [q3r] at e; obtain rfl := Option.some.inj e; exact h
 | f :: fs, n, m, h, e => by
   rw [q3r] at e
   have h1 := j4j f.aliases
   have h2 := z02 f.dflt
   split at e
   · split at e
     · simp at e
     · exact j8x fs _ m (by omega) e
   · obtain rfl := Option.some.inj e; exact h
theorem j3o : ∀ (l : List FT) (n m : Nat), q3r n l = some m → m ≤ 2500 → n ≤ m ∧ ∀ f ∈ l, f.sm 2500
 | [], n, m, e, h => by rw [q3r] at e; obtain rfl := Option.some.inj e; exact ⟨Nat.le_refl _, by simp⟩
 | f :: fs, n, m, e, h => by
   rw [q3r] at e
   split at e
   · split at e
     · simp at e
     · rename_i h1 h2
       obtain ⟨h3, h4⟩ := j3o fs _ m e h
       refine ⟨by omega, fun g hg => ?_⟩
       rcases List.mem_cons.1 hg with rfl | hg
       · obtain ⟨h5, h6⟩ := j6y (l := g.aliases) (by omega)
         exact ⟨by omega, h5, h6, j79 0 _ (by omega)⟩
       · exact h4 g hg
   · obtain rfl := Option.some.inj e
     omega
theorem j6c : ∀ (l : List NT) (n : Nat), q46 n l ≤ 2500 → n ≤ q46 n l ∧ ∀ x ∈ l, x.sm 2500
 | [], n, h => ⟨Nat.le_refl _, by simp⟩
 | x :: xs, n, h => by
   rw [q46] at h ⊢
   split at h
   · rename_i h1
     rw [if_pos h1]
     split at h
     · omega
     · rename_i h2
       rw [if_neg h2]
       split at h
       · omega
       · rename_i m hm
         obtain ⟨h3, h4⟩ := j6c xs m h
         obtain ⟨h5, h6⟩ := j3o _ _ m hm (by omega)
         refine ⟨by omega, fun y hy => ?_⟩
         rcases List.mem_cons.1 hy with rfl | hy
         · exact ⟨by omega, by omega, j6y (by omega), j6y (by omega), by omega, by omega, h6⟩
         · exact h4 y hy
   · omega
theorem sbulk_sm {s : ST} (h : q6d s ≤ 2500) : s.sm 2500 := by
 unfold q6d at h
 split at h
 · omega
 · exact ⟨by omega, (j6c _ _ h).2⟩

theorem tyFn : tyA Tryz.prog 115 = some ⟨false, 1, 8, [.nilFunc], 0, [], 0, []⟩ := by kernel_rfl
theorem all1_told {g : FuncId} {x : List UInt8} {b : Bool} (h : Told Tryz.prog g [.c (.v (.string (str x)))] (.c (.v (.bool b)))) : Told Tryz.prog 181 [.c (.v (.string (str x))), .pp [fnP g]] (.c (.v (.bool (!b)))) := by
 unfold fnP
 refine VC.toldP ent_181 Tryz.func181 rfl Tryz.ntmps181 fun hb => ?_
 clear hb
 refine q0c (@tyFn) ?_
 (refine AO.step fun K hK => ?_; simp only [go_sem, Int.reduceBEq, Int.reduceLE, Int.reduceLT, Int.reduceNeg, Nat.reduceAdd, Nat.reduceEqDiff, Nat.reduceLT, Nat.reduceLeDiff, Nat.reduceMul, Nat.reduceSub, reduceCtorEq, ↓reduceIte, tyFn]; (first | refine q1k ?_ | skip))
 refine ⟨_, h, hK _ _ _ ?_⟩
 clear hK K
 refine q0b ?_
 refine retX Tryz.results181 ?_
 exact .c _
theorem j7l {g : FuncId} {rule : List UInt8 → Bool} (l : List (List UInt8)) (hk : ∀ x ∈ l, Told Tryz.prog g [.c (.v (.string (str x)))] (.c (.v (.bool (rule x))))) :
  Told Tryz.prog 131 [.c (.sl 1 (l.map sPV)), .fn (.func g) [] []] (.c (.v (.bool (allM rule l)))) := by
 obtain ⟨V, hV⟩ : ∃ V, V = allM rule l := ⟨_, rfl⟩
 rw [← hV]
 have hF := j44 (g := 181) (fs := []) (cs := [.pp [fnP g]]) rfl rfl l (fun x => !rule x) fun x hx => all1_told (hk x hx)
 have hv : V = (decide ((l.length : Int) ≤ 40) && !(l.any fun x => !rule x)) := by
  rw [hV, allM]
  congr 1
  · simp
    omega
  · rw [Bool.eq_iff_iff]
    simp
 clear hV
 replace hv := Lib.hid hv
 refine VC.toldP ent_131 Tryz.func131 rfl Tryz.ntmps131 fun hb => ?_
 clear hb
 refine VC.frz [] [(0, .c (.sl 1 (l.map sPV))), (1, .c (fnP g))] [] 0 ?_ ?_
 · refine wkfX ?_
   exact ⟨.same _, .fnV⟩
 refine j0r ?_
 refine VC.frz [0] [(0, .c (.sl 1 (l.map sPV))), (3, .pp [fnP g])] [] 400 ?_ ?_
 · refine wkfX ?_
   exact ⟨.same _, .ref (es := [fnP g]) (by simp) rfl rfl rfl rfl⟩
 refine q0b ?_
 refine q2m (hF) ?_
 refine q0b ?_
 refine retX Tryz.results131 ?_
 rw [hv.out]
 exact .c _
theorem kids_told (n : NT) (hn : n.sm 1000000) : Told Tryz.prog 36 [n.av] (.c (.sl 1 ((q1e n).map iPV))) := by
 obtain ⟨L, hL⟩ : ∃ L, L = q1e n := ⟨_, rfl⟩
 rw [← hL]
 unfold q1e at hL
 have hfl := hn.2.2.2.2.2.1
 have hbl := hn.2.2.2.2.1
 rw [NT.av_eq, q0d]
 refine VC.toldP ent_36 Tryz.func36 rfl Tryz.ntmps36 fun hb => ?_
 clear hb
 by_cases h9 : n.kind = 9
 · rw [if_pos h9] at hL
   subst hL
   rw [h9]
   refine q0m ?_
   refine VC.nil 3 3 1 (by rfl) (by trivial) (by rfl) ?_
   refine VC.loop (ι := {i : Nat // i ≤ n.fields.length}) (fun q => [(3, .row 88 q.1), (11, .c (.sl 9 (n.fields.map FT.cells))), (12, .c (.v (.int .i64 (n.fields.length : Int)))), (13, .c (.v (.int .i64 (q.1 : Int))))])
    (fun q => [(88, ⟨true, 3, 1, rA iPV ((n.fields.map (·.type)).take q.1)⟩)]) 800 (fun q => n.fields.length - q.1) ⟨0, Nat.zero_le _⟩ ?_ ?_
   · simp only [q0x, q1l, q7a, Weak, eq_self, q0v, q0p, sc_c, q0r, q0s, q0t, q0o, q0q, ScL, q0u, List.forall_mem_map, go_sem, Int.reduceBEq, Int.reduceLE, Int.reduceLT, Int.reduceNeg, Nat.reduceAdd, Nat.reduceEqDiff, Nat.reduceLT, Nat.reduceLeDiff, Nat.reduceMul, Nat.reduceSub, reduceCtorEq, ↓reduceIte]
     try simp
   rintro ⟨i, hi⟩
   simp only []
   refine q0b ?_
   refine VC.cond (by rfl) (by trivial) (fun hc => ?_) (fun hc => ?_)
   · have hlt : i < n.fields.length := by simp at hc; omega
     obtain ⟨f, hx⟩ : ∃ f, n.fields[i]? = some f := ⟨n.fields[i], List.getElem?_eq_getElem hlt⟩
     have hw : IntKind.i64.wrap ((i : Int) + 1) = (i : Int) + 1 := q0f (by omega) (by omega)
     have hxp : (n.fields.map FT.cells)[i]? = some f.cells := by rw [List.getElem?_map, hx]; rfl
     have hl : (rA iPV ((n.fields.map (·.type)).take i)).length = i := by rw [q0x]; simp; omega
     have hr : rA iPV ((n.fields.map (·.type)).take i) ++ [[.c (.v (.int .i64 f.type))]] = rA iPV ((n.fields.map (·.type)).take (i + 1)) := by
      rw [List.take_add_one, List.getElem?_map, hx]
      exact q7b iPV _ f.type
     have hl2 : (rA iPV ((n.fields.map (·.type)).take (i + 1))).length = i + 1 := by rw [q0x]; simp; omega
     refine q0c (And.intro hxp (And.intro @q3h (And.intro @q1z (And.intro @q18 (And.intro @q19 (And.intro hl (And.intro hr hw))))))) ?_
     refine .next ⟨i + 1, by omega⟩ ?_ (by simp only []; omega)
     refine q1j (And.intro hl2 @q1l) ?_
     exact ⟨cI (by omega), Nat.le_refl _⟩
   · have hie : i = n.fields.length := by simp at hc; omega
     have htk : (n.fields.map (·.type)).take i = n.fields.map (·.type) := List.take_of_length_le (by simp; omega)
     rw [htk]
     refine q0c (hie) ?_
     refine retX Tryz.results36 ?_
     apply q37 (f := iPV) (l := n.fields.map (·.type)) (T := 3)
     · rfl
     · simp [hie]
     · rfl
     · simp [iPV]
 by_cases h11 : n.kind = 11
 · rw [if_neg h9, if_pos (.inl h11)] at hL
   subst hL
   rw [h11]
   refine q0m ?_
   refine retX Tryz.results36 ?_
   exact q37 (f := iPV) (l := [n.items]) rfl rfl rfl (by simp [iPV])
 by_cases h12 : n.kind = 12
 · rw [if_neg h9, if_pos (.inr h12)] at hL
   subst hL
   rw [h12]
   refine q0m ?_
   refine retX Tryz.results36 ?_
   exact q37 (f := iPV) (l := [n.items]) rfl rfl rfl (by simp [iPV])
 by_cases h13 : n.kind = 13
 · rw [if_neg h9, if_neg (by simp [h11, h12]), if_pos h13] at hL
   subst hL
   rw [h13]
   refine q0m ?_
   refine retX Tryz.results36 ?_
   refine q37 (f := iPV) (l := n.branches) (T := 3) ?_ ?_ rfl (by simp [iPV])
   · simp [q6y, q5j]
   · simp
 · rw [if_neg h9, if_neg (by simp [h11, h12]), if_neg h13] at hL
   subst hL
   have e9 : (n.kind == 9) = false := by simpa using h9
   have e11 : (n.kind == 11) = false := by simpa using h11
   have e12 : (n.kind == 12) = false := by simpa using h12
   have e13 : (n.kind == 13) = false := by simpa using h13
   refine q0a (And.intro e9 (And.intro e11 (And.intro e12 e13))) ?_
   refine retX Tryz.results36 ?_
   exact .nil _

theorem bareM_eq (n : NT) : q64 n = (!(if q1h n.kind = true then false else (!(n.name == []) || decide ((n.aliases.length : Int) > 0))) && (!(if n.kind == 9 then false else decide ((n.fields.length : Int) > 0)) &&
  (!(if n.kind == 10 then false else (decide ((n.symbols.length : Int) > 0) || n.has || !(n.dflt == []))) && (!(if n.kind == 14 then false else n.size != 0) && (!(if (n.kind == 11) = true ∨ (n.kind == 12) = true then false else n.items != 0) && !(if n.kind == 13 then false else decide ((n.branches.length : Int) > 0))))))) := by
 have e0 : ∀ l : List UInt8, l.isEmpty = (l == []) := fun l => by cases l <;> rfl
 have e1 : ∀ {α : Type} (l : List α), l.isEmpty = !decide ((l.length : Int) > 0) := fun l => by
  cases l with
  | nil => rfl
  | cons x l => simp
 unfold q64
 rw [e0 n.name, e0 n.dflt, e1 n.aliases, e1 n.fields, e1 n.symbols, e1 n.branches]
 cases q1h n.kind <;> cases (n.kind == 9) <;> cases (n.kind == 10) <;> cases (n.kind == 14) <;> cases (n.kind == 11) <;> cases (n.kind == 12) <;> cases (n.kind == 13) <;> simp [bne, Bool.and_assoc]
theorem bare_told (n : NT) : Told Tryz.prog 129 [n.av] (.c (.v (.bool (q64 n)))) := by
 obtain ⟨V, hV⟩ : ∃ V, V = q64 n := ⟨_, rfl⟩
 rw [← hV]
 rw [bareM_eq] at hV
 have hN := j2g n.kind
 have hE : (⟨#[]⟩ : ByteArray).toList = [] := q17 []
 rw [NT.av_eq, q0d]
 refine VC.toldP ent_129 Tryz.func129 rfl Tryz.ntmps129 fun hb => ?_
 clear hb
 refine q0c (And.intro @q17 hE) ?_
 obtain ⟨p1, hp1⟩ : ∃ p : Bool, p = (!(n.name == []) || decide ((n.aliases.length : Int) > 0)) := ⟨_, rfl⟩
 obtain ⟨p2, hp2⟩ : ∃ p : Bool, p = decide ((n.fields.length : Int) > 0) := ⟨_, rfl⟩
 obtain ⟨p3, hp3⟩ : ∃ p : Bool, p = (decide ((n.symbols.length : Int) > 0) || n.has || !(n.dflt == [])) := ⟨_, rfl⟩
 obtain ⟨p4, hp4⟩ : ∃ p : Bool, p = (n.size != 0) := ⟨_, rfl⟩
 obtain ⟨p5, hp5⟩ : ∃ p : Bool, p = (n.items != 0) := ⟨_, rfl⟩
 obtain ⟨p6, hp6⟩ : ∃ p : Bool, p = decide ((n.branches.length : Int) > 0) := ⟨_, rfl⟩
 rw [← hp1, ← hp2, ← hp3, ← hp4, ← hp5, ← hp6] at hV ⊢
 clear hp1 hp2 hp3 hp4 hp5 hp6
 refine q0j (hN) ?_
 by_cases h9 : n.kind = 9
 · rw [h9] at hV ⊢
   have hv : V = (!p3 && !p4 && !p5 && !p6) := by rw [hV]; simp [q1h, Bool.and_assoc]
   clear hV
   have hn : q1h 9 = true := rfl
   refine q0a (hn) ?_
   refine retX Tryz.results129 ?_
   refine q1p ?_
   rw [hv]
   try simp [Bool.and_assoc]
 by_cases h10 : n.kind = 10
 · rw [h10] at hV ⊢
   have hv : V = (!p2 && !p4 && !p5 && !p6) := by rw [hV]; simp [q1h, Bool.and_assoc]
   clear hV
   have hn : q1h 10 = true := rfl
   refine q0a (hn) ?_
   refine retX Tryz.results129 ?_
   refine q1p ?_
   rw [hv]
   try simp [Bool.and_assoc]
 by_cases h14 : n.kind = 14
 · rw [h14] at hV ⊢
   have hv : V = (!p2 && !p3 && !p5 && !p6) := by rw [hV]; simp [q1h, Bool.and_assoc]
   clear hV
   have hn : q1h 14 = true := rfl
   refine q0a (hn) ?_
   refine retX Tryz.results129 ?_
   refine q1p ?_
   rw [hv]
   try simp [Bool.and_assoc]
 by_cases h11 : n.kind = 11
 · rw [h11] at hV ⊢
   have hv : V = (!p1 && !p2 && !p3 && !p4 && !p6) := by rw [hV]; simp [q1h, Bool.and_assoc]
   clear hV
   have hn : q1h 11 = false := rfl
   refine q0a (hn) ?_
   refine retX Tryz.results129 ?_
   refine q1p ?_
   rw [hv]
   try simp [Bool.and_assoc]
 by_cases h12 : n.kind = 12
 · rw [h12] at hV ⊢
   have hv : V = (!p1 && !p2 && !p3 && !p4 && !p6) := by rw [hV]; simp [q1h, Bool.and_assoc]
   clear hV
   have hn : q1h 12 = false := rfl
   refine q0a (hn) ?_
   refine retX Tryz.results129 ?_
   refine q1p ?_
   rw [hv]
   try simp [Bool.and_assoc]
 by_cases h13 : n.kind = 13
 · rw [h13] at hV ⊢
   have hv : V = (!p1 && !p2 && !p3 && !p4 && !p5) := by rw [hV]; simp [q1h, Bool.and_assoc]
   clear hV
   have hn : q1h 13 = false := rfl
   refine q0a (hn) ?_
   refine retX Tryz.results129 ?_
   refine q1p ?_
   rw [hv]
   try simp [Bool.and_assoc]
 · have e9 : (n.kind == 9) = false := by simpa using h9
   have e10 : (n.kind == 10) = false := by simpa using h10
   have e14 : (n.kind == 14) = false := by simpa using h14
   have e11 : (n.kind == 11) = false := by simpa using h11
   have e12 : (n.kind == 12) = false := by simpa using h12
   have e13 : (n.kind == 13) = false := by simpa using h13
   have hn : q1h n.kind = false := by simp [q1h, h9, h10, h14]
   have hv : V = (!p1 && !p2 && !p3 && !p4 && !p5 && !p6) := by rw [hV, hn]; simp [h9, h10, h14, h11, h12, h13, Bool.and_assoc]
   clear hV
   rw [hn]
   refine q0a (And.intro e9 (And.intro e10 (And.intro e14 (And.intro e11 (And.intro e12 e13))))) ?_
   refine retX Tryz.results129 ?_
   refine q1p ?_
   rw [hv]

theorem z1n (h : Nat → Option Blkd) : View h (.agg [.c (.v (.int .i64 0)), .c (.v (.int .i64 0)), .c (.v (.string ⟨#[]⟩)), .c (.v (.slice none 0 0)), .c (.v (.slice none 0 0))]) q6p.av := by
 refine .agg rfl fun k x y h1 h2 => ?_
 match k with
 | 0 => obtain rfl := Option.some.inj h1; obtain rfl := Option.some.inj h2; exact .same _
 | 1 => obtain rfl := Option.some.inj h1; obtain rfl := Option.some.inj h2; exact .same _
 | 2 => obtain rfl := Option.some.inj h1; obtain rfl := Option.some.inj h2; exact .same _
 | 3 => obtain rfl := Option.some.inj h1; obtain rfl := Option.some.inj h2; exact .nil 5
 | 4 => obtain rfl := Option.some.inj h1; obtain rfl := Option.some.inj h2; exact .nil 1
 | k + 5 => simp at h1
theorem fieldM_eq (f : FT) : q4f f = !((!allM q11 f.aliases || f.has && !jR f.dflt) || !f.has && !jeq f.dflt q6p) := by
 unfold q4f
 cases f.has <;> simp
theorem z34 (l : List FT) (hl : l.length ≤ 1000000) (hs : ∀ f ∈ l, f.sm 1000000) : Told Tryz.prog 132 [.c (.sl 9 (l.map FT.cells))] (.c (.v (.bool (q56 l)))) := by
 obtain ⟨V, hV⟩ : ∃ V, V = q56 l := ⟨_, rfl⟩
 rw [← hV]
 refine VC.toldP ent_132 Tryz.func132 rfl Tryz.ntmps132 fun hb => ?_
 clear hb
 refine q0b ?_
 refine VC.nil 3 9 1 (by rfl) (by trivial) (by rfl) ?_
 refine VC.loop (ι := {i : Nat // i ≤ l.length ∧ ∀ (j : Nat) (f : FT), j < i → l[j]? = some f → q4f f = true}) (fun q => [(0, .c (.sl 9 (l.map FT.cells))), (3, .row 40 q.1), (6, .c (.sl 9 (l.map FT.cells))), (7, .c (.v (.int .i64 (l.length : Int)))), (8, .c (.v (.int .i64 (q.1 : Int))))])
  (fun q => [(40, ⟨true, 9, 1, rA sPV ((l.map (·.name)).take q.1)⟩)]) 800 (fun q => l.length - q.1) ⟨0, Nat.zero_le _, fun j f h => by omega⟩ ?_ ?_
 · exact q2f (And.intro @q0x (And.intro @q1l @q7a))
 rintro ⟨i, hi, ht⟩
 simp only []
 refine q0b ?_
 refine VC.cond (by rfl) (by trivial) (fun hc => ?_) (fun hc => ?_)
 · have hlt : i < l.length := by simp at hc; omega
   obtain ⟨f, hx⟩ : ∃ f, l[i]? = some f := ⟨l[i], List.getElem?_eq_getElem hlt⟩
   have hw : IntKind.i64.wrap ((i : Int) + 1) = (i : Int) + 1 := q0f (by omega) (by omega)
   have hxp : (l.map FT.cells)[i]? = some f.cells := by rw [List.getElem?_map, hx]; rfl
   have hln : (rA sPV ((l.map (·.name)).take i)).length = i := by rw [q0x]; simp; omega
   have hr : rA sPV ((l.map (·.name)).take i) ++ [[.c (.v (.string (str f.name)))]] = rA sPV ((l.map (·.name)).take (i + 1)) := by
    rw [List.take_add_one, List.getElem?_map, hx]
    exact q7b sPV _ f.name
   have hl2 : (rA sPV ((l.map (·.name)).take (i + 1))).length = i + 1 := by rw [q0x]; simp; omega
   obtain ⟨hn1, ha1, ha2, hd⟩ := hs f (List.mem_of_getElem? hx)
   have hA := j7l (g := 134) (rule := q11) f.aliases fun x hx => j6r x (by have := ha2 x hx; omega)
   have hR := z37 f.dflt (sm_le (by omega) _ hd)
   have hS := same_told _ f.dflt q6p (Nat.le_refl _)
   simp only [JT.av] at hR
   have hM := fieldM_eq f
   obtain ⟨b1, hb1⟩ : ∃ b, b = allM q11 f.aliases := ⟨_, rfl⟩
   obtain ⟨b2, hb2⟩ : ∃ b, b = jR f.dflt := ⟨_, rfl⟩
   obtain ⟨b3, hb3⟩ : ∃ b, b = jeq f.dflt q6p := ⟨_, rfl⟩
   rw [← hb1, ← hb2, ← hb3] at hM
   rw [← hb1] at hA
   rw [← hb2] at hR
   rw [← hb3] at hS
   replace hM := Lib.hid hM
   clear hb1 hb2 hb3 ha1 ha2 hd
   refine q0c (And.intro hxp (And.intro @q3h (And.intro @q1z (And.intro @q18 (And.intro @q19 (And.intro hln hr)))))) ?_
   refine q0j (hA) ?_
   refine q0c (And.intro @q3h (And.intro @q1z (And.intro @q18 @q19))) ?_
   refine q7o (@q02) (hR) ?_
   refine q0c (And.intro @q3h (And.intro @q1z (And.intro @q18 @q19))) ?_
   (refine AO.step fun K hK => ?_; simp only [go_sem, Int.reduceBEq, Int.reduceLE, Int.reduceLT, Int.reduceNeg, Nat.reduceAdd, Nat.reduceEqDiff, Nat.reduceLT, Nat.reduceLeDiff, Nat.reduceMul, Nat.reduceSub, reduceCtorEq, ↓reduceIte]; (first | refine q1k ?_ | skip))
   refine .inr (.inl ⟨.c (.v (.bool b3)), [f.dflt.av, q6p.av], [], fun hg => ⟨hg, by simp [AV.pureL, AV.pureB, JT.av, q02], rfl, fun k x z h5 h6 => ?_, rfl, hS⟩, hK _ _ _ ?_⟩)
   · match k with
     | 0 => obtain rfl := Option.some.inj h5; obtain rfl := Option.some.inj h6; exact .same _
     | 1 => obtain rfl := Option.some.inj h5; obtain rfl := Option.some.inj h6; exact z1n _
     | k + 2 => simp at h5
   clear hK K
   refine q0b ?_
   refine VC.cond (by rfl) (by trivial) (fun hc2 => ?_) (fun hc2 => ?_)
   · have hf : V = false := by
      have : q4f f = false := by
       rw [hM.out, hc2]
       rfl
      have h2 : l.all q4f = false := by
       rw [List.all_eq_false]
       exact ⟨f, List.mem_of_getElem? hx, by simp [this]⟩
      rw [hV, q56, h2]
      rfl
     subst hf
     refine q0b ?_
     refine retX Tryz.results132 ?_
     exact .c _
   · have hft : q4f f = true := by
      rw [hM.out, hc2]
      rfl
     refine q0c (hw) ?_
     refine .next ⟨i + 1, by omega, ?_⟩ ?_ (by simp only []; omega)
     · intro j g hj hg
       by_cases hji : j < i
       · exact ht j g hji hg
       · obtain rfl : j = i := by omega
         rw [hx] at hg
         obtain rfl := Option.some.inj hg
         exact hft
     refine q1j (And.intro hl2 @q1l) ?_
     exact ⟨cI (by omega), Nat.le_refl _⟩
 · have hie : i = l.length := by simp at hc; omega
   have htk : (l.map (·.name)).take i = l.map (·.name) := List.take_of_length_le (by simp; omega)
   have hall : l.all q4f = true := by
    rw [List.all_eq_true]
    intro f hf
    obtain ⟨j, hj⟩ := List.getElem?_of_mem hf
    exact ht j f (by have := (List.getElem?_eq_some_iff.1 hj).1; omega) hj
   have hD := j49 (g := 134) (rule := q11) (l.map (·.name)) (by simp; omega) fun x hx => by
    obtain ⟨f, hf, rfl⟩ := List.mem_map.1 hx
    exact j6r f.name (by have := (hs f hf).1; omega)
   have hv : V = (decide ((l.length : Int) ≤ 40) && q3k q11 (l.map (·.name))) := by
    rw [hV, q56, hall, Bool.true_and]
    congr 1
    simp
    omega
   clear hV
   replace hv := Lib.hid hv
   rw [htk]
   have hrl : (rA sPV (l.map (·.name))).length = i := by rw [q0x]; simp; omega
   refine q0c (hrl) ?_
   (refine AO.step fun K hK => ?_; simp only [go_sem, Int.reduceBEq, Int.reduceLE, Int.reduceLT, Int.reduceNeg, Nat.reduceAdd, Nat.reduceEqDiff, Nat.reduceLT, Nat.reduceLeDiff, Nat.reduceMul, Nat.reduceSub, reduceCtorEq, ↓reduceIte, hrl]; (first | refine q1k ?_ | skip))
   refine .inr (.inl ⟨.c (.v (.bool (q3k q11 (l.map (·.name))))), [.c (.sl 1 ((l.map (·.name)).map sPV)), .fn (.func 134) [] []], [40], fun hg => ⟨hg, by simp [AV.pureL, AV.pureB], rfl, fun k x z h5 h6 => ?_, rfl, hD⟩, hK _ _ _ ?_⟩)
   · match k with
     | 0 =>
       obtain rfl := Option.some.inj h5
       obtain rfl := Option.some.inj h6
       exact View.row (B := ⟨true, 9, 1, rA sPV (l.map fun f : FT => f.name)⟩) (es := (l.map fun f : FT => f.name).map sPV) rfl rfl hrl (q5j _ _)
     | 1 => obtain rfl := Option.some.inj h5; obtain rfl := Option.some.inj h6; exact .same _
     | k + 2 => simp at h5
   clear hK K
   refine q0b ?_
   refine retX Tryz.results132 ?_
   rw [hv.out]
   exact .c _

theorem ixfI_told {g : FuncId} {fs cs : List AV} (hp : AV.pureL fs = true) (hp' : AV.pureL cs = true) (l : List (Int)) (p : Int → Bool) (hk : ∀ x ∈ l, Told Tryz.prog g (fs ++ ([.c (.v (.int .i64 x))] ++ cs)) (.c (.v (.bool (p x))))) :
  Told Tryz.prog 213 [.c (.sl 1 (l.map iPV)), .fn (.func g) fs cs] (.c (.v (.int .i64 (idxP p l)))) := by
 refine VC.told ent_213 Tryz.func213 rfl Tryz.ntmps213 (by simp) (by simp [AV.pureB, AV.pureL, hp, hp']) rfl fun hb => ?_
 simp only [List.mem_cons, List.not_mem_nil, or_false, forall_eq_or_imp, forall_eq, q5n, q5x, List.length_map] at hb
 have h1 := hb.1.1
 clear hb
 refine q0b ?_
 refine VC.loop (ι := {i : Nat // i ≤ l.length ∧ ∀ j x, j < i → l[j]? = some x → p x = false}) (fun i => [(0, .c (.sl 1 (l.map iPV))), (1, .fn (.func g) fs cs), (7, .c (.v (.int .i64 l.length))), (8, .c (.v (.int .i64 i.1)))]) (fun _ => []) 0 (fun i => l.length - i.1) ⟨0, Nat.zero_le _, by intro j x hj; omega⟩ ?_ ?_
 · simp only [q4l hp, q4l hp', Weak, eq_self, q0v, q0p, sc_c, q0r, q0s, q0t, q0o, q0q, ScL, q0u, List.forall_mem_map, go_sem, Int.reduceBEq, Int.reduceLE, Int.reduceLT, Int.reduceNeg, Nat.reduceAdd, Nat.reduceEqDiff, Nat.reduceLT, Nat.reduceLeDiff, Nat.reduceMul, Nat.reduceSub, reduceCtorEq, ↓reduceIte]
   all_goals rfl
 rintro ⟨i, hi, ht⟩
 refine q0b ?_
 refine VC.cond (by rfl) (by trivial) (fun hc => ?_) (fun hc => ?_)
 · simp only [decide_eq_true_eq] at hc
   obtain ⟨x, hx⟩ : ∃ x, l[i]? = some x := ⟨l[i]'(by omega), List.getElem?_eq_getElem _⟩
   have hw : IntKind.i64.wrap ((i : Int) + 1) = (i : Int) + 1 := q0f (by omega) (by omega)
   have hkx := hk x (List.mem_of_getElem? hx)
   refine q0c (And.intro @q4t (And.intro hx @q3b)) ?_
   refine q06 (And.intro @q3b (And.intro hp (And.intro hp' (And.intro @j31 (And.intro @q02 @lAss))))) (hkx) ?_
   refine q0b ?_
   refine VC.cond (by rfl) (by trivial) (fun hpx => ?_) (fun hpx => ?_)
   · have hr := j52 hx hpx ht
     refine q0b ?_
     refine retX Tryz.results213 ?_
     rw [hr]
     exact .c _
   · refine q0c (hw) ?_
     refine .next ⟨i + 1, by omega, fun j y hj hy => ?_⟩ ?_ (by simp only []; omega)
     · rcases Nat.lt_or_ge j i with h | h
       · exact ht j y h hy
       · obtain rfl : j = i := by omega
         rw [hx] at hy
         obtain rfl := Option.some.inj hy
         exact hpx
     simp only [q4l hp, q4l hp', Weak, eq_self, q0v, q0p, sc_c, q0r, q0s, q0t, q0o, q0q, ScL, q0u, List.forall_mem_map, go_sem, Int.reduceBEq, Int.reduceLE, Int.reduceLT, Int.reduceNeg, Nat.reduceAdd, Nat.reduceEqDiff, Nat.reduceLT, Nat.reduceLeDiff, Nat.reduceMul, Nat.reduceSub, reduceCtorEq, ↓reduceIte]
     exact cI (by omega)
 · simp only [decide_eq_false_iff_not] at hc
   obtain rfl : i = l.length := by omega
   have hr := j53 ht
   refine q0b ?_
   refine retX Tryz.results213 ?_
   rw [hr]
   exact .c _
theorem cnfI_told {g : FuncId} {fs cs : List AV} (hp : AV.pureL fs = true) (hp' : AV.pureL cs = true) (l : List (Int)) (p : Int → Bool) (hk : ∀ x ∈ l, Told Tryz.prog g (fs ++ ([.c (.v (.int .i64 x))] ++ cs)) (.c (.v (.bool (p x))))) :
  Told Tryz.prog 183 [.c (.sl 1 (l.map iPV)), .fn (.func g) fs cs] (.c (.v (.bool (l.any p)))) := by
 have hi := ixfI_told hp hp' l p hk
 refine VC.told ent_183 Tryz.func183 rfl Tryz.ntmps183 (by simp) (by simp [AV.pureB, AV.pureL, hp, hp']) rfl fun hb => ?_
 clear hb
 refine q0b ?_
 refine q06 (And.intro hp hp') (hi) ?_
 refine q0b ?_
 refine retX Tryz.results183 ?_
 exact q1p (by rw [j51])

theorem j3t {ns : List NT} {j : Nat} {n : NT} (h : ns[j]? = some n) : q3c ns j = n.kind := by rw [q3c, h]
theorem z6e (s : ST) (j : Nat) (k kind : Int) (hj : j < s.nodes.length) :
  Told Tryz.prog 184 [.c (.v (.int .i64 (j : Int))), .pp [.v (.int .i64 k)], .pp [.v (.int .i64 kind)], .pp s.cells] (.c (.v (.bool ((j : Int) == k || (!q1h kind && q3c s.nodes j == kind))))) := by
 obtain ⟨n, hn⟩ : ∃ n, s.nodes[j]? = some n := ⟨s.nodes[j], List.getElem?_eq_getElem hj⟩
 have hnp : (s.nodes.map NT.cells)[j]? = some n.cells := by rw [List.getElem?_map, hn]; rfl
 rw [j3t hn]
 have hN := j2g kind
 rw [q0i]
 refine VC.toldP ent_184 Tryz.func184 rfl Tryz.ntmps184 fun hb => ?_
 clear hb
 refine q0b ?_
 refine q2m (hN) ?_
 refine q0c (And.intro hnp @q0d) ?_
 refine retX Tryz.results184 ?_
 exact .c _
theorem drop_at {α : Type} {l : List α} {i : Nat} {x : α} (h : l[i]? = some x) : l.drop i = x :: l.drop (i + 1) := by
 obtain ⟨hlt, rfl⟩ := List.getElem?_eq_some_iff.1 h
 exact List.drop_eq_getElem_cons hlt
theorem z6f (s : ST) (l : List Int) (hl : ∀ k ∈ l, 0 ≤ k ∧ k < (s.nodes.length : Int)) (hlen : l.length ≤ 1000000) :
  Told Tryz.prog 135 [s.av, .c (.sl 1 (l.map iPV))] (.c (.v (.bool (j09 s.nodes l)))) := by
 obtain ⟨V, hV⟩ : ∃ V, V = j09 s.nodes l := ⟨_, rfl⟩
 rw [← hV]
 unfold j09 at hV
 rw [ST.av_eq, q0i]
 refine VC.toldP ent_135 Tryz.func135 rfl Tryz.ntmps135 fun hb => ?_
 clear hb
 refine q0b ?_
 refine VC.cond (by rfl) (by trivial) (fun hc => ?_) (fun hc => ?_)
 · have hf : V = false := by
    have : ¬ (1 ≤ l.length ∧ l.length ≤ 10) := by simp at hc; omega
    rw [hV]
    by_cases h1 : 1 ≤ l.length
    · have : ¬ l.length ≤ 10 := fun h => this ⟨h1, h⟩
      simp [this]
    · simp [h1]
   subst hf
   refine q0b ?_
   refine retX Tryz.results135 ?_
   exact .c _
 have hv : q4e s.nodes [] l = V := by
  have h1 : 1 ≤ l.length ∧ l.length ≤ 10 := by simp at hc; omega
  rw [hV]
  simp [h1.1, h1.2]
 clear hV hc
 refine VC.frz [0] [(1, .c (.sl 1 (l.map iPV))), (2, .pp [.sl 10 (s.nodes.map NT.cells), .v (.int .i64 s.root)])] [] 400 ?_ ?_
 · refine wkfX ?_
   exact ⟨.same _, .ref (es := [.sl 10 (s.nodes.map NT.cells), .v (.int .i64 s.root)]) (by simp) rfl rfl rfl rfl⟩
 refine q0b ?_
 refine VC.loop (ι := {i : Nat // i ≤ l.length ∧ q4e s.nodes (l.take i) (l.drop i) = V})
  (fun q => [(1, .c (.sl 1 (l.map iPV))), (2, .pp [.sl 10 (s.nodes.map NT.cells), .v (.int .i64 s.root)]), (16, .c (.sl 1 (l.map iPV))), (17, .c (.v (.int .i64 (l.length : Int)))), (18, .c (.v (.int .i64 (q.1 : Int))))]) (fun q => []) 800 (fun q => l.length - q.1) ⟨0, Nat.zero_le _, by simpa using hv⟩ ?_ ?_
 · exact q2z
 clear hv
 rintro ⟨i, hi, hv⟩
 simp only []
 refine q0b ?_
 refine VC.cond (by rfl) (by trivial) (fun hc => ?_) (fun hc => ?_)
 · have hlt : i < l.length := by simp at hc; omega
   obtain ⟨x, hx⟩ : ∃ x, l[i]? = some x := ⟨l[i], List.getElem?_eq_getElem hlt⟩
   obtain ⟨h0, h1⟩ := hl x (List.mem_of_getElem? hx)
   obtain ⟨p, rfl⟩ : ∃ p : Nat, x = (p : Int) := ⟨x.toNat, by omega⟩
   have hp : p < s.nodes.length := by omega
   obtain ⟨n, hn⟩ : ∃ n, s.nodes[p]? = some n := ⟨s.nodes[p], List.getElem?_eq_getElem hp⟩
   have hnp : (s.nodes.map NT.cells)[p]? = some n.cells := by rw [List.getElem?_map, hn]; rfl
   have hw : IntKind.i64.wrap ((i : Int) + 1) = (i : Int) + 1 := q0f (by omega) (by omega)
   have hxp : (l.map iPV)[i]? = some (iPV (p : Int)) := by rw [List.getElem?_map, hx]; rfl
   have htk : (l.map iPV).take i = (l.take i).map iPV := by rw [List.map_take]
   have hF := cnfI_told (g := 184) (fs := []) (cs := [.pp [.v (.int .i64 (p : Int))], .pp [.v (.int .i64 n.kind)], .pp s.cells]) rfl rfl (l.take i) (fun m => m == (p : Int) || (!q1h n.kind && q3c s.nodes m.toNat == n.kind)) fun m hm => by
    obtain ⟨h2, h3⟩ := hl m (List.mem_of_mem_take hm)
    obtain ⟨j, rfl⟩ : ∃ j : Nat, m = (j : Int) := ⟨m.toNat, by omega⟩
    have := z6e s j (p : Int) n.kind (by omega)
    rw [Int.toNat_natCast]
    exact this
   rw [drop_at hx, q4e, j12, Int.toNat_natCast, j3t hn] at hv
   obtain ⟨b, hb⟩ : ∃ b : Bool, b = (l.take i).any fun m => m == (p : Int) || (!q1h n.kind && q3c s.nodes m.toNat == n.kind) := ⟨_, rfl⟩
   rw [← hb] at hF hv
   refine q0c (And.intro hxp (And.intro @q3b (And.intro hnp @q0d))) ?_
   (refine AO.step fun K hK => ?_; simp only [go_sem, Int.reduceBEq, Int.reduceLE, Int.reduceLT, Int.reduceNeg, Nat.reduceAdd, Nat.reduceEqDiff, Nat.reduceLT, Nat.reduceLeDiff, Nat.reduceMul, Nat.reduceSub, reduceCtorEq, ↓reduceIte, htk]; (first | refine q1k ?_ | skip))
   refine .inr (.inl ⟨.c (.v (.bool b)), [.c (.sl 1 ((l.take i).map iPV)), .fn (.func 184) [] [.pp [.v (.int .i64 (p : Int))], .pp [.v (.int .i64 n.kind)], .pp s.cells]], [832, 904], fun hg => ⟨hg, by rfl, rfl, fun k x z h5 h6 => ?_, rfl, hF⟩, hK _ _ _ ?_⟩)
   · match k with
     | 0 => obtain rfl := Option.some.inj h5; obtain rfl := Option.some.inj h6; exact .same _
     | 1 =>
       obtain rfl := Option.some.inj h5
       obtain rfl := Option.some.inj h6
       refine .fn rfl (by simp) rfl fun k x z h7 h8 => ?_
       match k with
       | 0 => obtain rfl := Option.some.inj h7; obtain rfl := Option.some.inj h8; exact View.ref (es := [.v (.int .i64 (p : Int))]) rfl rfl rfl rfl
       | 1 => obtain rfl := Option.some.inj h7; obtain rfl := Option.some.inj h8; exact View.ref (es := [.v (.int .i64 n.kind)]) rfl rfl rfl rfl
       | 2 => obtain rfl := Option.some.inj h7; obtain rfl := Option.some.inj h8; exact .same _
       | k + 3 => simp at h7
     | k + 2 => simp at h5
   clear hK K
   refine q0b ?_
   refine VC.cond (by rfl) (by trivial) (fun hc2 => ?_) (fun hc2 => ?_)
   · have hf : V = false := by
      rw [← hv]
      have : (n.kind != 13 && !b) = false := by
       cases b <;> simp at hc2 ⊢
       exact hc2
      rw [this]
      rfl
     subst hf
     refine q0b ?_
     refine retX Tryz.results135 ?_
     exact .c _
   · refine q0c (hw) ?_
     refine .next ⟨i + 1, by omega, ?_⟩ ?_ (by simp only []; omega)
     · have : (n.kind != 13 && !b) = true := by
        cases b <;> simp at hc2 ⊢
        exact hc2
       rw [this, Bool.true_and] at hv
       rw [List.take_add_one, hx]
       exact hv
     simp only [Weak, eq_self, q0v, q0p, sc_c, q0r, q0s, q0t, q0o, q0q, ScL, q0u, List.forall_mem_map, go_sem, Int.reduceBEq, Int.reduceLE, Int.reduceLT, Int.reduceNeg, Nat.reduceAdd, Nat.reduceEqDiff, Nat.reduceLT, Nat.reduceLeDiff, Nat.reduceMul, Nat.reduceSub, reduceCtorEq, ↓reduceIte]
     try exact cI (by omega)
 · have hie : i = l.length := by simp at hc; omega
   have hf : V = true := by
    rw [← hv, hie, List.drop_length, q4e]
   subst hf
   refine q0b ?_
   refine retX Tryz.results135 ?_
   exact .c _

theorem node_told (s : ST) (n : NT) (hsm : n.sm 1000000) (hbr : n.kind = 13 → ∀ k ∈ n.branches, 0 ≤ k ∧ k < (s.nodes.length : Int)) : Told Tryz.prog 68 [s.av, n.av] (.c (.v (.bool (q2h s.nodes n)))) := by
 obtain ⟨V, hV⟩ : ∃ V, V = q2h s.nodes n := ⟨_, rfl⟩
 rw [← hV]
 unfold q2h at hV
 obtain ⟨hn1, hn2, ⟨ha1, ha2⟩, ⟨hs1, hs2⟩, hb1, hf1, hf2⟩ := hsm
 have hB := bare_told n
 have hN := j2g n.kind
 have hF := j50 n.name (by omega)
 have hKd := kind_told n.name
 have hA := j7l (g := 72) (rule := q3l) n.aliases fun x hx => j50 x (by have := ha2 x hx; omega)
 have hFi := z34 n.fields hf1 hf2
 have hC := j8j n.symbols n.dflt
 have hD := j49 (g := 134) (rule := q11) n.symbols (by omega) fun x hx => j6r x (by have := hs2 x hx; omega)
 have hU := fun h => z6f s n.branches (hbr h) hb1
 clear hbr ha1 ha2 hs2 hf2
 simp only [NT.av_eq, q0d, List.map_cons, List.map_nil] at hB
 simp only [ST.av_eq, q0i, List.map_cons, List.map_nil] at hU
 obtain ⟨b0, h0⟩ : ∃ b, b = q64 n := ⟨_, rfl⟩
 obtain ⟨bN, hNN⟩ : ∃ b, b = q1h n.kind := ⟨_, rfl⟩
 obtain ⟨bF, hFF⟩ : ∃ b, b = q3l n.name := ⟨_, rfl⟩
 obtain ⟨kK, hKK⟩ : ∃ b, b = q5u n.name := ⟨_, rfl⟩
 obtain ⟨bA, hAA⟩ : ∃ b, b = allM q3l n.aliases := ⟨_, rfl⟩
 rw [← h0] at hV hB
 rw [← hNN] at hV hN
 rw [← hFF] at hV hF
 rw [← hKK] at hV hKd
 rw [← hAA] at hV hA
 clear h0 hFF hKK hAA
 rw [NT.av_eq, q0d, ST.av_eq, q0i]
 have hE : (⟨#[]⟩ : ByteArray).toList = [] := q17 []
 refine VC.toldP ent_68 Tryz.func68 rfl Tryz.ntmps68 fun hb => ?_
 clear hb
 refine q0b ?_
 refine q2m (hB) ?_
 refine q0b ?_
 refine VC.cond (by rfl) (by trivial) (fun hc => ?_) (fun hc => ?_)
 · have hf : V = false := by
    rw [hV]
    have : (decide (1 ≤ n.kind) && (decide (n.kind ≤ 14) && b0)) = false := by
     simp at hc ⊢
     intro h1 h2
     cases b0 with
     | false => rfl
     | true => simp at hc; omega
    rw [this]
    rfl
   subst hf
   refine q0b ?_
   refine retX Tryz.results68 ?_
   exact .c _
 have h1 : (decide (1 ≤ n.kind) && (decide (n.kind ≤ 14) && b0)) = true := by
  simp at hc ⊢
  exact ⟨by omega, by omega, hc.2⟩
 rw [h1, Bool.true_and] at hV
 clear h1 hc
 refine q0b ?_
 refine q0j (hN) ?_
 refine q0b ?_
 refine q2m (hF) ?_
 refine q0b ?_
 refine q2m (hKd) ?_
 refine q0b ?_
 refine q2m (hA) ?_
 refine q0b ?_
 refine VC.cond (by rfl) (by trivial) (fun hc => ?_) (fun hc => ?_)
 · have hf : V = false := by
    rw [hV]
    have : (!bN || (bF && (kK == 0 && bA))) = false := by
     cases bN <;> cases bF <;> cases bA <;> simp at hc ⊢
     simpa using hc
    rw [this]
    rfl
   subst hf
   refine q0b ?_
   refine retX Tryz.results68 ?_
   exact .c _
 have h1 : (!bN || (bF && (kK == 0 && bA))) = true := by
  cases bN <;> cases bF <;> cases bA <;> simp at hc ⊢
  simpa using hc
 rw [h1, Bool.true_and] at hV
 clear h1 hc hN hF hKd hA hB
 by_cases h9 : n.kind = 9
 · rw [if_pos h9] at hV
   subst hV
   rw [h9]
   refine q0m ?_
   refine q0j (hFi) ?_
   refine q0b ?_
   refine retX Tryz.results68 ?_
   exact .c _
 by_cases h10 : n.kind = 10
 · rw [if_neg h9, if_pos h10] at hV
   rw [h10]
   obtain ⟨bC, hCC⟩ : ∃ b, b = n.symbols.contains n.dflt := ⟨_, rfl⟩
   obtain ⟨bD, hDD⟩ : ∃ b, b = q3k q11 n.symbols := ⟨_, rfl⟩
   rw [← hCC] at hV hC
   rw [← hDD] at hV hD
   clear hCC hDD
   refine q0m ?_
   refine q0j (hC) ?_
   refine q0c (And.intro @q17 hE) ?_
   refine VC.cond (by rfl) (by trivial) (fun hc => ?_) (fun hc => ?_)
   · have hf : V = false := by
      rw [hV]
      have : ((n.has == bC) && (n.has || n.dflt.isEmpty)) = false := by
       cases hh : n.has <;> cases bC <;> cases hd : n.dflt <;> simp [hh, hd] at hc ⊢
      rw [this]
      rfl
     subst hf
     refine q0b ?_
     refine retX Tryz.results68 ?_
     exact .c _
   · have h1 : ((n.has == bC) && (n.has || n.dflt.isEmpty)) = true := by
      cases hh : n.has <;> cases bC <;> cases hd : n.dflt <;> simp [hh, hd] at hc ⊢
     rw [h1, Bool.true_and] at hV
     have hv : V = ((decide ((n.symbols.length : Int) ≥ 1) && decide ((n.symbols.length : Int) ≤ 40)) && bD) := by
      rw [hV, Bool.and_assoc]
      congr 1
      · simp
        omega
      · congr 1
        simp
        omega
     clear hV hc h1
     replace hv := Lib.hid hv
     refine q0b ?_
     refine q2m (hD) ?_
     refine q0b ?_
     refine retX Tryz.results68 ?_
     rw [hv.out]
     exact .c _
 by_cases h14 : n.kind = 14
 · rw [if_neg h9, if_neg h10, if_pos h14] at hV
   rw [h14]
   refine q0m ?_
   refine retX Tryz.results68 ?_
   rw [hV]
   exact .c _
 by_cases h13 : n.kind = 13
 · rw [if_neg h9, if_neg h10, if_neg h14, if_pos h13] at hV
   subst hV
   rw [h13]
   have hU := hU h13
   refine q0m ?_
   refine q0j (hU) ?_
   refine q0b ?_
   refine retX Tryz.results68 ?_
   exact .c _
 · rw [if_neg h9, if_neg h10, if_neg h14, if_neg h13] at hV
   subst hV
   have e9 : (n.kind == 9) = false := by simpa using h9
   have e10 : (n.kind == 10) = false := by simpa using h10
   have e14 : (n.kind == 14) = false := by simpa using h14
   have e13 : (n.kind == 13) = false := by simpa using h13
   refine q0a (And.intro e9 (And.intro e10 (And.intro e14 e13))) ?_
   refine retX Tryz.results68 ?_
   exact .c _

def wB (ns : List NT) (r : Int) (p : Nat) : Blkd := ⟨false, 178, 3, [[.c (.sl 10 (ns.map NT.cells)), .c (.v (.int .i64 r)), .c (.v (.int .i64 (p : Int)))]]⟩
theorem j9f {n : NT} (h : n.sm 1000000) : (q1e n).length ≤ 1000000 := by
 unfold q1e
 have h1 := h.2.2.2.2.1
 have h2 := h.2.2.2.2.2.1
 split
 · simpa using h2
 · split
   · simp
   · split
     · exact h1
     · simp
theorem j5b {α : Type} {l : List α} {i : Nat} {x : α} (h : l[i]? = some x) : l.drop i = x :: l.drop (i + 1) := by
 obtain ⟨hlt, rfl⟩ := List.getElem?_eq_some_iff.1 h
 exact List.drop_eq_getElem_cons hlt
theorem walk_told (ns : List NT) (r : Int) (hl : ns.length ≤ 1000000) (hs : ∀ n ∈ ns, n.sm 1000000) : ∀ (d : Nat) (z : Int), z = 33 - (d : Int) → d ≤ 33 → ∀ p : Nat, p ≤ ns.length →
  ToldM Tryz.prog 128 [.ref 1000000 1 0 0, .c (.v (.int .i64 z))] [wB ns r p] [some (wB ns r (q2n ns d p).2)] (.c (.v (.bool (q2n ns d p).1))) := by
 intro d
 induction d with
 | zero =>
   intro z hz hd p hp
   have hz2 : decide (z > 32) = true := by simp; omega
   rw [q2n]
   unfold wB
   refine VC.toldX j5i [] Tryz.func128 rfl Tryz.ntmps128 fun hb hbL => ?_
   clear hb hbL
   refine q0c (hz2) ?_
   refine VC.cond (by rfl) (by trivial) (fun hc => ?_) (fun hc => ?_)
   · refine q0b ?_
     refine retX Tryz.results128 ?_
     exact .c _
   · exact absurd hc (by simp)
 | succ d ih =>
   intro z hz hd p hp
   have hz2 : decide (z > 32) = false := by simp; omega
   have hwz : IntKind.i64.wrap (z + 1) = z + 1 := q0f (by omega) (by omega)
   have hI := ih (z + 1) (by omega) (by omega)
   clear ih
   obtain ⟨R, hR⟩ : ∃ R, R = q2n ns (d + 1) p := ⟨_, rfl⟩
   rw [← hR]
   rw [q2n] at hR
   have hle := j4u ns d
   by_cases hlt : p < ns.length
   · obtain ⟨n, hn⟩ : ∃ n, ns[p]? = some n := ⟨ns[p], List.getElem?_eq_getElem hlt⟩
     have hnp : (ns.map NT.cells)[p]? = some n.cells := by rw [List.getElem?_map, hn]; rfl
     have hge : decide ((p : Int) ≥ (ns.length : Int)) = false := by simp; omega
     have hwp : IntKind.i64.wrap ((p : Int) + 1) = ((p + 1 : Nat) : Int) := by rw [q0f (by omega) (by omega)]; rfl
     have hns := hs n (List.mem_of_getElem? hn)
     have hK := kids_told n hns
     have hkl := j9f hns
     rw [hn] at hR
     simp only [] at hR
     obtain ⟨ks, hks⟩ : ∃ ks, ks = q1e n := ⟨_, rfl⟩
     rw [← hks] at hK hR hkl
     simp only [NT.av_eq] at hK
     clear hks
     have hKi := hK
     clear hK
     unfold wB at hI ⊢
     refine VC.toldX j5i [] Tryz.func128 rfl Tryz.ntmps128 fun hb hbL => ?_
     clear hb hbL
     refine q0c (And.intro hge hz2) ?_
     refine VC.cond (by rfl) (by trivial) (fun hc => ?_) (fun hc => ?_)
     · exact absurd hc (by simp)
     refine q0c (And.intro hwp (And.intro hnp (And.intro @q1m (And.intro @j6v @j6w)))) ?_
     refine q06 (@q02) (hKi) ?_
     refine q0b ?_
     clear hKi
     refine VC.loop (ι := {x : Nat × Nat // x.1 ≤ ks.length ∧ x.2 ≤ ns.length ∧ q40 ns (q2n ns d) (ks.drop x.1) x.2 = R})
      (fun q => [(0, .ref 1000000 1 0 0), (1, .c (.v (.int .i64 z))), (6, .fn (.func 128) [.ref 1000000 1 0 0] []), (42, .c (.sl 1 (ks.map iPV))), (43, .c (.v (.int .i64 (ks.length : Int)))), (44, .c (.v (.int .i64 (q.1.1 : Int))))])
      (fun q => [(1000000, ⟨false, 178, 3, [[.c (.sl 10 (ns.map NT.cells)), .c (.v (.int .i64 r)), .c (.v (.int .i64 (q.1.2 : Int)))]]⟩)]) 800 (fun q => ks.length - q.1.1) ⟨(0, p + 1), Nat.zero_le _, hlt, by rw [List.drop_zero]; exact hR.symm⟩ ?_ ?_
     · simp only [Weak, eq_self, q0v, q0p, sc_c, q0r, q0s, q0t, q0o, q0q, ScL, q0u, List.forall_mem_map, go_sem, Int.reduceBEq, Int.reduceLE, Int.reduceLT, Int.reduceNeg, Nat.reduceAdd, Nat.reduceEqDiff, Nat.reduceLT, Nat.reduceLeDiff, Nat.reduceMul, Nat.reduceSub, reduceCtorEq, ↓reduceIte]
       try simp
     clear hR
     rintro ⟨⟨i, q⟩, hi, hq, hR⟩
     simp only [] at hi hq hR ⊢
     refine q0b ?_
     refine VC.cond (by rfl) (by trivial) (fun hc2 => ?_) (fun hc2 => ?_)
     · have hil : i < ks.length := by simp at hc2; omega
       obtain ⟨x, hx⟩ : ∃ x, ks[i]? = some x := ⟨ks[i], List.getElem?_eq_getElem hil⟩
       have hxp : (ks.map iPV)[i]? = some (iPV x) := by rw [List.getElem?_map, hx]; rfl
       have hw : IntKind.i64.wrap ((i : Int) + 1) = (i : Int) + 1 := q0f (by omega) (by omega)
       rw [j5b hx, q40] at hR
       by_cases hk : x = (q : Int)
       · rw [if_pos hk] at hR
         have hkq : (x == (q : Int)) = true := by simpa using hk
         have hIq := hI q hq
         have hqb := (hle q hq).2
         obtain ⟨M, hM⟩ : ∃ M, M = q2n ns d q := ⟨_, rfl⟩
         rw [← hM] at hIq hR hqb
         clear hI hM
         refine q0a (And.intro hxp (And.intro @q3b (And.intro hkq hwz))) ?_
         refine q0z [1000000] (hIq) ?_
         refine q0b ?_
         refine VC.cond (by rfl) (by trivial) (fun hc3 => ?_) (fun hc3 => ?_)
         · have hf : R = (false, M.2) := by
            rw [if_neg (by simpa using hc3)] at hR
            exact hR.symm
           subst hf
           refine q0b ?_
           refine retX Tryz.results128 ?_
           exact .c _
         · rw [if_pos (by simpa using hc3)] at hR
           refine q0c (hw) ?_
           refine .next ⟨(i + 1, M.2), by simp only []; omega, hqb, hR⟩ ?_ (by simp only []; omega)
           simp only [Weak, eq_self, q0v, q0p, sc_c, q0r, q0s, q0t, q0o, q0q, ScL, q0u, List.forall_mem_map, go_sem, Int.reduceBEq, Int.reduceLE, Int.reduceLT, Int.reduceNeg, Nat.reduceAdd, Nat.reduceEqDiff, Nat.reduceLT, Nat.reduceLeDiff, Nat.reduceMul, Nat.reduceSub, reduceCtorEq, ↓reduceIte]
           try exact cI (by omega)
       · rw [if_neg hk] at hR
         have hkq : (x == (q : Int)) = false := by simpa using hk
         by_cases hx0 : x < 0
         · have hf : R = (false, q) := by
            rw [if_pos (.inl hx0)] at hR
            exact hR.symm
           subst hf
           have e0 : decide (x < 0) = true := by simpa using hx0
           refine q0a (And.intro hxp (And.intro @q3b (And.intro hkq e0))) ?_
           refine retX Tryz.results128 ?_
           exact .c _
         have e0 : decide (x < 0) = false := by simpa using hx0
         by_cases hxq : x > (q : Int)
         · have hf : R = (false, q) := by
            rw [if_pos (.inr (.inl hxq))] at hR
            exact hR.symm
           subst hf
           have e1 : decide (x > (q : Int)) = true := by simpa using hxq
           refine q0a (And.intro hxp (And.intro @q3b (And.intro hkq (And.intro e0 e1)))) ?_
           refine retX Tryz.results128 ?_
           exact .c _
         have e1 : decide (x > (q : Int)) = false := by simpa using hxq
         obtain ⟨j, rfl⟩ : ∃ j : Nat, x = (j : Int) := ⟨x.toNat, by omega⟩
         have hj : j < ns.length := by omega
         obtain ⟨m, hm⟩ : ∃ m, ns[j]? = some m := ⟨ns[j], List.getElem?_eq_getElem hj⟩
         have hmp : (ns.map NT.cells)[j]? = some m.cells := by rw [List.getElem?_map, hm]; rfl
         have hka : q3c ns ((j : Int)).toNat = m.kind := by rw [Int.toNat_natCast, q3c, hm]
         rw [hka] at hR
         have hN := j2g m.kind
         refine q0a (And.intro hxp (And.intro @q3b (And.intro hkq (And.intro e0 (And.intro e1 (And.intro hmp @q0d)))))) ?_
         refine q0j (hN) ?_
         refine q0b ?_
         refine VC.cond (by rfl) (by trivial) (fun hc3 => ?_) (fun hc3 => ?_)
         · have hf : R = (false, q) := by
            rw [if_pos (.inr (.inr (by simpa using hc3)))] at hR
            exact hR.symm
           subst hf
           refine q0b ?_
           refine retX Tryz.results128 ?_
           exact .c _
         · have hnn : q1h m.kind = true := by simpa using hc3
           have hno : ¬ ((j : Int) < 0 ∨ (j : Int) > (q : Int) ∨ q1h m.kind = false) := by
            rintro (h | h | h)
            · exact hx0 h
            · exact hxq h
            · rw [hnn] at h
              exact absurd h (by simp)
           rw [if_neg hno] at hR
           refine q0c (hw) ?_
           refine .next ⟨(i + 1, q), by simp only []; omega, hq, hR⟩ ?_ (by simp only []; omega)
           simp only [Weak, eq_self, q0v, q0p, sc_c, q0r, q0s, q0t, q0o, q0q, ScL, q0u, List.forall_mem_map, go_sem, Int.reduceBEq, Int.reduceLE, Int.reduceLT, Int.reduceNeg, Nat.reduceAdd, Nat.reduceEqDiff, Nat.reduceLT, Nat.reduceLeDiff, Nat.reduceMul, Nat.reduceSub, reduceCtorEq, ↓reduceIte]
           try exact cI (by omega)
     · have hie : i = ks.length := by simp at hc2; omega
       have hf : R = (true, q) := by
        rw [hie, List.drop_length, q40] at hR
        exact hR.symm
       subst hf
       refine q0b ?_
       refine retX Tryz.results128 ?_
       exact .c _
   · have hR : R = (false, p) := by
      rw [hR, List.getElem?_eq_none (by omega)]
     subst hR
     have hge : decide ((p : Int) ≥ (ns.length : Int)) = true := by simp; omega
     unfold wB
     refine VC.toldX j5i [] Tryz.func128 rfl Tryz.ntmps128 fun hb hbL => ?_
     clear hb hbL
     refine q0c (hge) ?_
     refine VC.cond (by rfl) (by trivial) (fun hc => ?_) (fun hc => ?_)
     · refine q0b ?_
       refine retX Tryz.results128 ?_
       exact .c _
     · exact absurd hc (by simp)
theorem z4i (s : ST) (hl : s.nodes.length ≤ 1000000) (hs : ∀ n ∈ s.nodes, n.sm 1000000) : Told Tryz.prog 67 [s.av] (.c (.v (.bool (q38 s)))) := by
 have hW := walk_told s.nodes s.root hl hs 33 0 (by omega) (by omega) 0 (Nat.zero_le _)
 unfold wB at hW
 obtain ⟨V, hV⟩ : ∃ V, V = q38 s := ⟨_, rfl⟩
 rw [← hV]
 unfold q38 at hV
 obtain ⟨M, hM⟩ : ∃ M, M = q2n s.nodes 33 0 := ⟨_, rfl⟩
 rw [← hM] at hV hW
 clear hM
 have hv : V = (decide ((s.nodes.length : Int) > 0) && decide ((s.nodes.length : Int) ≤ 200) && (s.root == 0) && M.1 && ((M.2 : Int) == (s.nodes.length : Int))) := by
  have e1 : decide ((s.nodes.length : Int) > 0) = decide (0 < s.nodes.length) := by simp
  have e2 : decide ((s.nodes.length : Int) ≤ 200) = decide (s.nodes.length ≤ 200) := by simp; omega
  have e3 : (s.root == 0) = decide (s.root = 0) := by by_cases h : s.root = 0 <;> simp [h]
  have e4 : ((M.2 : Int) == (s.nodes.length : Int)) = decide (M.2 = s.nodes.length) := by
   by_cases h : M.2 = s.nodes.length
   · simp [h]
   · have : ¬ ((M.2 : Int) = (s.nodes.length : Int)) := by omega
     simp [h, this]
  rw [hV, e1, e2, e3, e4]
  simp only [Bool.and_assoc]
 clear hV
 replace hv := Lib.hid hv
 rw [ST.av_eq, q0i]
 rw [show ((0 : Nat) : Int) = 0 from rfl] at hW
 by_cases c1 : 0 < s.nodes.length
 · have e1 : decide ((s.nodes.length : Int) > 0) = true := by simpa using c1
   by_cases c2 : s.nodes.length ≤ 200
   · have e2 : decide ((s.nodes.length : Int) ≤ 200) = true := by simp; omega
     by_cases c3 : s.root = 0
     · have e3 : (s.root == 0) = true := by simpa using c3
       have hv2 : V = (M.1 && ((M.2 : Int) == (s.nodes.length : Int))) := by rw [hv.out, e1, e2, e3]; simp
       clear hv
       replace hv2 := Lib.hid hv2
       refine VC.toldP j3m Tryz.func67 rfl Tryz.ntmps67 fun hb => ?_
       clear hb
       refine q0c (And.intro e1 (And.intro e2 e3)) ?_
       refine q0z [32] (hW) ?_
       refine q0b ?_
       refine retX Tryz.results67 ?_
       rw [hv2.out]
       exact .c _
     · have e3 : (s.root == 0) = false := by simpa using c3
       have hv2 : V = false := by rw [hv.out, e3]; simp
       clear hv
       subst hv2
       refine VC.toldP j3m Tryz.func67 rfl Tryz.ntmps67 fun hb => ?_
       clear hb
       refine q0c (And.intro e1 (And.intro e2 e3)) ?_
       refine retX Tryz.results67 ?_
       exact .c _
   · have e2 : decide ((s.nodes.length : Int) ≤ 200) = false := by simp; omega
     have hv2 : V = false := by rw [hv.out, e2]; simp
     clear hv
     subst hv2
     refine VC.toldP j3m Tryz.func67 rfl Tryz.ntmps67 fun hb => ?_
     clear hb
     refine q0c (And.intro e1 e2) ?_
     refine retX Tryz.results67 ?_
     exact .c _
 · have e1 : decide ((s.nodes.length : Int) > 0) = false := by
    rw [show s.nodes.length = 0 by omega]
    rfl
   have hv2 : V = false := by rw [hv.out, e1]; simp
   clear hv
   subst hv2
   refine VC.toldP j3m Tryz.func67 rfl Tryz.ntmps67 fun hb => ?_
   clear hb
   refine q0c (e1) ?_
   refine retX Tryz.results67 ?_
   exact .c _

def KnOk (kn : List Int) : Prop := ∀ x ∈ kn, -1 ≤ x ∧ x ≤ 1001
theorem KnOk.set {kn : List Int} (h : KnOk kn) (p : Nat) {v : Int} (hv : -1 ≤ v ∧ v ≤ 1001) : KnOk (kn.set p v) := fun x hx => by
 rcases List.mem_or_eq_of_mem_set hx with h1 | rfl
 · exact h x h1
 · exact hv
theorem j45 {kn : List Int} (p : Nat) {v : Int} (hv : v ≠ 0) : (kn.set p v).count 0 ≤ kn.count 0 := by
 by_cases hp : p < kn.length
 · rw [List.count_set hp]
   have : (v == 0) = false := by simpa using hv
   simp [this]
 · rw [List.set_eq_of_length_le (by omega)]
   exact Nat.le_refl _
theorem j8l {kn : List Int} {p : Nat} {v : Int} (hp : kn[p]? = some 0) (hv : v ≠ 0) : (kn.set p v).count 0 < kn.count 0 := by
 obtain ⟨hlt, h0⟩ := List.getElem?_eq_some_iff.1 hp
 rw [List.count_set hlt]
 have : (v == 0) = false := by simpa using hv
 have hpos : 0 < kn.count 0 := List.count_pos_iff.2 (h0 ▸ List.getElem_mem hlt)
 simp [this, h0]
 omega
theorem z12 (f : Nat → List Int → Int × List Int) (N : Nat) (hf : ∀ q kn, kn.length = N → KnOk kn → (f q kn).2.length = N ∧ KnOk (f q kn).2 ∧ (f q kn).2.count 0 ≤ kn.count 0 ∧ 1 ≤ (f q kn).1 ∧ (f q kn).1 ≤ 1001) :
  ∀ (xs : List FT) (n : Int) (kn : List Int), kn.length = N → KnOk kn → 1 ≤ n → n ≤ 1001 → (q3y f xs n kn).2.length = N ∧ KnOk (q3y f xs n kn).2 ∧ (q3y f xs n kn).2.count 0 ≤ kn.count 0 ∧ 1 ≤ (q3y f xs n kn).1 ∧ (q3y f xs n kn).1 ≤ 1001
 | [], n, kn, h1, h2, h3, h4 => ⟨h1, h2, Nat.le_refl _, h3, h4⟩
 | x :: xs, n, kn, h1, h2, h3, h4 => by
   rw [q3y]
   obtain ⟨a1, a2, a3, a4, a5⟩ := hf x.type.toNat kn h1 h2
   obtain ⟨b1, b2, b3, b4, b5⟩ := z12 f N hf xs (min (n + (f x.type.toNat kn).1) 1001) (f x.type.toNat kn).2 a1 a2 (by omega) (by omega)
   exact ⟨b1, b2, by omega, b4, b5⟩
theorem knAt_of {kn : List Int} {p : Nat} {v : Int} (h : kn[p]? = some v) : knAt kn p = v := by rw [knAt, h]
theorem j7f (ns : List NT) : ∀ (d q : Nat) (kn : List Int), kn.length = ns.length → KnOk kn → (q2v ns d q kn).2.length = ns.length ∧ KnOk (q2v ns d q kn).2 ∧ (q2v ns d q kn).2.count 0 ≤ kn.count 0 ∧ 1 ≤ (q2v ns d q kn).1 ∧ (q2v ns d q kn).1 ≤ 1001
 | 0, q, kn, h1, h2 => ⟨h1, h2, Nat.le_refl _, (by decide : (1 : Int) ≤ 1001), (by decide : (1001 : Int) ≤ 1001)⟩
 | d + 1, q, kn, h1, h2 => by
   rw [q2v]
   split
   · exact ⟨h1, h2, Nat.le_refl _, (by decide : (1 : Int) ≤ 1001), (by decide : (1001 : Int) ≤ 1001)⟩
   · split
     · rename_i h3 h4
       refine ⟨h1, h2, Nat.le_refl _, by omega, ?_⟩
       unfold knAt
       split
       · rename_i v hv
         exact (h2 v (List.mem_of_getElem? hv)).2
       · exact (by decide : (0 : Int) ≤ 1001)
     · obtain ⟨b1, b2, b3, b4, b5⟩ := z12 (q2v ns d) ns.length (j7f ns d) (q1t ns q) 1 (kn.set q (-1)) (by rw [List.length_set]; exact h1) (h2.set q (by decide)) (by decide) (by decide)
       have c1 := j45 (kn := kn) q (v := -1) (by decide)
       have c2 := j45 (kn := (q3y (q2v ns d) (q1t ns q) 1 (kn.set q (-1))).2) q (v := (q3y (q2v ns d) (q1t ns q) 1 (kn.set q (-1))).1) (by omega)
       exact ⟨by rw [List.length_set]; exact b1, b2.set q (by omega), by simp only []; omega, b4, b5⟩
theorem z6z (s : ST) (hl : s.nodes.length ≤ 1000000) (hs : ∀ n ∈ s.nodes, n.sm 1000000) (hr : ∀ n ∈ s.nodes, n.kind = 9 → ∀ f ∈ n.fields, 0 ≤ f.type ∧ f.type < (s.nodes.length : Int)) : ∀ (d p : Nat) (kn : List Int), p < s.nodes.length → kn.length = s.nodes.length → KnOk kn → kn.count 0 < d →
  ToldM Tryz.prog 69 [s.av, .c (.v (.int .i64 (p : Int))), .row 1000000 s.nodes.length] [⟨true, 3, 1, rA iPV kn⟩] [some ⟨true, 3, 1, rA iPV (q2v s.nodes d p kn).2⟩] (.c (.v (.int .i64 (q2v s.nodes d p kn).1))) := by
 intro d
 induction d with
 | zero => intro p kn _ _ _ h; omega
 | succ d ih =>
 intro p kn hp hk hko hc
 obtain ⟨R, hR⟩ : ∃ R, R = q2v s.nodes (d + 1) p kn := ⟨_, rfl⟩
 rw [← hR]
 rw [q2v] at hR
 obtain ⟨v, hv⟩ : ∃ v, kn[p]? = some v := ⟨kn[p]'(by omega), List.getElem?_eq_getElem (by omega)⟩
 rw [knAt_of hv] at hR
 have hvp : (rA iPV kn)[p]? = some [.c (.v (.int .i64 v))] := rA_at hv
 have hkl : (rA iPV kn).length = s.nodes.length := by rw [q0x, hk]
 obtain ⟨N, hN⟩ : ∃ N, N = s.nodes.length := ⟨_, rfl⟩
 rw [ST.av_eq, q0i]
 by_cases hv0 : v < 0
 · rw [if_pos hv0] at hR
   subst hR
   have e0 : decide (v < 0) = true := by simpa using hv0
   refine VC.toldXF (And.intro @q0x (And.intro @q1l hk)) ent_69 [] Tryz.func69 rfl Tryz.ntmps69 fun hb hbL => ?_
   clear hb hbL
   refine q0a (And.intro hvp (And.intro hkl e0)) ?_
   refine q16 (@q31) Tryz.results69 ?_
   exact .c _
 have e0 : decide (v < 0) = false := by simpa using hv0
 rw [if_neg hv0] at hR
 by_cases hv1 : 0 < v
 · rw [if_pos hv1] at hR
   subst hR
   have e1 : decide (v > 0) = true := by simpa using hv1
   refine VC.toldXF (And.intro @q0x (And.intro @q1l hk)) ent_69 [] Tryz.func69 rfl Tryz.ntmps69 fun hb hbL => ?_
   clear hb hbL
   refine q0a (And.intro hvp (And.intro hkl (And.intro e0 e1))) ?_
   refine q16 (@q31) Tryz.results69 ?_
   exact .c _
 have e1 : decide (v > 0) = false := by simpa using hv1
 rw [if_neg hv1] at hR
 obtain rfl : v = 0 := by omega
 obtain ⟨n, hn⟩ : ∃ n, s.nodes[p]? = some n := ⟨s.nodes[p], List.getElem?_eq_getElem hp⟩
 have hnp : (s.nodes.map NT.cells)[p]? = some n.cells := by rw [List.getElem?_map, hn]; rfl
 have hns := hs n (List.mem_of_getElem? hn)
 have hfl := hns.2.2.2.2.2.1
 have hset : (rA iPV kn).set p [.c (.v (.int .i64 (-1)))] = rA iPV (kn.set p (-1)) := rA_set kn p (-1)
 have hfa : q1t s.nodes p = if n.kind = 9 then n.fields else [] := by rw [q1t, hn]
 obtain ⟨K0, hK0⟩ : ∃ K, K = q3y (q2v s.nodes d) (q1t s.nodes p) 1 (kn.set p (-1)) := ⟨_, rfl⟩
 rw [← hK0] at hR
 subst hR
 have hct := j8l (v := -1) hv (by decide)
 refine VC.toldXF (And.intro @q0x (And.intro @q1l hk)) ent_69 [] Tryz.func69 rfl Tryz.ntmps69 fun hb hbL => ?_
 clear hb hbL
 refine q0a (And.intro hvp (And.intro hkl (And.intro e0 (And.intro e1 (And.intro hset (And.intro hnp @q0d)))))) ?_
 refine VC.loop (ι := {x : Nat × (Int × List Int) // x.1 ≤ n.fields.length ∧ x.2.2.length = s.nodes.length ∧ KnOk x.2.2 ∧ x.2.2.count 0 < kn.count 0 ∧ 1 ≤ x.2.1 ∧ x.2.1 ≤ 1001 ∧ (if n.kind = 9 then q3y (q2v s.nodes d) (n.fields.drop x.1) x.2.1 x.2.2 else (x.2.1, x.2.2)) = K0})
  (fun q => [(1, .c (.v (.int .i64 (p : Int)))), (2, .row 1000000 s.nodes.length), (3, .ref 0 1 0 0), (7, .c (.v (.int .i64 q.1.2.1))), (34, .c (.sl 9 (n.fields.map FT.cells))), (35, .c (.v (.int .i64 (n.fields.length : Int)))), (36, .c (.v (.int .i64 (q.1.1 : Int))))])
  (fun q => [(0, ⟨false, 24, 2, [[.c (.sl 10 (s.nodes.map NT.cells)), .c (.v (.int .i64 s.root))]]⟩), (1000000, ⟨true, 3, 1, rA iPV q.1.2.2⟩)]) 800 (fun q => n.fields.length - q.1.1)
  ⟨(0, (1, kn.set p (-1))), Nat.zero_le _, by simp only []; rw [List.length_set]; exact hk, hko.set p (by decide), hct, by simp only []; omega, by simp only []; omega, by
    rw [hK0, hfa]
    split
    · rw [List.drop_zero]
    · rfl⟩ ?_ ?_
 · simp only [q0x, q1l, hk, List.length_set, Weak, eq_self, q0v, q0p, sc_c, q0r, q0s, q0t, q0o, q0q, ScL, q0u, List.forall_mem_map, go_sem, Int.reduceBEq, Int.reduceLE, Int.reduceLT, Int.reduceNeg, Nat.reduceAdd, Nat.reduceEqDiff, Nat.reduceLT, Nat.reduceLeDiff, Nat.reduceMul, Nat.reduceSub, reduceCtorEq, ↓reduceIte]
   try simp
 clear hK0 hct hv hvp hset
 rintro ⟨⟨i, m, kn'⟩, hi, hk', hko', hc', hm1, hm2, hK⟩
 simp only [] at hi hk' hko' hc' hm1 hm2 hK ⊢
 have hkl' : (rA iPV kn').length = s.nodes.length := by rw [q0x, hk']
 refine q0b ?_
 refine VC.cond (by rfl) (by trivial) (fun hc2 => ?_) (fun hc2 => ?_)
 · have hil : i < n.fields.length := by simp at hc2; omega
   obtain ⟨f, hx⟩ : ∃ f, n.fields[i]? = some f := ⟨n.fields[i], List.getElem?_eq_getElem hil⟩
   have hxp : (n.fields.map FT.cells)[i]? = some f.cells := by rw [List.getElem?_map, hx]; rfl
   have hw : IntKind.i64.wrap ((i : Int) + 1) = (i : Int) + 1 := q0f (by omega) (by omega)
   by_cases h9 : n.kind = 9
   · have e9 : (n.kind == 9) = true := by simpa using h9
     obtain ⟨h0, h1⟩ := hr n (List.mem_of_getElem? hn) h9 f (List.mem_of_getElem? hx)
     obtain ⟨q, hq⟩ : ∃ q : Nat, f.type = (q : Int) := ⟨f.type.toNat, by omega⟩
     have hI := ih q kn' (by omega) hk' hko' (by omega)
     obtain ⟨w1, w2, w3, w4, w5⟩ := j7f s.nodes d q kn' hk' hko'
     rw [if_pos h9, (List.drop_eq_getElem_cons hil).trans (by rw [(List.getElem?_eq_some_iff.1 hx).2]), q3y, hq, Int.toNat_natCast] at hK
     obtain ⟨M, hM⟩ : ∃ M, M = q2v s.nodes d q kn' := ⟨_, rfl⟩
     rw [← hM] at hI hK w1 w2 w3 w4 w5
     clear ih hM
     have hww : IntKind.i64.wrap (m + M.1) = m + M.1 := q0f (by omega) (by omega)
     have hkl2 : (rA iPV M.2).length = s.nodes.length := by rw [q0x, w1]
     simp only [ST.av_eq, q0i, List.map_cons, List.map_nil] at hI
     refine q0a (And.intro hxp (And.intro @q3h (And.intro @q1z (And.intro @q18 (And.intro @q19 (And.intro hnp (And.intro @q0d (And.intro e9 (And.intro hkl' hq))))))))) ?_
     refine q01 (And.intro hkl' (And.intro hq @q31)) [1000000] (hI) ?_
     refine q0c (And.intro hww (And.intro hw hkl2)) ?_
     refine .next ⟨(i + 1, (min (m + M.1) 1001, M.2)), by simp only []; omega, w1, w2, by simp only []; omega, by simp only []; omega, by simp only []; omega, by simp only []; rw [if_pos h9]; exact hK⟩ ?_ (by simp only []; omega)
     refine q1j (And.intro @q0x (And.intro @q1l (And.intro @q31 w1))) ?_
     exact ⟨cI (by omega), Nat.le_refl _⟩
   · have e9 : (n.kind == 9) = false := by simpa using h9
     rw [if_neg h9] at hK
     refine q0a (And.intro hxp (And.intro @q3h (And.intro @q1z (And.intro @q18 (And.intro @q19 (And.intro hnp (And.intro @q0d (And.intro e9 hw)))))))) ?_
     refine .next ⟨(i + 1, (m, kn')), by simp only []; omega, hk', hko', hc', hm1, hm2, by simp only []; rw [if_neg h9]; exact hK⟩ ?_ (by simp only []; omega)
     refine q1j (And.intro @q0x (And.intro @q1l hk')) ?_
     exact ⟨cI (by omega), Nat.le_refl _⟩
 · have hie : i = n.fields.length := by simp at hc2; omega
   have hf : K0 = (m, kn') := by
    rw [← hK]
    split
    · rw [hie, List.drop_length, q3y]
    · rfl
   subst hf
   have hset : (rA iPV kn').set p [.c (.v (.int .i64 m))] = rA iPV (kn'.set p m) := rA_set kn' p m
   obtain ⟨u, hu⟩ : ∃ u, kn'[p]? = some u := ⟨kn'[p]'(by omega), List.getElem?_eq_getElem (by omega)⟩
   have hup : (rA iPV kn')[p]? = some [.c (.v (.int .i64 u))] := rA_at hu
   refine q0c (And.intro hkl' (And.intro hup hset)) ?_
   refine q16 (@q31) Tryz.results69 ?_
   exact .c _

theorem j9o {ns : List NT} {i : Nat} {n : NT} (h : ns[i]? = some n) : q1u (ns.take (i + 1)) = q1u (ns.take i) ++ (if q1h n.kind = true then [n.name] else []) := by
 rw [List.take_add_one, h]
 simp only [q1u, List.filter_append, List.map_append, Option.toList_some]
 congr 1
 by_cases hk : q1h n.kind = true
 · simp [hk]
 · simp [hk]
theorem rA_rep (N : Nat) : rA iPV (List.replicate N 0) = List.replicate N [AV.c (.v (.int .i64 0))] := by
 simp [rA, iPV]
theorem q8d {s : ST} (h : q38 s = true) : ∀ n ∈ s.nodes, ∀ k ∈ q1e n, 0 ≤ k ∧ k < (s.nodes.length : Int) := by
 intro n hn k hk
 obtain ⟨i, hi⟩ := List.getElem?_of_mem hn
 have := (z4h h).1 i n (Nat.zero_le _) (List.getElem?_eq_some_iff.1 hi).1 hi k hk
 exact ⟨this.1, this.2.1⟩
theorem names_sm {ns : List NT} {N : Nat} (h : ∀ n ∈ ns, n.sm N) : ∀ x ∈ q1u ns, x.length ≤ N := by
 intro x hx
 obtain ⟨n, hn, rfl⟩ := List.mem_map.1 hx
 exact (h n (List.mem_filter.1 hn).1).1
theorem j9p (ns : List NT) : (q1u ns).length ≤ ns.length := by
 unfold q1u
 rw [List.length_map]
 exact List.length_filter_le _ _
theorem z0s (s : ST) (hsm : s.sm 1000000) : Told Tryz.prog 34 [s.av] (.c (.v (.bool (q1s s)))) := by
 obtain ⟨V, hV⟩ : ∃ V, V = q1s s := ⟨_, rfl⟩
 rw [← hV]
 unfold q1s at hV
 obtain ⟨hl, hs⟩ := hsm
 have hO := z4i s hl hs
 simp only [ST.av_eq, q0i, List.map_cons, List.map_nil] at hO
 rw [ST.av_eq, q0i]
 cases ho : q38 s with
 | false =>
   rw [ho] at hO hV
   obtain rfl : V = false := hV
   refine VC.toldP ent_34 Tryz.func34 rfl Tryz.ntmps34 fun hb => ?_
   clear hb
   refine q0b ?_
   refine q0j (hO) ?_
   refine q0m ?_
   refine retX Tryz.results34 ?_
   exact .c _
 | true =>
 rw [ho] at hO hV
 have hki := q8d ho
 rw [Bool.true_and] at hV
 obtain ⟨R, hR⟩ : ∃ R, R = q4a s.nodes s.nodes 0 (List.replicate s.nodes.length 0) := ⟨_, rfl⟩
 rw [← hR] at hV
 have hnm : ∀ i, (q1u (s.nodes.take i)).length ≤ 1000000 := fun i => by
  have := j9p (s.nodes.take i)
  rw [List.length_take] at this
  omega
 refine VC.toldP ent_34 Tryz.func34 rfl Tryz.ntmps34 fun hb => ?_
 clear hb
 refine q0b ?_
 refine q0j (hO) ?_
 refine q0m ?_
 refine VC.nil 3 9 1 (by rfl) (by trivial) (by rfl) ?_
 refine VC.loop (ι := {x : Nat × List Int // x.1 ≤ s.nodes.length ∧ x.2.length = s.nodes.length ∧ KnOk x.2 ∧ q4a s.nodes (s.nodes.drop x.1) x.1 x.2 = R})
  (fun q => [(1, .ref 0 1 0 0), (3, .row 120 (q1u (s.nodes.take q.1.1)).length), (4, .row 72 s.nodes.length), (15, .c (.sl 10 (s.nodes.map NT.cells))), (16, .c (.v (.int .i64 (s.nodes.length : Int)))), (17, .c (.v (.int .i64 (q.1.1 : Int))))])
  (fun q => [(0, ⟨false, 24, 2, [[.c (.sl 10 (s.nodes.map NT.cells)), .c (.v (.int .i64 s.root))]]⟩), (72, ⟨true, 3, 1, rA iPV q.1.2⟩), (120, ⟨true, 9, 1, rA sPV (q1u (s.nodes.take q.1.1))⟩)]) 800 (fun q => s.nodes.length - q.1.1)
  ⟨(0, List.replicate s.nodes.length 0), Nat.zero_le _, by simp, fun x hx => by obtain rfl := (List.mem_replicate.1 hx).2; decide, by rw [List.drop_zero]; exact hR.symm⟩ ?_ ?_
 · simp only [q0x, q1l, rA_rep, List.length_replicate, Weak, eq_self, q0v, q0p, sc_c, q0r, q0s, q0t, q0o, q0q, ScL, q0u, List.forall_mem_map, go_sem, Int.reduceBEq, Int.reduceLE, Int.reduceLT, Int.reduceNeg, Nat.reduceAdd, Nat.reduceEqDiff, Nat.reduceLT, Nat.reduceLeDiff, Nat.reduceMul, Nat.reduceSub, reduceCtorEq, ↓reduceIte]
   refine ⟨rfl, rfl, ⟨Nat.le_refl _, Nat.le_refl _⟩, fun e he x hx => ?_⟩
   obtain rfl := (List.mem_replicate.1 he).2
   obtain rfl := List.mem_singleton.1 hx
   exact .c
 clear hR hO
 rintro ⟨⟨i, kn⟩, hi, hk, hko, hR⟩
 simp only [] at hi hk hko hR ⊢
 have hkl : (rA iPV kn).length = s.nodes.length := by rw [q0x, hk]
 refine q0b ?_
 refine VC.cond (by rfl) (by trivial) (fun hc => ?_) (fun hc => ?_)
 · have hlt : i < s.nodes.length := by simp at hc; omega
   obtain ⟨n, hn⟩ : ∃ n, s.nodes[i]? = some n := ⟨s.nodes[i], List.getElem?_eq_getElem hlt⟩
   have hnp : (s.nodes.map NT.cells)[i]? = some n.cells := by rw [List.getElem?_map, hn]; rfl
   have hw : IntKind.i64.wrap ((i : Int) + 1) = (i : Int) + 1 := q0f (by omega) (by omega)
   have hmem := List.mem_of_getElem? hn
   have hNd := node_told s n (hs n hmem) fun h13 k hk => hki n hmem k (by rw [q1e, if_neg (by omega), if_neg (by omega), if_pos h13]; exact hk)
   have hNm := j2g n.kind
   have hW := z6z s hl hs (fun m hm h9 f hf => hki m hm f.type (by rw [q1e, if_pos h9]; exact List.mem_map.2 ⟨f, hf, rfl⟩)) (s.nodes.length + 1) i kn hlt hk hko (by have := List.count_le_length (a := (0 : Int)) (l := kn); omega)
   obtain ⟨w1, w2, w3, w4, w5⟩ := j7f s.nodes (s.nodes.length + 1) i kn hk hko
   rw [(List.drop_eq_getElem_cons hlt).trans (by rw [(List.getElem?_eq_some_iff.1 hn).2]), q4a] at hR
   obtain ⟨M, hM⟩ : ∃ M, M = q2v s.nodes (s.nodes.length + 1) i kn := ⟨_, rfl⟩
   rw [← hM] at hW hR w1 w2 w3 w4 w5
   clear hM
   simp only [ST.av_eq, q0i, NT.av_eq, q0d, List.map_cons, List.map_nil] at hNd hW
   have hkl2 : (rA iPV M.2).length = s.nodes.length := by rw [q0x, w1]
   have hnl : (rA sPV (q1u (s.nodes.take i))).length = (q1u (s.nodes.take i)).length := q0x _ _
   have hnt := j9o hn
   have hni := hnm i
   cases hnn : q2h s.nodes n with
   | false =>
     rw [hnn] at hNd hR
     obtain rfl : R = false := hR.symm
     obtain rfl : V = false := hV
     refine q0c (And.intro hnp (And.intro @q0d hkl)) ?_
     refine q0j (hNd) ?_
     refine q0m ?_
     refine retX Tryz.results34 ?_
     exact .c _
   | true =>
     rw [hnn] at hNd hR
     rw [Bool.true_and] at hR
     refine q0c (And.intro hnp (And.intro @q0d hkl)) ?_
     refine q0j (hNd) ?_
     refine q0b ?_
     refine q01 (And.intro hkl @q31) [72] (hW) ?_
     refine q0b ?_
     refine VC.cond (by rfl) (by trivial) (fun hc2 => ?_) (fun hc2 => ?_)
     · have hf : V = false := by
        have : ¬ M.1 ≤ 1000 := by simp at hc2; omega
        rw [hV, ← hR]
        simp [this]
       subst hf
       refine q0b ?_
       refine retX Tryz.results34 ?_
       exact .c _
     have hm1 : M.1 ≤ 1000 := by simp at hc2; omega
     have hR2 : q4a s.nodes (s.nodes.drop (i + 1)) (i + 1) M.2 = R := by
      rw [← hR]
      simp [hm1]
     refine q0c (hkl2) ?_
     refine q0j (hNm) ?_
     refine q0b ?_
     refine VC.cond (by rfl) (by trivial) (fun hc3 => ?_) (fun hc3 => ?_)
     · rw [if_pos hc3] at hnt
       have hr : rA sPV (q1u (s.nodes.take i)) ++ [[.c (.v (.string (str n.name)))]] = rA sPV (q1u (s.nodes.take (i + 1))) := by
        rw [hnt]
        exact q7b sPV _ n.name
       have hl2 : (q1u (s.nodes.take (i + 1))).length = (q1u (s.nodes.take i)).length + 1 := by rw [hnt]; simp
       refine q0c (And.intro hnl (And.intro hr hw)) ?_
       refine .next ⟨(i + 1, M.2), by simp only []; omega, w1, w2, hR2⟩ ?_ (by simp only []; omega)
       refine q1j (And.intro @q0x (And.intro @q1l (And.intro @q31 (And.intro w1 hl2)))) ?_
       exact ⟨cI (by omega), Nat.le_refl _, Nat.le_refl _⟩
     · rw [if_neg (by rw [hc3]; simp), List.append_nil] at hnt
       refine q0c (hw) ?_
       refine .next ⟨(i + 1, M.2), by simp only []; omega, w1, w2, hR2⟩ ?_ (by simp only []; omega)
       refine q1j (And.intro @q0x (And.intro @q1l (And.intro @q31 (And.intro w1 hnt)))) ?_
       exact ⟨cI (by omega), Nat.le_refl _, Nat.le_refl _⟩
 · have hie : i = s.nodes.length := by simp at hc; omega
   have hf : R = true := by
    rw [← hR, hie, List.drop_length, q4a]
   subst hf
   rw [Bool.true_and] at hV
   have htk : s.nodes.take i = s.nodes := by rw [hie, List.take_length]
   rw [htk]
   have hnm0 := hnm i
   rw [htk] at hnm0
   have hD := j49 (g := 72) (rule := q3l) (q1u s.nodes) (by omega) fun x hx => j50 x (by have := names_sm hs x hx; omega)
   rw [← hV] at hD
   have hrl : (rA sPV (q1u s.nodes)).length = (q1u s.nodes).length := q0x _ _
   refine q0c (hrl) ?_
   (refine AO.step fun K hK => ?_; simp only [go_sem, Int.reduceBEq, Int.reduceLE, Int.reduceLT, Int.reduceNeg, Nat.reduceAdd, Nat.reduceEqDiff, Nat.reduceLT, Nat.reduceLeDiff, Nat.reduceMul, Nat.reduceSub, reduceCtorEq, ↓reduceIte, hrl]; (first | refine q1k ?_ | skip))
   refine .inr (.inl ⟨.c (.v (.bool V)), [.c (.sl 1 ((q1u s.nodes).map sPV)), .fn (.func 72) [] []], [120], ⟨by simp [AV.pureL, AV.pureB], rfl, fun k x z h5 h6 => ?_, rfl, hD⟩, hK _ _ _ ?_⟩)
   · match k with
     | 0 =>
       obtain rfl := Option.some.inj h5
       obtain rfl := Option.some.inj h6
       exact View.row (B := ⟨true, 9, 1, rA sPV (q1u s.nodes)⟩) (es := (q1u s.nodes).map sPV) rfl rfl hrl (q5j _ _)
     | 1 => obtain rfl := Option.some.inj h5; obtain rfl := Option.some.inj h6; exact .same _
     | k + 2 => simp at h5
   clear hK K
   refine q0b ?_
   refine retX Tryz.results34 ?_
   exact .c _

theorem z1j (s : ST) (hs : s.sm 1000000) (v : VT) (hv : v.sm 1000000) (a : Int) : Told Tryz.prog 32 [s.av, .c (.v (.int .i64 a)), v.av] (.c (.v (.bool (conM s a v (q1s s))))) := by
 obtain ⟨V, hV⟩ : ∃ V, V = conM s a v (q1s s) := ⟨_, rfl⟩
 rw [← hV]
 unfold conM at hV
 have hR := z0s s hs
 have hki := fun h : q1s s = true => q8d (j1t h)
 generalize q1s s = r at hR hV hki
 by_cases h1 : 0 ≤ a
 · have e1 : decide (a ≥ 0) = true := by simpa using h1
   rw [show decide (0 ≤ a) = true from e1, Bool.true_and] at hV
   by_cases h2 : a < (s.nodes.length : Int)
   · have e2 : decide (a < (s.nodes.length : Int)) = true := by simpa using h2
     rw [e2, Bool.true_and] at hV
     cases r with
     | false =>
       obtain rfl : V = false := hV
       simp only [ST.av_eq, q0i, List.map_cons, List.map_nil] at hR
       rw [VT.av_eq, ST.av_eq, q0i]
       refine VC.toldP j3l Tryz.func32 rfl Tryz.ntmps32 fun hb => ?_
       clear hb
       refine q0c (And.intro e1 e2) ?_
       refine q0j (hR) ?_
       refine q0b ?_
       refine retX Tryz.results32 ?_
       exact .c _
     | true =>
       have hC := z24 s (hki rfl) _ v (Nat.le_refl _) hv a h1 h2
       obtain rfl : V = isM s.nodes a v := hV
       generalize isM s.nodes a v = B at hC ⊢
       simp only [ST.av_eq, q0i, List.map_cons, List.map_nil] at hR hC
       rw [VT.av_eq] at hC ⊢
       rw [ST.av_eq, q0i]
       refine VC.toldP j3l Tryz.func32 rfl Tryz.ntmps32 fun hb => ?_
       clear hb
       refine q0c (And.intro e1 e2) ?_
       refine q0j (hR) ?_
       refine q0c (And.intro @q1b (And.intro @q1n @q1i)) ?_
       refine q06 (@q02) (hC) ?_
       refine q0b ?_
       refine retX Tryz.results32 ?_
       exact .c _
   · have e2 : decide (a < (s.nodes.length : Int)) = false := by simpa using h2
     rw [e2] at hV
     obtain rfl : V = false := hV
     rw [VT.av_eq, ST.av_eq, q0i]
     refine VC.toldP j3l Tryz.func32 rfl Tryz.ntmps32 fun hb => ?_
     clear hb
     refine q0c (And.intro e1 e2) ?_
     refine retX Tryz.results32 ?_
     exact .c _
 · have e1 : decide (a ≥ 0) = false := by simpa using h1
   rw [show decide (0 ≤ a) = false from e1] at hV
   obtain rfl : V = false := hV
   rw [VT.av_eq, ST.av_eq, q0i]
   refine VC.toldP j3l Tryz.func32 rfl Tryz.ntmps32 fun hb => ?_
   clear hb
   refine q0c (e1) ?_
   refine retX Tryz.results32 ?_
   exact .c _

theorem j06 {s : ST} (h : q1s s = true) : ∀ n ∈ s.nodes, q2h s.nodes n = true := by
 have key : ∀ (r : List NT) (p : Nat) (kn : List Int), q4a s.nodes r p kn = true → ∀ n ∈ r, q2h s.nodes n = true := by
  intro r
  induction r with
  | nil => simp
  | cons x xs ih =>
    intro p kn hr n hn
    rw [q4a] at hr
    simp only [Bool.and_eq_true] at hr
    rcases List.mem_cons.1 hn with rfl | hn
    · exact hr.1
    · exact ih _ _ hr.2.2 n hn
 unfold q1s at h
 simp only [Bool.and_eq_true] at h
 exact key _ _ _ h.2.1
theorem item_in {s : ST} (h : q1s s = true) {a : Int} {nd : NT} (hn : s.nodes[a.toNat]? = some nd) {k n b : Int} {t : List UInt8} {xs : List VT} {ks : List (List UInt8)} (hv : isM s.nodes a (.mk k n b t xs ks) = true) {i : Nat} {x : VT} (hx : xs[i]? = some x) :
  isM s.nodes (q08 nd n i) x = true ∧ 0 ≤ q08 nd n i ∧ q08 nd n i < (s.nodes.length : Int) ∧ k = nd.kind ∧
   ((nd.kind = 9 ∧ (q1e nd)[i]? = some (q08 nd n i)) ∨ (nd.kind = 13 ∧ 0 ≤ n ∧ n < ((q1e nd).length : Int) ∧ (q1e nd)[n.toNat]? = some (q08 nd n i)) ∨ (nd.kind ≠ 9 ∧ nd.kind ≠ 13 ∧ q1e nd = [q08 nd n i])) := by
 rw [q67 hn, Bool.and_eq_true] at hv
 obtain ⟨hh, he⟩ := hv
 have hI := (j3d s.nodes _ xs).1 he i x hx
 have hlt : i < xs.length := (List.getElem?_eq_some_iff.1 hx).1
 have hk := q8d (j1t h) nd (List.mem_of_getElem? hn)
 unfold q3a at hh
 simp only [Bool.and_eq_true, beq_iff_eq] at hh
 obtain ⟨⟨hkk, hvb, _⟩, hrest⟩ := hh
 have hmem : ∀ c : Int, c ∈ q1e nd → 0 ≤ c ∧ c < (s.nodes.length : Int) := hk
 by_cases h9 : nd.kind = 9
 · rw [hkk, h9, if_neg (by decide), if_neg (by decide), if_neg (by decide), if_neg (by decide), if_neg (by decide), if_neg (by decide), if_pos rfl] at hrest
   simp only [Bool.and_eq_true, beq_iff_eq] at hrest
   have hfl : i < nd.fields.length := by rw [← hrest.1]; exact hlt
   have hat : (q1e nd)[i]? = some (q08 nd n i) := by
    rw [q1e, if_pos h9, q08, if_pos h9, q2u, List.getElem?_map, List.getElem?_eq_getElem hfl]
    rfl
   have := hmem _ (List.mem_of_getElem? hat)
   exact ⟨hI, this.1, this.2, hkk, .inl ⟨h9, hat⟩⟩
 by_cases h13 : nd.kind = 13
 · rw [hkk, h13, if_neg (by decide), if_neg (by decide), if_neg (by decide), if_neg (by decide), if_neg (by decide), if_neg (by decide), if_neg (by decide), if_neg (by decide), if_neg (by decide), if_pos rfl] at hrest
   simp only [Bool.and_eq_true, beq_iff_eq, decide_eq_true_eq] at hrest
   have hkd : q1e nd = nd.branches := by
    unfold q1e
    rw [if_neg h9, if_neg (by omega), if_pos h13]
   have hbl : n.toNat < nd.branches.length := by omega
   have hat : (q1e nd)[n.toNat]? = some (q08 nd n i) := by
    rw [hkd, q08, if_neg h9, if_pos h13, q2x, List.getElem?_eq_getElem hbl]
   have := hmem _ (List.mem_of_getElem? hat)
   exact ⟨hI, this.1, this.2, hkk, .inr (.inl ⟨h13, hrest.1, by rw [hkd]; exact hrest.2.1, hat⟩)⟩
 · have h1112 : nd.kind = 11 ∨ nd.kind = 12 := by
    by_cases h11 : nd.kind = 11
    · exact .inl h11
    · by_cases h12 : nd.kind = 12
      · exact .inr h12
      · have := q6z hvb (by omega) (by omega) (by omega) (by omega)
        omega
   have hkd : q1e nd = [q08 nd n i] := by
    unfold q1e
    rw [if_neg h9, if_pos h1112, q08, if_neg h9, if_neg h13]
   have := hmem _ (by rw [hkd]; simp : q08 nd n i ∈ q1e nd)
   exact ⟨hI, this.1, this.2, hkk, .inr (.inr ⟨h9, h13, hkd⟩)⟩
end
end Go.Proofs.YtepneflbhpidbaaGreatDoor
