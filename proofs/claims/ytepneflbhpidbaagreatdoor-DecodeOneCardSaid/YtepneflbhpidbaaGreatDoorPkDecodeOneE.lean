/- Texts that lead to the law DecodeOne, joined. -/
import Derived.Test.YtepneflbhpidbaaGreatDoorPkDecodeOneC
import Derived.Test.YtepneflbhpidbaaGreatDoorPkDecodeOneD
import Derived.Test.YtepneflbhpidbaaGreatDoorPkDecodeOneA
import Derived.Test.YtepneflbhpidbaaGreatDoorPkDecodeOneXAbB
namespace Go.Proofs.YtepneflbhpidbaaGreatDoor
set_option maxRecDepth 100000
set_option maxHeartbeats 6400000
open Go.RowKit
set_option linter.unusedVariables false
set_option linter.unusedSimpArgs false
section
attribute [local go_sem] opx opE ev okx q5h bnd okO AV.get AV.okb cAV q6y q8g q8f j0t j0s q79 q78 st q7s q5r q7u q7v q7t binV binI binS q42 q5o q5i q5p unV q6h q4h q3v q04 q2j Blkd.len setE grown q1r q45 q3w q4o pv q4j q30 q39 AV.cellish AV.pureL AV.pureB q77 q71 AV.ren AV.renL q8i Blkd.ren rho wrM renN q3t rhoE q4s q44 q7f q4y q6v q51 j0h j0i j0l q5l q8o q8w q8x q8z q83 q9a q9b q9f q9l q9n q9p q7g q9q q7h q50 q7i q7j j0b q6t q7k j0c q6e j0d q6u j0e q6f q7l j0f q7m j0g j0j j0k j0m j0n j0o j0p j0q q8p q8q q8r q8s q8t q8u q8v q8y q80 q81 q82 q84 q85 q86 q87 q88 q89 q9c q9d q9e q9g q9h q9i q9j q9k q9m q9o q9r q9s q9t q9u q9v q9w q9x q9y q9z q90 q91 q92 q93 q94 q95 q96 q97 q98 q99 j0a Option.map_some Option.map_none Option.getD_some Option.getD_none Option.bind_some Option.bind_none List.getElem?_cons_zero List.getElem?_cons_succ List.getElem?_nil List.getElem?_toArray List.length_cons List.length_nil List.length_map List.forall_mem_map List.map_cons List.map_nil List.drop_zero List.drop_succ_cons List.drop_nil List.take_zero List.take_succ_cons List.take_nil List.mem_cons List.not_mem_nil or_false forall_eq_or_imp forall_eq List.set_cons_zero List.set_cons_succ List.cons_append List.nil_append List.append_nil List.foldl_cons List.foldl_nil List.replicate_succ List.replicate_zero List.all_cons List.all_nil if_true if_false Bool.false_eq_true ne_eq not_false_eq_true not_true_eq_false true_and and_true and_self true_implies imp_self implies_true forall_const beq_self_eq_true Bool.and_true Bool.true_and Bool.and_false Bool.false_and Bool.or_true Bool.true_or Bool.or_false Bool.false_or Bool.not_true Bool.not_false Bool.not_eq_eq_eq_not q6a Value.oneCell' Int.toNat_natCast beq_true beq_false Bool.not_eq_true false_implies false_or true_or or_true Nat.zero_add Nat.add_zero decide_true decide_false Int.cast_ofNat_Int Int.toNat_zero Int.toNat_one eq_self

theorem z5z {l : List (List UInt8)} {i n : Nat} {y : List UInt8} (hy : l[i]? = some y) (hn : n ≤ 2500) : q49 n (l.drop i) = if 2500 < y.length then 2501 else q49 (n + y.length) (l.drop (i + 1)) := by
 obtain ⟨hlt, rfl⟩ := List.getElem?_eq_some_iff.1 hy
 rw [List.drop_eq_getElem_cons hlt, q49, if_pos hn]
theorem z5y {l : List (List UInt8)} {i n : Nat} (h : ¬ (i < l.length ∧ n ≤ 2500)) : q49 n (l.drop i) = n := by
 by_cases hlt : i < l.length
 · rw [List.drop_eq_getElem_cons hlt, q49, if_neg (by omega)]
 · rw [List.drop_of_length_le (by omega), q49]
theorem j6z (l : List (List UInt8)) : Told Tryz.prog 65 [.c (.sl 1 (l.map sPV)), .c (.v (.int .i64 2500))] (.c (.v (.int .i64 (q4m l)))) := by
 obtain ⟨V, hV⟩ : ∃ V, V = q4m l := ⟨_, rfl⟩
 rw [← hV]
 unfold q4m at hV
 have hw21 : IntKind.i64.wrap (2500 + 1) = 2501 := by rfl
 refine VC.toldP ent_65 Tryz.func65 rfl Tryz.ntmps65 fun hb => ?_
 clear hb
 refine q0b ?_
 refine VC.cond (by rfl) (by trivial) (fun hc => ?_) (fun hc => ?_)
 · have hcc : 2500 < l.length := by simp at hc; omega
   rw [if_pos hcc] at hV
   subst hV
   refine q0c (hw21) ?_
   refine retX Tryz.results65 ?_
   exact .c _
 have hcc : ¬ 2500 < l.length := by simp at hc; omega
 rw [if_neg hcc] at hV
 clear hc
 refine q0b ?_
 refine VC.loop (ι := {x : Nat × Nat // x.1 ≤ l.length ∧ x.2 ≤ 5000 ∧ q49 x.2 (l.drop x.1) = V}) (fun q => [(0, .c (.sl 1 (l.map sPV))), (1, .c (.v (.int .i64 2500))), (5, .c (.v (.int .i64 (q.1.2 : Int)))), (6, .c (.v (.int .i64 (q.1.1 : Int))))]) (fun _ => []) 800 (fun q => l.length - q.1.1)
  ⟨(0, l.length), Nat.zero_le _, by simp only []; omega, by rw [List.drop_zero]; exact hV.symm⟩ ?_ ?_
 · exact q2z
 clear hV
 rintro ⟨⟨i, n⟩, hi, hn, hV⟩
 simp only [] at hi hn hV ⊢
 refine q0b ?_
 refine VC.cond (by rfl) (by trivial) (fun hc => ?_) (fun hc => ?_)
 · have hcc : i < l.length ∧ n ≤ 2500 := by simp at hc; omega
   clear hc
   obtain ⟨y, hy⟩ : ∃ y, l[i]? = some y := ⟨l[i], List.getElem?_eq_getElem hcc.1⟩
   have hyp : (l.map sPV)[i]? = some (sPV y) := by rw [List.getElem?_map, hy]; rfl
   rw [z5z hy hcc.2] at hV
   have hw : IntKind.i64.wrap ((i : Int) + 1) = (i : Int) + 1 := q0f (by omega) (by omega)
   refine q0c (And.intro hyp (And.intro @q4c @q2a)) ?_
   refine VC.cond (by rfl) (by trivial) (fun hc2 => ?_) (fun hc2 => ?_)
   · rw [if_pos (by simp at hc2; omega)] at hV
     subst hV
     refine q0c (hw21) ?_
     refine retX Tryz.results65 ?_
     exact .c _
   · have hyl : y.length ≤ 2500 := by simp at hc2; omega
     rw [if_neg (by omega)] at hV
     have hw2 : IntKind.i64.wrap ((n : Int) + (y.length : Int)) = ((n + y.length : Nat) : Int) := by rw [q0f (by omega) (by omega)]; rfl
     refine q0c (And.intro hyp (And.intro @q4c (And.intro @q2a (And.intro hw hw2)))) ?_
     refine .next ⟨(i + 1, n + y.length), by simp only []; omega, by simp only []; omega, hV⟩ ?_ (by simp only []; omega)
     simp only [Weak, eq_self, q0v, q0p, sc_c, q0r, q0s, q0t, q0o, q0q, ScL, q0u, List.forall_mem_map, go_sem, Int.reduceBEq, Int.reduceLE, Int.reduceLT, Int.reduceNeg, Nat.reduceAdd, Nat.reduceEqDiff, Nat.reduceLT, Nat.reduceLeDiff, Nat.reduceMul, Nat.reduceSub, reduceCtorEq, ↓reduceIte]
     try exact cI (by omega)
 · have hcc : ¬ (i < l.length ∧ n ≤ 2500) := by simp at hc; omega
   rw [z5y hcc] at hV
   subst hV
   refine q0b ?_
   refine retX Tryz.results65 ?_
   exact .c _
theorem z33 {l : List FT} {i n : Nat} {f : FT} (hf : l[i]? = some f) (hn : n ≤ 2500) : q3r n (l.drop i) = if 2500 < f.name.length then none else q3r (n + f.name.length + q4m f.aliases + q3o 0 f.dflt) (l.drop (i + 1)) := by
 obtain ⟨hlt, rfl⟩ := List.getElem?_eq_some_iff.1 hf
 rw [List.drop_eq_getElem_cons hlt, q3r, if_pos hn]
theorem z32 {l : List FT} {i n : Nat} (h : ¬ (i < l.length ∧ n ≤ 2500)) : q3r n (l.drop i) = some n := by
 by_cases hlt : i < l.length
 · rw [List.drop_eq_getElem_cons hlt, q3r, if_neg (by omega)]
 · rw [List.drop_of_length_le (by omega), q3r]
theorem z4e {l : List NT} {i n : Nat} (h : ¬ (i < l.length ∧ n ≤ 2500)) : q46 n (l.drop i) = n := by
 by_cases hlt : i < l.length
 · rw [List.drop_eq_getElem_cons hlt, q46, if_neg (by omega)]
 · rw [List.drop_of_length_le (by omega), q46]
theorem z4f {l : List NT} {i n : Nat} {x : NT} (hx : l[i]? = some x) (hn : n ≤ 2500) : q46 n (l.drop i) = if 2500 < x.name.length ∨ 2500 < x.fields.length ∨ 2500 < x.branches.length ∨ 2500 < x.dflt.length then 2501 else
   match q3r (n + x.name.length + x.fields.length + x.branches.length + x.dflt.length + q4m x.aliases + q4m x.symbols) x.fields with | none => 2501 | some m => q46 m (l.drop (i + 1)) := by
 obtain ⟨hlt, rfl⟩ := List.getElem?_eq_some_iff.1 hx
 rw [List.drop_eq_getElem_cons hlt, q46, if_pos hn]
 generalize q3r _ _ = F
 cases F <;> rfl
theorem z5t (s : ST) : Told Tryz.prog 33 [s.av, .c (.v (.int .i64 2500))] (.c (.v (.int .i64 (q6d s)))) := by
 obtain ⟨V, hV⟩ : ∃ V, V = q6d s := ⟨_, rfl⟩
 rw [← hV]
 unfold q6d at hV
 have hw21 : IntKind.i64.wrap (2500 + 1) = 2501 := by rfl
 rw [ST.av_eq, q0i]
 refine VC.toldP ent_33 Tryz.func33 rfl Tryz.ntmps33 fun hb => ?_
 clear hb
 refine q0b ?_
 refine VC.cond (by rfl) (by trivial) (fun hc => ?_) (fun hc => ?_)
 · have hcc : 2500 < s.nodes.length := by simp at hc; omega
   rw [if_pos hcc] at hV
   subst hV
   refine q0c (hw21) ?_
   refine retX Tryz.results33 ?_
   exact .c _
 have hcc : ¬ 2500 < s.nodes.length := by simp at hc; omega
 rw [if_neg hcc] at hV
 clear hc
 refine q0b ?_
 refine VC.loop (ι := {x : Nat × Nat // x.1 ≤ s.nodes.length ∧ x.2 ≤ 300000 ∧ q46 x.2 (s.nodes.drop x.1) = V}) (fun q => [(1, .c (.v (.int .i64 2500))), (2, .ref 0 1 0 0), (5, .c (.v (.int .i64 (q.1.2 : Int)))), (6, .c (.v (.int .i64 (q.1.1 : Int))))])
  (fun q => [(0, ⟨false, 24, 2, [[.c (.sl 10 (s.nodes.map NT.cells)), .c (.v (.int .i64 s.root))]]⟩)]) 800 (fun q => s.nodes.length - q.1.1)
  ⟨(0, s.nodes.length), Nat.zero_le _, by simp only []; omega, by rw [List.drop_zero]; exact hV.symm⟩ ?_ ?_
 · exact q2z
 clear hV
 rintro ⟨⟨i, b⟩, hi, hb, hV⟩
 simp only [] at hi hb hV ⊢
 refine q0b ?_
 refine VC.cond (by rfl) (by trivial) (fun hc => ?_) (fun hc => ?_)
 · have hcc2 : i < s.nodes.length ∧ b ≤ 2500 := by simp at hc; omega
   clear hc
   obtain ⟨x, hx⟩ : ∃ x, s.nodes[i]? = some x := ⟨s.nodes[i], List.getElem?_eq_getElem hcc2.1⟩
   have hxp : (s.nodes.map NT.cells)[i]? = some x.cells := by rw [List.getElem?_map, hx]; rfl
   rw [z4f hx hcc2.2] at hV
   have hw : IntKind.i64.wrap ((i : Int) + 1) = (i : Int) + 1 := q0f (by omega) (by omega)
   refine q0c (And.intro hxp (And.intro @q0d @q2a)) ?_
   refine VC.cond (by rfl) (by trivial) (fun hc2 => ?_) (fun hc2 => ?_)
   · rw [if_pos (by simp at hc2; omega)] at hV
     subst hV
     refine q0c (hw21) ?_
     refine retX Tryz.results33 ?_
     exact .c _
   have hsm : ¬ (2500 < x.name.length ∨ 2500 < x.fields.length ∨ 2500 < x.branches.length ∨ 2500 < x.dflt.length) := by simp at hc2; omega
   rw [if_neg hsm] at hV
   clear hc2
   have hT1 := j6z x.aliases
   have hT2 := j6z x.symbols
   have ht1 := j4j x.aliases
   have ht2 := j4j x.symbols
   generalize q4m x.aliases = t1 at hT1 ht1 hV
   generalize q4m x.symbols = t2 at hT2 ht2 hV
   have w1 : IntKind.i64.wrap ((b : Int) + (x.name.length : Int)) = (b : Int) + (x.name.length : Int) := q0f (by omega) (by omega)
   have w2 : IntKind.i64.wrap ((b : Int) + (x.name.length : Int) + (x.fields.length : Int)) = (b : Int) + (x.name.length : Int) + (x.fields.length : Int) := q0f (by omega) (by omega)
   have w3 : IntKind.i64.wrap ((b : Int) + (x.name.length : Int) + (x.fields.length : Int) + (x.branches.length : Int)) = (b : Int) + (x.name.length : Int) + (x.fields.length : Int) + (x.branches.length : Int) := q0f (by omega) (by omega)
   have w4 : IntKind.i64.wrap ((b : Int) + (x.name.length : Int) + (x.fields.length : Int) + (x.branches.length : Int) + (x.dflt.length : Int)) = (b : Int) + (x.name.length : Int) + (x.fields.length : Int) + (x.branches.length : Int) + (x.dflt.length : Int) := q0f (by omega) (by omega)
   have w5 : IntKind.i64.wrap ((b : Int) + (x.name.length : Int) + (x.fields.length : Int) + (x.branches.length : Int) + (x.dflt.length : Int) + (t1 : Int)) = (b : Int) + (x.name.length : Int) + (x.fields.length : Int) + (x.branches.length : Int) + (x.dflt.length : Int) + (t1 : Int) := q0f (by omega) (by omega)
   have w6 : IntKind.i64.wrap ((b : Int) + (x.name.length : Int) + (x.fields.length : Int) + (x.branches.length : Int) + (x.dflt.length : Int) + (t1 : Int) + (t2 : Int)) = ((b + x.name.length + x.fields.length + x.branches.length + x.dflt.length + t1 + t2 : Nat) : Int) := by rw [q0f (by omega) (by omega)]; rfl
   obtain ⟨b0, hb0⟩ : ∃ b0, b0 = b + x.name.length + x.fields.length + x.branches.length + x.dflt.length + t1 + t2 := ⟨_, rfl⟩
   have hb0l : b0 ≤ 30000 := by omega
   rw [← hb0] at hV w6
   clear hb0
   refine q0c (And.intro @q2a (And.intro w1 (And.intro w2 (And.intro w3 (And.intro w4 (And.intro w5 w6)))))) ?_
   refine q0j (hT1) ?_
   refine q0c (w5) ?_
   refine q0j (hT2) ?_
   refine q0c (w6) ?_
   clear hT1 hT2 w1 w2 w3 w4 w5 w6 ht1 ht2
   obtain ⟨F, hF⟩ : ∃ F, F = q3r b0 x.fields := ⟨_, rfl⟩
   rw [← hF] at hV
   have hFl : ∀ m, F = some m → m ≤ 300000 := fun m hm => j8x x.fields b0 m (by omega) (hF ▸ hm)
   refine VC.loop (ι := {y : Nat × Nat // y.1 ≤ x.fields.length ∧ y.2 ≤ 300000 ∧ q3r y.2 (x.fields.drop y.1) = F})
    (fun q => [(1, .c (.v (.int .i64 2500))), (2, .ref 0 1 0 0), (5, .c (.v (.int .i64 (q.1.2 : Int)))), (6, .c (.v (.int .i64 (i : Int)))), (7, .ref 920 1 0 0), (8, .c (.v (.int .i64 (q.1.1 : Int))))])
    (fun q => [(0, ⟨false, 24, 2, [[.c (.sl 10 (s.nodes.map NT.cells)), .c (.v (.int .i64 s.root))]]⟩), (920, ⟨false, 33, 10, [x.cells.map .c]⟩)]) 4000 (fun q => x.fields.length - q.1.1)
    ⟨(0, b0), Nat.zero_le _, by simp only []; omega, by rw [List.drop_zero]; exact hF.symm⟩ ?_ ?_
   · exact q2f (@q0d)
   clear hF
   rintro ⟨⟨k, c⟩, hk, hc, hF⟩
   simp only [] at hk hc hF ⊢
   refine q0c (@q0d) ?_
   refine VC.cond (by rfl) (by trivial) (fun hc2 => ?_) (fun hc2 => ?_)
   · have hcc3 : k < x.fields.length ∧ c ≤ 2500 := by simp at hc2; omega
     clear hc2
     obtain ⟨f, hf⟩ : ∃ f, x.fields[k]? = some f := ⟨x.fields[k], List.getElem?_eq_getElem hcc3.1⟩
     have hfp : (x.fields.map FT.cells)[k]? = some f.cells := by rw [List.getElem?_map, hf]; rfl
     rw [z33 hf hcc3.2] at hF
     have hwk : IntKind.i64.wrap ((k : Int) + 1) = (k : Int) + 1 := q0f (by omega) (by omega)
     refine q0c (And.intro @q0d (And.intro hfp (And.intro @q3h @q2a))) ?_
     refine VC.cond (by rfl) (by trivial) (fun hc2 => ?_) (fun hc2 => ?_)
     · rw [if_pos (by simp at hc2; omega)] at hF
       subst hF
       simp only [] at hV
       subst hV
       refine q0c (hw21) ?_
       refine retX Tryz.results33 ?_
       exact .c _
     have hnl : f.name.length ≤ 2500 := by simp at hc2; omega
     rw [if_neg (by omega)] at hF
     clear hc2
     have hT := j6z f.aliases
     have ht := j4j f.aliases
     have hB := z2w _ f.dflt (Nat.le_refl _) 0 0 (by omega) rfl
     have hbt := z02 f.dflt
     generalize q4m f.aliases = t at hT ht hF
     generalize q3o 0 f.dflt = u at hB hbt hF
     simp only [JT.av_eq] at hB
     have w1 : IntKind.i64.wrap ((c : Int) + (f.name.length : Int)) = (c : Int) + (f.name.length : Int) := q0f (by omega) (by omega)
     have w2 : IntKind.i64.wrap ((c : Int) + (f.name.length : Int) + (t : Int)) = (c : Int) + (f.name.length : Int) + (t : Int) := q0f (by omega) (by omega)
     have w3 : IntKind.i64.wrap ((c : Int) + (f.name.length : Int) + (t : Int) + (u : Int)) = ((c + f.name.length + t + u : Nat) : Int) := by rw [q0f (by omega) (by omega)]; rfl
     refine q0c (And.intro @q0d (And.intro hfp (And.intro @q3h (And.intro @q2a w1)))) ?_
     refine q0j (hT) ?_
     refine q0c (And.intro @q0d (And.intro hfp (And.intro @q3h (And.intro w2 (And.intro @q1z (And.intro @q18 @q19)))))) ?_
     refine q06 (@q02) (hB) ?_
     refine q0c (And.intro w3 hwk) ?_
     refine .next ⟨(k + 1, c + f.name.length + t + u), by simp only []; omega, by simp only []; omega, hF⟩ ?_ (by simp only []; omega)
     simp only [q0d, Weak, eq_self, q0v, q0p, sc_c, q0r, q0s, q0t, q0o, q0q, ScL, q0u, List.forall_mem_map, go_sem, Int.reduceBEq, Int.reduceLE, Int.reduceLT, Int.reduceNeg, Nat.reduceAdd, Nat.reduceEqDiff, Nat.reduceLT, Nat.reduceLeDiff, Nat.reduceMul, Nat.reduceSub, reduceCtorEq, ↓reduceIte]
     try exact cI (by omega)
   · have hcc3 : ¬ (k < x.fields.length ∧ c ≤ 2500) := by simp at hc2; omega
     rw [z32 hcc3] at hF
     subst hF
     simp only [] at hV
     refine q0c (hw) ?_
     refine .next ⟨(i + 1, c), by simp only []; omega, hc, hV⟩ ?_ (by simp only []; omega)
     simp only [Weak, eq_self, q0v, q0p, sc_c, q0r, q0s, q0t, q0o, q0q, ScL, q0u, List.forall_mem_map, go_sem, Int.reduceBEq, Int.reduceLE, Int.reduceLT, Int.reduceNeg, Nat.reduceAdd, Nat.reduceEqDiff, Nat.reduceLT, Nat.reduceLeDiff, Nat.reduceMul, Nat.reduceSub, reduceCtorEq, ↓reduceIte]
     try exact cI (by omega)
 · have hcc2 : ¬ (i < s.nodes.length ∧ b ≤ 2500) := by simp at hc; omega
   rw [z4e hcc2] at hV
   subst hV
   refine q0b ?_
   refine retX Tryz.results33 ?_
   exact .c _
theorem z5u (s : ST) : Told Tryz.prog 8 [s.av] (.c (.v (.bool (decide (2500 < (q6d s : Int)))))) := by
 have hB := z5t s
 simp only [ST.av_eq, q0i, List.map_cons, List.map_nil] at hB
 rw [ST.av_eq, q0i]
 refine VC.toldP ent_8 Tryz.func8 rfl Tryz.ntmps8 fun hb => ?_
 clear hb
 refine q0b ?_
 refine q0j (hB) ?_
 refine q0b ?_
 refine retX Tryz.results8 ?_
 exact .c _

theorem dall_back {s : ST} {a : Int} {E : List UInt8} {v : VT} (h1 : 0 ≤ a) (h2 : a < (s.nodes.length : Int)) (h3 : q1s s = true) (hb : Back (decM s.nodes 20 a) E v) : q4i s a E = (v, 0) := by
 refine j46 h1 h2 h3 ?_
 have := hb [] []
 simpa using this

theorem rzag_told (u : Nat) (h : u < 18446744073709551616) : Told Tryz.prog 246 [.c (.v (.int .u64 (u : Int)))] (.c (.v (.int .i64 (zagN u)))) := by
 have hr : (u : Int).tmod 2 = ((u % 2 : Nat) : Int) := by rw [Int.tmod_eq_emod_of_nonneg (by omega)]; omega
 have hq : (u : Int).tdiv 2 = ((u / 2 : Nat) : Int) := by rw [Int.tdiv_eq_ediv_of_nonneg (by omega)]; omega
 have hw1 : IntKind.u64.wrap ((u % 2 : Nat) : Int) = ((u % 2 : Nat) : Int) := by rw [IntKind.wrap_u64]; omega
 have hw2 : IntKind.u64.wrap ((u / 2 : Nat) : Int) = ((u / 2 : Nat) : Int) := by rw [IntKind.wrap_u64]; omega
 have hw3 : IntKind.i64.wrap ((u / 2 : Nat) : Int) = ((u / 2 : Nat) : Int) := q0f (by omega) (by omega)
 have hw4 : IntKind.i64.wrap (0 - ((u / 2 : Nat) : Int)) = -((u / 2 : Nat) : Int) := by rw [q0f (by omega) (by omega)]; omega
 have hw5 : IntKind.i64.wrap (-((u / 2 : Nat) : Int) - 1) = -((u / 2 : Nat) : Int) - 1 := q0f (by omega) (by omega)
 unfold zagN
 by_cases h0 : u % 2 = 0
 · rw [if_pos h0]
   have e1 : (((u % 2 : Nat) : Int) == 0) = true := by rw [h0]; rfl
   refine VC.toldP ent_246 Tryz.func246 rfl Tryz.ntmps246 fun hb => ?_
   clear hb
   refine q0a (And.intro hr (And.intro hq (And.intro hw1 (And.intro hw2 (And.intro hw3 e1))))) ?_
   refine retX Tryz.results246 ?_
   exact .c _
 · rw [if_neg h0]
   have e1 : (((u % 2 : Nat) : Int) == 0) = false := by rw [show u % 2 = 1 by omega]; rfl
   refine VC.toldP ent_246 Tryz.func246 rfl Tryz.ntmps246 fun hb => ?_
   clear hb
   refine q0a (And.intro hr (And.intro hq (And.intro hw1 (And.intro hw2 (And.intro hw3 (And.intro hw4 (And.intro hw5 e1))))))) ?_
   refine retX Tryz.results246 ?_
   exact .c _
theorem zag_range {u : Nat} (h : u < 18446744073709551616) : -9223372036854775808 ≤ zagN u ∧ zagN u ≤ 9223372036854775807 := by
 unfold zagN
 split <;> omega
def lead : List UInt8 → Nat → Nat
 | c :: cs, k + 1 => if 128 ≤ c.toNat then lead cs k + 1 else 0
 | _, _ => 0
theorem j3v : ∀ (l : List UInt8) (k : Nat), lead l k ≤ l.length ∧ lead l k ≤ k
 | [], k => by cases k <;> simp [lead]
 | c :: cs, 0 => by simp [lead]
 | c :: cs, k + 1 => by
   have := j3v cs k
   rw [lead]
   split
   · rw [List.length_cons]; omega
   · simp
theorem j3w {l : List UInt8} {k n : Nat} (h : lead l k = n + 1) : ∃ c cs k', l = c :: cs ∧ k = k' + 1 ∧ 128 ≤ c.toNat ∧ lead cs k' = n := by
 cases l with
 | nil => cases k <;> simp [lead] at h
 | cons c cs =>
   cases k with
   | zero => simp [lead] at h
   | succ k =>
     rw [lead] at h
     split at h
     · rename_i hc
       exact ⟨c, cs, k, rfl, rfl, hc, by omega⟩
     · simp at h
theorem lead_end {l : List UInt8} {k : Nat} {c : UInt8} {cs : List UInt8} (h : lead l k = 0) (hl : l = c :: cs) (hk : 0 < k) : ¬ 128 ≤ c.toNat := by
 subst hl
 obtain ⟨k, rfl⟩ : ∃ k', k = k' + 1 := ⟨k - 1, by omega⟩
 rw [lead] at h
 split at h
 · simp at h
 · assumption
def q1q (l : List UInt8) (N : Nat) (u0 : Nat) : Nat → Nat
 | 0 => u0
 | j + 1 => (q1q l N u0 j * 128 + ((l[N - 1 - j]?).getD 0).toNat % 128) % 18446744073709551616
theorem foldU_lt (l : List UInt8) (N : Nat) (u0 : Nat) (h : u0 < 18446744073709551616) : ∀ j, q1q l N u0 j < 18446744073709551616
 | 0 => h
 | j + 1 => by rw [q1q]; exact Nat.mod_lt _ (by decide)
theorem z4k (most last : Nat) (hm : 0 < most) (hm2 : most ≤ 1000) (B : List UInt8) (hB : B.length ≤ 1000000) (p : Nat) (hp : p ≤ B.length) : ∃ (n : Int) (q : Nat) (e : Int), p ≤ q ∧ q ≤ B.length ∧ (e = 0 → p < q) ∧ (e ≠ 0 → q = p ∧ n = 0) ∧ (-9223372036854775808 ≤ n ∧ n ≤ 9223372036854775807) ∧
  Told Tryz.prog 238 [.c (.sl 1 (q0e B)), .c (.v (.int .i64 (p : Int))), .c (.v (.int .i64 (most : Int))), .c (.v (.int .u8 (last : Int)))] (.tup [.c (.v (.int .i64 n)), .c (.v (.int .i64 (q : Int))), .c (.v (.int .i64 e))]) := by
 have hbl := q5f B
 have e1 : decide ((p : Int) < 0) = false := by simp
 have e2 : decide ((p : Int) > (B.length : Int)) = false := by simp; omega
 have hwm : IntKind.i64.wrap ((most : Int) - 1) = ((most - 1 : Nat) : Int) := by rw [q0f (by omega) (by omega)]; omega
 obtain ⟨D, hD⟩ : ∃ D, D = B.drop p := ⟨_, rfl⟩
 have hDl : D.length + p = B.length := by rw [hD, List.length_drop]; omega
 have hDg : ∀ i : Nat, B[p + i]? = D[i]? := fun i => by rw [hD, List.getElem?_drop]
 obtain ⟨N, hN⟩ : ∃ N, N = lead D (most - 1) := ⟨_, rfl⟩
 have hNl := j3v D (most - 1)
 rw [← hN] at hNl
 by_cases h1 : N = D.length
 · refine ⟨0, p, 10, Nat.le_refl _, hp, fun h => absurd h (by decide), fun _ => ⟨rfl, rfl⟩, by decide, ?_⟩
   refine VC.toldP j5p Tryz.func238 rfl Tryz.ntmps238 fun hb => ?_
   clear hb
   refine q0a (And.intro e1 (And.intro e2 hbl)) ?_
   refine VC.loop (ι := {i : Nat // i ≤ N ∧ lead (D.drop i) (most - 1 - i) = N - i}) (fun i => [(0, .c (.sl 1 (q0e B))), (1, .c (.v (.int .i64 (p : Int)))), (2, .c (.v (.int .i64 (most : Int)))), (3, .c (.v (.int .u8 (last : Int)))), (11, .c (.v (.int .i64 (i.1 : Int))))]) (fun _ => []) 800 (fun i => N - i.1) ⟨0, Nat.zero_le _, by rw [List.drop_zero, Nat.sub_zero, Nat.sub_zero, hN]⟩ ?_ ?_
   · exact q2z
   rintro ⟨i, hi, hli⟩
   simp only [] at hi hli ⊢
   have hw1 : IntKind.i64.wrap ((p : Int) + (i : Int)) = ((p + i : Nat) : Int) := by rw [q0f (by omega) (by omega)]; omega
   have hw2 : IntKind.i64.wrap ((i : Int) + 1) = ((i + 1 : Nat) : Int) := by rw [q0f (by omega) (by omega)]; omega
   by_cases hiN : i < N
   · obtain ⟨c, cs, k', h1, h2, h3, h4⟩ := j3w (n := N - i - 1) (by rw [hli]; omega)
     have hci : D[i]? = some c := by
      have h5 : (D.drop i)[0]? = some c := by rw [h1]; rfl
      rw [List.getElem?_drop] at h5
      simpa using h5
     have hcs : D.drop (i + 1) = cs := by
      have h5 : (D.drop i).drop 1 = cs := by rw [h1]; rfl
      rw [List.drop_drop] at h5
      exact h5
     have hcp : (q0e B)[p + i]? = some [.v (.int .u8 (c.toNat : Int))] := by unfold q0e; rw [List.getElem?_map, hDg, hci]; rfl
     have e3 : decide (((p + i : Nat) : Int) < (B.length : Int)) = true := by simp; omega
     have e4 : decide ((i : Int) < ((most - 1 : Nat) : Int)) = true := by simp; omega
     have e5 : decide ((c.toNat : Int) ≥ 128) = true := by simp; omega
     refine q0a (And.intro hbl (And.intro hw1 (And.intro hw2 (And.intro hwm (And.intro hcp (And.intro e3 (And.intro e4 e5))))))) ?_
     refine .next ⟨i + 1, hiN, ?_⟩ ?_ (by simp only []; omega)
     · rw [hcs, show most - 1 - (i + 1) = k' by omega, h4]
       omega
     · exact q2z
   obtain rfl : i = N := by omega
   rw [Nat.sub_self] at hli
   have e3 : decide (((p + i : Nat) : Int) < (B.length : Int)) = false := by simp; omega
   have e6 : (((p + i : Nat) : Int) == (B.length : Int)) = true := by simp; omega
   refine q0a (And.intro hbl (And.intro hw1 (And.intro hwm (And.intro e3 e6)))) ?_
   refine retX Tryz.results238 ?_
   exact ⟨.c _, .c _, .c _⟩
 obtain ⟨c, hc⟩ : ∃ c, D[N]? = some c := ⟨_, List.getElem?_eq_getElem (show N < D.length by omega)⟩
 have hc8 := c.toNat_lt
 have hend : N ≠ most - 1 → ¬ 128 ≤ c.toNat := fun hne => lead_end (l := D.drop N) (k := most - 1 - N) (cs := D.drop (N + 1)) (by
  have : ∀ (j : Nat) (l : List UInt8) (k : Nat), lead l k = j → lead (l.drop j) (k - j) = 0 := by
   intro j
   induction j with
   | zero => intro l k h; simpa using h
   | succ j ih =>
     intro l k h
     obtain ⟨c, cs, k', rfl, rfl, _, h4⟩ := j3w h
     have := ih cs k' h4
     rw [List.drop_succ_cons, show k' + 1 - (j + 1) = k' - j by omega]
     exact this
  exact this N D (most - 1) hN.symm) (by
   obtain ⟨h5, h6⟩ := List.getElem?_eq_some_iff.1 hc
   rw [← h6]
   exact List.drop_eq_getElem_cons h5) (by omega)
 by_cases hbad : (N = most - 1 ∧ last < c.toNat) ∨ (0 < N ∧ c.toNat = 0)
 · refine ⟨0, p, 11, Nat.le_refl _, hp, fun h => absurd h (by decide), fun _ => ⟨rfl, rfl⟩, by decide, ?_⟩
   refine VC.toldP j5p Tryz.func238 rfl Tryz.ntmps238 fun hb => ?_
   clear hb
   refine q0a (And.intro e1 (And.intro e2 hbl)) ?_
   refine VC.loop (ι := {i : Nat // i ≤ N ∧ lead (D.drop i) (most - 1 - i) = N - i}) (fun i => [(0, .c (.sl 1 (q0e B))), (1, .c (.v (.int .i64 (p : Int)))), (2, .c (.v (.int .i64 (most : Int)))), (3, .c (.v (.int .u8 (last : Int)))), (11, .c (.v (.int .i64 (i.1 : Int))))]) (fun _ => []) 800 (fun i => N - i.1) ⟨0, Nat.zero_le _, by rw [List.drop_zero, Nat.sub_zero, Nat.sub_zero, hN]⟩ ?_ ?_
   · exact q2z
   rintro ⟨i, hi, hli⟩
   simp only [] at hi hli ⊢
   have hw1 : IntKind.i64.wrap ((p : Int) + (i : Int)) = ((p + i : Nat) : Int) := by rw [q0f (by omega) (by omega)]; omega
   have hw2 : IntKind.i64.wrap ((i : Int) + 1) = ((i + 1 : Nat) : Int) := by rw [q0f (by omega) (by omega)]; omega
   by_cases hiN : i < N
   · obtain ⟨c, cs, k', h1, h2, h3, h4⟩ := j3w (n := N - i - 1) (by rw [hli]; omega)
     have hci : D[i]? = some c := by
      have h5 : (D.drop i)[0]? = some c := by rw [h1]; rfl
      rw [List.getElem?_drop] at h5
      simpa using h5
     have hcs : D.drop (i + 1) = cs := by
      have h5 : (D.drop i).drop 1 = cs := by rw [h1]; rfl
      rw [List.drop_drop] at h5
      exact h5
     have hcp : (q0e B)[p + i]? = some [.v (.int .u8 (c.toNat : Int))] := by unfold q0e; rw [List.getElem?_map, hDg, hci]; rfl
     have e3 : decide (((p + i : Nat) : Int) < (B.length : Int)) = true := by simp; omega
     have e4 : decide ((i : Int) < ((most - 1 : Nat) : Int)) = true := by simp; omega
     have e5 : decide ((c.toNat : Int) ≥ 128) = true := by simp; omega
     refine q0a (And.intro hbl (And.intro hw1 (And.intro hw2 (And.intro hwm (And.intro hcp (And.intro e3 (And.intro e4 e5))))))) ?_
     refine .next ⟨i + 1, hiN, ?_⟩ ?_ (by simp only []; omega)
     · rw [hcs, show most - 1 - (i + 1) = k' by omega, h4]
       omega
     · exact q2z
   obtain rfl : i = N := by omega
   rw [Nat.sub_self] at hli
   have hlt : i < D.length := by omega
   have hpi : p + i < B.length := by omega
   have e3 : decide (((p + i : Nat) : Int) < (B.length : Int)) = true := by simp; omega
   have hcp : (q0e B)[p + i]? = some [.v (.int .u8 (c.toNat : Int))] := by unfold q0e; rw [List.getElem?_map, hDg, hc]; rfl
   have e6 : (((p + i : Nat) : Int) == (B.length : Int)) = false := by simp; omega
   have f1 : ((i : Int) == ((most - 1 : Nat) : Int)) = decide (i = most - 1) := by rw [Bool.eq_iff_iff]; simp; omega
   have f2 : decide ((c.toNat : Int) > (last : Int)) = decide (last < c.toNat) := by simp
   have f3 : decide ((i : Int) > 0) = decide (0 < i) := by simp
   have f4 : ((c.toNat : Int) == 0) = decide (c.toNat = 0) := by rw [Bool.eq_iff_iff]; simp
   by_cases hm1 : i = most - 1
   · have e4 : decide ((i : Int) < ((most - 1 : Nat) : Int)) = false := by simp; omega
     rw [decide_eq_true hm1] at f1
     by_cases hl : last < c.toNat
     · rw [decide_eq_true hl] at f2
       refine q0a (And.intro hbl (And.intro hw1 (And.intro hwm (And.intro hcp (And.intro e3 (And.intro e4 (And.intro e6 (And.intro f1 f2)))))))) ?_
       refine retX Tryz.results238 ?_
       exact ⟨.c _, .c _, .c _⟩
     · rw [decide_eq_false hl] at f2
       obtain ⟨b1, b2⟩ := hbad.resolve_left fun h => hl h.2
       rw [decide_eq_true b1] at f3
       rw [decide_eq_true b2] at f4
       refine q0a (And.intro hbl (And.intro hw1 (And.intro hwm (And.intro hcp (And.intro e3 (And.intro e4 (And.intro e6 (And.intro f1 (And.intro f2 (And.intro f3 f4)))))))))) ?_
       refine retX Tryz.results238 ?_
       exact ⟨.c _, .c _, .c _⟩
   · have e4 : decide ((i : Int) < ((most - 1 : Nat) : Int)) = true := by have := j3v D (most - 1); simp; omega
     have e5 : decide ((c.toNat : Int) ≥ 128) = false := by have := hend hm1; simp; omega
     rw [decide_eq_false hm1] at f1
     obtain ⟨b1, b2⟩ := hbad.resolve_left fun h => hm1 h.1
     rw [decide_eq_true b1] at f3
     rw [decide_eq_true b2] at f4
     refine q0a (And.intro hbl (And.intro hw1 (And.intro hwm (And.intro hcp (And.intro e3 (And.intro e4 (And.intro e5 (And.intro e6 (And.intro f1 (And.intro f3 f4)))))))))) ?_
     refine retX Tryz.results238 ?_
     exact ⟨.c _, .c _, .c _⟩
 have hU := foldU_lt D N c.toNat (by omega)
 have hzg := zag_range (hU N)
 refine ⟨zagN (q1q D N c.toNat N), p + N + 1, 0, by omega, by omega, fun _ => by omega, fun h => absurd rfl h, hzg, ?_⟩
 have hZ := rzag_told (q1q D N c.toNat N) (hU N)
 refine VC.toldP j5p Tryz.func238 rfl Tryz.ntmps238 fun hb => ?_
 clear hb
 refine q0a (And.intro e1 (And.intro e2 hbl)) ?_
 refine VC.loop (ι := {i : Nat // i ≤ N ∧ lead (D.drop i) (most - 1 - i) = N - i}) (fun i => [(0, .c (.sl 1 (q0e B))), (1, .c (.v (.int .i64 (p : Int)))), (2, .c (.v (.int .i64 (most : Int)))), (3, .c (.v (.int .u8 (last : Int)))), (11, .c (.v (.int .i64 (i.1 : Int))))]) (fun _ => []) 800 (fun i => N - i.1) ⟨0, Nat.zero_le _, by rw [List.drop_zero, Nat.sub_zero, Nat.sub_zero, hN]⟩ ?_ ?_
 · exact q2z
 rintro ⟨i, hi, hli⟩
 simp only [] at hi hli ⊢
 have hw1 : IntKind.i64.wrap ((p : Int) + (i : Int)) = ((p + i : Nat) : Int) := by rw [q0f (by omega) (by omega)]; omega
 have hw2 : IntKind.i64.wrap ((i : Int) + 1) = ((i + 1 : Nat) : Int) := by rw [q0f (by omega) (by omega)]; omega
 by_cases hiN : i < N
 · obtain ⟨c, cs, k', h1, h2, h3, h4⟩ := j3w (n := N - i - 1) (by rw [hli]; omega)
   have hci : D[i]? = some c := by
    have h5 : (D.drop i)[0]? = some c := by rw [h1]; rfl
    rw [List.getElem?_drop] at h5
    simpa using h5
   have hcs : D.drop (i + 1) = cs := by
    have h5 : (D.drop i).drop 1 = cs := by rw [h1]; rfl
    rw [List.drop_drop] at h5
    exact h5
   have hcp : (q0e B)[p + i]? = some [.v (.int .u8 (c.toNat : Int))] := by unfold q0e; rw [List.getElem?_map, hDg, hci]; rfl
   have e3 : decide (((p + i : Nat) : Int) < (B.length : Int)) = true := by simp; omega
   have e4 : decide ((i : Int) < ((most - 1 : Nat) : Int)) = true := by simp; omega
   have e5 : decide ((c.toNat : Int) ≥ 128) = true := by simp; omega
   refine q0a (And.intro hbl (And.intro hw1 (And.intro hw2 (And.intro hwm (And.intro hcp (And.intro e3 (And.intro e4 e5))))))) ?_
   refine .next ⟨i + 1, hiN, ?_⟩ ?_ (by simp only []; omega)
   · rw [hcs, show most - 1 - (i + 1) = k' by omega, h4]
     omega
   · exact q2z
 obtain rfl : i = N := by omega
 rw [Nat.sub_self] at hli
 have hlt : i < D.length := by omega
 have hpi : p + i < B.length := by omega
 have e3 : decide (((p + i : Nat) : Int) < (B.length : Int)) = true := by simp; omega
 have hcp : (q0e B)[p + i]? = some [.v (.int .u8 (c.toNat : Int))] := by unfold q0e; rw [List.getElem?_map, hDg, hc]; rfl
 have e6 : (((p + i : Nat) : Int) == (B.length : Int)) = false := by simp; omega
 have f1 : ((i : Int) == ((most - 1 : Nat) : Int)) = decide (i = most - 1) := by rw [Bool.eq_iff_iff]; simp; omega
 have f2 : decide ((c.toNat : Int) > (last : Int)) = decide (last < c.toNat) := by simp
 have f3 : decide ((i : Int) > 0) = decide (0 < i) := by simp
 have f4 : ((c.toNat : Int) == 0) = decide (c.toNat = 0) := by rw [Bool.eq_iff_iff]; simp
 have hwc : IntKind.u64.wrap (c.toNat : Int) = ((q1q D i c.toNat 0 : Nat) : Int) := by rw [IntKind.wrap_u64, q1q]; omega
 have hwi : IntKind.i64.wrap ((i : Int) - 1) = (i : Int) - 1 := q0f (by omega) (by omega)
 have hwq : IntKind.i64.wrap (((p + i : Nat) : Int) + 1) = ((p + i + 1 : Nat) : Int) := by rw [q0f (by omega) (by omega)]; omega
 by_cases hm1 : i = most - 1
 · have e4 : decide ((i : Int) < ((most - 1 : Nat) : Int)) = false := by simp; omega
   rw [decide_eq_true hm1] at f1
   have hl : ¬ last < c.toNat := fun h => hbad (.inl ⟨hm1, h⟩)
   rw [decide_eq_false hl] at f2
   obtain ⟨b3, hb3⟩ : ∃ b, b = decide (0 < i) := ⟨_, rfl⟩
   obtain ⟨b4, hb4⟩ : ∃ b, b = decide (c.toNat = 0) := ⟨_, rfl⟩
   rw [← hb3] at f3
   rw [← hb4] at f4
   have hb34 : b3 = false ∨ b4 = false := by
    by_cases h0 : 0 < i
    · exact .inr (by rw [hb4]; exact decide_eq_false fun h => hbad (.inr ⟨h0, h⟩))
    · exact .inl (by rw [hb3]; exact decide_eq_false h0)
   clear hb3 hb4
   rcases hb34 with rfl | rfl
   · refine q0a (And.intro hbl (And.intro hw1 (And.intro hwm (And.intro hcp (And.intro e3 (And.intro e4 (And.intro e6 (And.intro f1 (And.intro f2 (And.intro f3 (And.intro hwc hwi))))))))))) ?_
     refine VC.loop (ι := {j : Nat // j ≤ i}) (fun j => [(0, .c (.sl 1 (q0e B))), (1, .c (.v (.int .i64 (p : Int)))), (11, .c (.v (.int .i64 (i : Int)))), (13, .c (.v (.int .u64 ((q1q D i c.toNat j.1 : Nat) : Int)))), (14, .c (.v (.int .i64 ((i : Int) - 1 - (j.1 : Int)))))]) (fun _ => []) 4000 (fun j => i - j.1) ⟨0, Nat.zero_le _⟩ ?_ ?_
     · simp only [Weak, eq_self, q0v, q0p, sc_c, q0r, q0s, q0t, q0o, q0q, ScL, q0u, List.forall_mem_map, go_sem, Int.reduceBEq, Int.reduceLE, Int.reduceLT, Int.reduceNeg, Nat.reduceAdd, Nat.reduceEqDiff, Nat.reduceLT, Nat.reduceLeDiff, Nat.reduceMul, Nat.reduceSub, reduceCtorEq, ↓reduceIte]
       (try simp)
     rintro ⟨j, hj⟩
     simp only [] at hj ⊢
     by_cases hji : j < i
     · obtain ⟨y, hy⟩ : ∃ y, D[i - 1 - j]? = some y := ⟨_, List.getElem?_eq_getElem (show i - 1 - j < D.length by omega)⟩
       have hy8 := y.toNat_lt
       have g1 : decide ((i : Int) - 1 - (j : Int) ≥ 0) = true := by simp; omega
       have g2 : IntKind.i64.wrap ((p : Int) + ((i : Int) - 1 - (j : Int))) = ((p + (i - 1 - j) : Nat) : Int) := by rw [q0f (by omega) (by omega)]; omega
       have g3 : (q0e B)[p + (i - 1 - j)]? = some [.v (.int .u8 (y.toNat : Int))] := by unfold q0e; rw [List.getElem?_map, hDg, hy]; rfl
       have g4 : (y.toNat : Int).tmod 128 = ((y.toNat % 128 : Nat) : Int) := by rw [Int.tmod_eq_emod_of_nonneg (by omega)]; omega
       have g5 : IntKind.u8.wrap ((y.toNat % 128 : Nat) : Int) = ((y.toNat % 128 : Nat) : Int) := by rw [IntKind.wrap_u8]; omega
       have g6 : IntKind.u64.wrap ((y.toNat % 128 : Nat) : Int) = ((y.toNat % 128 : Nat) : Int) := by rw [IntKind.wrap_u64]; omega
       have g7 : IntKind.u64.wrap (IntKind.u64.wrap (((q1q D i c.toNat j : Nat) : Int) * 128) + ((y.toNat % 128 : Nat) : Int)) = ((q1q D i c.toNat (j + 1) : Nat) : Int) := by
        rw [q1q, hy, IntKind.wrap_u64, IntKind.wrap_u64]
        simp only [Option.getD_some]
        omega
       have g8 : IntKind.i64.wrap ((i : Int) - 1 - (j : Int) - 1) = (i : Int) - 1 - ((j + 1 : Nat) : Int) := by rw [q0f (by omega) (by omega)]; omega
       have g9 : p + (i - 1 - j) < B.length := by omega
       generalize hU1 : q1q D i c.toNat (j + 1) = U1 at g7
       generalize hU0 : q1q D i c.toNat j = U0 at g7
       refine q0a (And.intro hbl (And.intro g1 (And.intro g2 (And.intro g3 (And.intro g4 (And.intro g5 (And.intro g6 (And.intro g7 g8)))))))) ?_
       refine .next ⟨j + 1, hji⟩ ?_ (by simp only []; omega)
       simp only [Weak, eq_self, q0v, q0p, sc_c, q0r, q0s, q0t, q0o, q0q, ScL, q0u, List.forall_mem_map, go_sem, Int.reduceBEq, Int.reduceLE, Int.reduceLT, Int.reduceNeg, Nat.reduceAdd, Nat.reduceEqDiff, Nat.reduceLT, Nat.reduceLeDiff, Nat.reduceMul, Nat.reduceSub, reduceCtorEq, ↓reduceIte]
       (try rw [hU1])
     · obtain rfl : j = i := by omega
       have g1 : decide ((j : Int) - 1 - (j : Int) ≥ 0) = false := by simp; omega
       generalize q1q D j c.toNat j = U at hZ
       refine q0a (And.intro hbl g1) ?_
       refine q0j (hZ) ?_
       refine q0a (And.intro hw1 hwq) ?_
       refine retX Tryz.results238 ?_
       exact ⟨.c _, .c _, .c _⟩
   · cases b3
     · refine q0a (And.intro hbl (And.intro hw1 (And.intro hwm (And.intro hcp (And.intro e3 (And.intro e4 (And.intro e6 (And.intro f1 (And.intro f2 (And.intro f3 (And.intro hwc hwi))))))))))) ?_
       refine VC.loop (ι := {j : Nat // j ≤ i}) (fun j => [(0, .c (.sl 1 (q0e B))), (1, .c (.v (.int .i64 (p : Int)))), (11, .c (.v (.int .i64 (i : Int)))), (13, .c (.v (.int .u64 ((q1q D i c.toNat j.1 : Nat) : Int)))), (14, .c (.v (.int .i64 ((i : Int) - 1 - (j.1 : Int)))))]) (fun _ => []) 4000 (fun j => i - j.1) ⟨0, Nat.zero_le _⟩ ?_ ?_
       · simp only [Weak, eq_self, q0v, q0p, sc_c, q0r, q0s, q0t, q0o, q0q, ScL, q0u, List.forall_mem_map, go_sem, Int.reduceBEq, Int.reduceLE, Int.reduceLT, Int.reduceNeg, Nat.reduceAdd, Nat.reduceEqDiff, Nat.reduceLT, Nat.reduceLeDiff, Nat.reduceMul, Nat.reduceSub, reduceCtorEq, ↓reduceIte]
         (try simp)
       rintro ⟨j, hj⟩
       simp only [] at hj ⊢
       by_cases hji : j < i
       · obtain ⟨y, hy⟩ : ∃ y, D[i - 1 - j]? = some y := ⟨_, List.getElem?_eq_getElem (show i - 1 - j < D.length by omega)⟩
         have hy8 := y.toNat_lt
         have g1 : decide ((i : Int) - 1 - (j : Int) ≥ 0) = true := by simp; omega
         have g2 : IntKind.i64.wrap ((p : Int) + ((i : Int) - 1 - (j : Int))) = ((p + (i - 1 - j) : Nat) : Int) := by rw [q0f (by omega) (by omega)]; omega
         have g3 : (q0e B)[p + (i - 1 - j)]? = some [.v (.int .u8 (y.toNat : Int))] := by unfold q0e; rw [List.getElem?_map, hDg, hy]; rfl
         have g4 : (y.toNat : Int).tmod 128 = ((y.toNat % 128 : Nat) : Int) := by rw [Int.tmod_eq_emod_of_nonneg (by omega)]; omega
         have g5 : IntKind.u8.wrap ((y.toNat % 128 : Nat) : Int) = ((y.toNat % 128 : Nat) : Int) := by rw [IntKind.wrap_u8]; omega
         have g6 : IntKind.u64.wrap ((y.toNat % 128 : Nat) : Int) = ((y.toNat % 128 : Nat) : Int) := by rw [IntKind.wrap_u64]; omega
         have g7 : IntKind.u64.wrap (IntKind.u64.wrap (((q1q D i c.toNat j : Nat) : Int) * 128) + ((y.toNat % 128 : Nat) : Int)) = ((q1q D i c.toNat (j + 1) : Nat) : Int) := by
          rw [q1q, hy, IntKind.wrap_u64, IntKind.wrap_u64]
          simp only [Option.getD_some]
          omega
         have g8 : IntKind.i64.wrap ((i : Int) - 1 - (j : Int) - 1) = (i : Int) - 1 - ((j + 1 : Nat) : Int) := by rw [q0f (by omega) (by omega)]; omega
         have g9 : p + (i - 1 - j) < B.length := by omega
         generalize hU1 : q1q D i c.toNat (j + 1) = U1 at g7
         generalize hU0 : q1q D i c.toNat j = U0 at g7
         refine q0a (And.intro hbl (And.intro g1 (And.intro g2 (And.intro g3 (And.intro g4 (And.intro g5 (And.intro g6 (And.intro g7 g8)))))))) ?_
         refine .next ⟨j + 1, hji⟩ ?_ (by simp only []; omega)
         simp only [Weak, eq_self, q0v, q0p, sc_c, q0r, q0s, q0t, q0o, q0q, ScL, q0u, List.forall_mem_map, go_sem, Int.reduceBEq, Int.reduceLE, Int.reduceLT, Int.reduceNeg, Nat.reduceAdd, Nat.reduceEqDiff, Nat.reduceLT, Nat.reduceLeDiff, Nat.reduceMul, Nat.reduceSub, reduceCtorEq, ↓reduceIte]
         (try rw [hU1])
       · obtain rfl : j = i := by omega
         have g1 : decide ((j : Int) - 1 - (j : Int) ≥ 0) = false := by simp; omega
         generalize q1q D j c.toNat j = U at hZ
         refine q0a (And.intro hbl g1) ?_
         refine q0j (hZ) ?_
         refine q0a (And.intro hw1 hwq) ?_
         refine retX Tryz.results238 ?_
         exact ⟨.c _, .c _, .c _⟩
     · refine q0a (And.intro hbl (And.intro hw1 (And.intro hwm (And.intro hcp (And.intro e3 (And.intro e4 (And.intro e6 (And.intro f1 (And.intro f2 (And.intro f3 (And.intro f4 (And.intro hwc hwi)))))))))))) ?_
       refine VC.loop (ι := {j : Nat // j ≤ i}) (fun j => [(0, .c (.sl 1 (q0e B))), (1, .c (.v (.int .i64 (p : Int)))), (11, .c (.v (.int .i64 (i : Int)))), (13, .c (.v (.int .u64 ((q1q D i c.toNat j.1 : Nat) : Int)))), (14, .c (.v (.int .i64 ((i : Int) - 1 - (j.1 : Int)))))]) (fun _ => []) 4000 (fun j => i - j.1) ⟨0, Nat.zero_le _⟩ ?_ ?_
       · simp only [Weak, eq_self, q0v, q0p, sc_c, q0r, q0s, q0t, q0o, q0q, ScL, q0u, List.forall_mem_map, go_sem, Int.reduceBEq, Int.reduceLE, Int.reduceLT, Int.reduceNeg, Nat.reduceAdd, Nat.reduceEqDiff, Nat.reduceLT, Nat.reduceLeDiff, Nat.reduceMul, Nat.reduceSub, reduceCtorEq, ↓reduceIte]
         (try simp)
       rintro ⟨j, hj⟩
       simp only [] at hj ⊢
       by_cases hji : j < i
       · obtain ⟨y, hy⟩ : ∃ y, D[i - 1 - j]? = some y := ⟨_, List.getElem?_eq_getElem (show i - 1 - j < D.length by omega)⟩
         have hy8 := y.toNat_lt
         have g1 : decide ((i : Int) - 1 - (j : Int) ≥ 0) = true := by simp; omega
         have g2 : IntKind.i64.wrap ((p : Int) + ((i : Int) - 1 - (j : Int))) = ((p + (i - 1 - j) : Nat) : Int) := by rw [q0f (by omega) (by omega)]; omega
         have g3 : (q0e B)[p + (i - 1 - j)]? = some [.v (.int .u8 (y.toNat : Int))] := by unfold q0e; rw [List.getElem?_map, hDg, hy]; rfl
         have g4 : (y.toNat : Int).tmod 128 = ((y.toNat % 128 : Nat) : Int) := by rw [Int.tmod_eq_emod_of_nonneg (by omega)]; omega
         have g5 : IntKind.u8.wrap ((y.toNat % 128 : Nat) : Int) = ((y.toNat % 128 : Nat) : Int) := by rw [IntKind.wrap_u8]; omega
         have g6 : IntKind.u64.wrap ((y.toNat % 128 : Nat) : Int) = ((y.toNat % 128 : Nat) : Int) := by rw [IntKind.wrap_u64]; omega
         have g7 : IntKind.u64.wrap (IntKind.u64.wrap (((q1q D i c.toNat j : Nat) : Int) * 128) + ((y.toNat % 128 : Nat) : Int)) = ((q1q D i c.toNat (j + 1) : Nat) : Int) := by
          rw [q1q, hy, IntKind.wrap_u64, IntKind.wrap_u64]
          simp only [Option.getD_some]
          omega
         have g8 : IntKind.i64.wrap ((i : Int) - 1 - (j : Int) - 1) = (i : Int) - 1 - ((j + 1 : Nat) : Int) := by rw [q0f (by omega) (by omega)]; omega
         have g9 : p + (i - 1 - j) < B.length := by omega
         generalize hU1 : q1q D i c.toNat (j + 1) = U1 at g7
         generalize hU0 : q1q D i c.toNat j = U0 at g7
         refine q0a (And.intro hbl (And.intro g1 (And.intro g2 (And.intro g3 (And.intro g4 (And.intro g5 (And.intro g6 (And.intro g7 g8)))))))) ?_
         refine .next ⟨j + 1, hji⟩ ?_ (by simp only []; omega)
         simp only [Weak, eq_self, q0v, q0p, sc_c, q0r, q0s, q0t, q0o, q0q, ScL, q0u, List.forall_mem_map, go_sem, Int.reduceBEq, Int.reduceLE, Int.reduceLT, Int.reduceNeg, Nat.reduceAdd, Nat.reduceEqDiff, Nat.reduceLT, Nat.reduceLeDiff, Nat.reduceMul, Nat.reduceSub, reduceCtorEq, ↓reduceIte]
         (try rw [hU1])
       · obtain rfl : j = i := by omega
         have g1 : decide ((j : Int) - 1 - (j : Int) ≥ 0) = false := by simp; omega
         generalize q1q D j c.toNat j = U at hZ
         refine q0a (And.intro hbl g1) ?_
         refine q0j (hZ) ?_
         refine q0a (And.intro hw1 hwq) ?_
         refine retX Tryz.results238 ?_
         exact ⟨.c _, .c _, .c _⟩
 · have e4 : decide ((i : Int) < ((most - 1 : Nat) : Int)) = true := by have := j3v D (most - 1); simp; omega
   have e5 : decide ((c.toNat : Int) ≥ 128) = false := by have := hend hm1; simp; omega
   rw [decide_eq_false hm1] at f1
   by_cases h0 : 0 < i
   · have hb4 : ¬ c.toNat = 0 := fun h => hbad (.inr ⟨h0, h⟩)
     rw [decide_eq_true h0] at f3
     rw [decide_eq_false hb4] at f4
     refine q0a (And.intro hbl (And.intro hw1 (And.intro hwm (And.intro hcp (And.intro e3 (And.intro e4 (And.intro e5 (And.intro e6 (And.intro f1 (And.intro f3 (And.intro f4 (And.intro hwc hwi)))))))))))) ?_
     refine VC.loop (ι := {j : Nat // j ≤ i}) (fun j => [(0, .c (.sl 1 (q0e B))), (1, .c (.v (.int .i64 (p : Int)))), (11, .c (.v (.int .i64 (i : Int)))), (13, .c (.v (.int .u64 ((q1q D i c.toNat j.1 : Nat) : Int)))), (14, .c (.v (.int .i64 ((i : Int) - 1 - (j.1 : Int)))))]) (fun _ => []) 4000 (fun j => i - j.1) ⟨0, Nat.zero_le _⟩ ?_ ?_
     · simp only [Weak, eq_self, q0v, q0p, sc_c, q0r, q0s, q0t, q0o, q0q, ScL, q0u, List.forall_mem_map, go_sem, Int.reduceBEq, Int.reduceLE, Int.reduceLT, Int.reduceNeg, Nat.reduceAdd, Nat.reduceEqDiff, Nat.reduceLT, Nat.reduceLeDiff, Nat.reduceMul, Nat.reduceSub, reduceCtorEq, ↓reduceIte]
       (try simp)
     rintro ⟨j, hj⟩
     simp only [] at hj ⊢
     by_cases hji : j < i
     · obtain ⟨y, hy⟩ : ∃ y, D[i - 1 - j]? = some y := ⟨_, List.getElem?_eq_getElem (show i - 1 - j < D.length by omega)⟩
       have hy8 := y.toNat_lt
       have g1 : decide ((i : Int) - 1 - (j : Int) ≥ 0) = true := by simp; omega
       have g2 : IntKind.i64.wrap ((p : Int) + ((i : Int) - 1 - (j : Int))) = ((p + (i - 1 - j) : Nat) : Int) := by rw [q0f (by omega) (by omega)]; omega
       have g3 : (q0e B)[p + (i - 1 - j)]? = some [.v (.int .u8 (y.toNat : Int))] := by unfold q0e; rw [List.getElem?_map, hDg, hy]; rfl
       have g4 : (y.toNat : Int).tmod 128 = ((y.toNat % 128 : Nat) : Int) := by rw [Int.tmod_eq_emod_of_nonneg (by omega)]; omega
       have g5 : IntKind.u8.wrap ((y.toNat % 128 : Nat) : Int) = ((y.toNat % 128 : Nat) : Int) := by rw [IntKind.wrap_u8]; omega
       have g6 : IntKind.u64.wrap ((y.toNat % 128 : Nat) : Int) = ((y.toNat % 128 : Nat) : Int) := by rw [IntKind.wrap_u64]; omega
       have g7 : IntKind.u64.wrap (IntKind.u64.wrap (((q1q D i c.toNat j : Nat) : Int) * 128) + ((y.toNat % 128 : Nat) : Int)) = ((q1q D i c.toNat (j + 1) : Nat) : Int) := by
        rw [q1q, hy, IntKind.wrap_u64, IntKind.wrap_u64]
        simp only [Option.getD_some]
        omega
       have g8 : IntKind.i64.wrap ((i : Int) - 1 - (j : Int) - 1) = (i : Int) - 1 - ((j + 1 : Nat) : Int) := by rw [q0f (by omega) (by omega)]; omega
       have g9 : p + (i - 1 - j) < B.length := by omega
       generalize hU1 : q1q D i c.toNat (j + 1) = U1 at g7
       generalize hU0 : q1q D i c.toNat j = U0 at g7
       refine q0a (And.intro hbl (And.intro g1 (And.intro g2 (And.intro g3 (And.intro g4 (And.intro g5 (And.intro g6 (And.intro g7 g8)))))))) ?_
       refine .next ⟨j + 1, hji⟩ ?_ (by simp only []; omega)
       simp only [Weak, eq_self, q0v, q0p, sc_c, q0r, q0s, q0t, q0o, q0q, ScL, q0u, List.forall_mem_map, go_sem, Int.reduceBEq, Int.reduceLE, Int.reduceLT, Int.reduceNeg, Nat.reduceAdd, Nat.reduceEqDiff, Nat.reduceLT, Nat.reduceLeDiff, Nat.reduceMul, Nat.reduceSub, reduceCtorEq, ↓reduceIte]
       (try rw [hU1])
     · obtain rfl : j = i := by omega
       have g1 : decide ((j : Int) - 1 - (j : Int) ≥ 0) = false := by simp; omega
       generalize q1q D j c.toNat j = U at hZ
       refine q0a (And.intro hbl g1) ?_
       refine q0j (hZ) ?_
       refine q0a (And.intro hw1 hwq) ?_
       refine retX Tryz.results238 ?_
       exact ⟨.c _, .c _, .c _⟩
   · rw [decide_eq_false h0] at f3
     refine q0a (And.intro hbl (And.intro hw1 (And.intro hwm (And.intro hcp (And.intro e3 (And.intro e4 (And.intro e5 (And.intro e6 (And.intro f1 (And.intro f3 (And.intro hwc hwi))))))))))) ?_
     refine VC.loop (ι := {j : Nat // j ≤ i}) (fun j => [(0, .c (.sl 1 (q0e B))), (1, .c (.v (.int .i64 (p : Int)))), (11, .c (.v (.int .i64 (i : Int)))), (13, .c (.v (.int .u64 ((q1q D i c.toNat j.1 : Nat) : Int)))), (14, .c (.v (.int .i64 ((i : Int) - 1 - (j.1 : Int)))))]) (fun _ => []) 4000 (fun j => i - j.1) ⟨0, Nat.zero_le _⟩ ?_ ?_
     · simp only [Weak, eq_self, q0v, q0p, sc_c, q0r, q0s, q0t, q0o, q0q, ScL, q0u, List.forall_mem_map, go_sem, Int.reduceBEq, Int.reduceLE, Int.reduceLT, Int.reduceNeg, Nat.reduceAdd, Nat.reduceEqDiff, Nat.reduceLT, Nat.reduceLeDiff, Nat.reduceMul, Nat.reduceSub, reduceCtorEq, ↓reduceIte]
       (try simp)
     rintro ⟨j, hj⟩
     simp only [] at hj ⊢
     by_cases hji : j < i
     · obtain ⟨y, hy⟩ : ∃ y, D[i - 1 - j]? = some y := ⟨_, List.getElem?_eq_getElem (show i - 1 - j < D.length by omega)⟩
       have hy8 := y.toNat_lt
       have g1 : decide ((i : Int) - 1 - (j : Int) ≥ 0) = true := by simp; omega
       have g2 : IntKind.i64.wrap ((p : Int) + ((i : Int) - 1 - (j : Int))) = ((p + (i - 1 - j) : Nat) : Int) := by rw [q0f (by omega) (by omega)]; omega
       have g3 : (q0e B)[p + (i - 1 - j)]? = some [.v (.int .u8 (y.toNat : Int))] := by unfold q0e; rw [List.getElem?_map, hDg, hy]; rfl
       have g4 : (y.toNat : Int).tmod 128 = ((y.toNat % 128 : Nat) : Int) := by rw [Int.tmod_eq_emod_of_nonneg (by omega)]; omega
       have g5 : IntKind.u8.wrap ((y.toNat % 128 : Nat) : Int) = ((y.toNat % 128 : Nat) : Int) := by rw [IntKind.wrap_u8]; omega
       have g6 : IntKind.u64.wrap ((y.toNat % 128 : Nat) : Int) = ((y.toNat % 128 : Nat) : Int) := by rw [IntKind.wrap_u64]; omega
       have g7 : IntKind.u64.wrap (IntKind.u64.wrap (((q1q D i c.toNat j : Nat) : Int) * 128) + ((y.toNat % 128 : Nat) : Int)) = ((q1q D i c.toNat (j + 1) : Nat) : Int) := by
        rw [q1q, hy, IntKind.wrap_u64, IntKind.wrap_u64]
        simp only [Option.getD_some]
        omega
       have g8 : IntKind.i64.wrap ((i : Int) - 1 - (j : Int) - 1) = (i : Int) - 1 - ((j + 1 : Nat) : Int) := by rw [q0f (by omega) (by omega)]; omega
       have g9 : p + (i - 1 - j) < B.length := by omega
       generalize hU1 : q1q D i c.toNat (j + 1) = U1 at g7
       generalize hU0 : q1q D i c.toNat j = U0 at g7
       refine q0a (And.intro hbl (And.intro g1 (And.intro g2 (And.intro g3 (And.intro g4 (And.intro g5 (And.intro g6 (And.intro g7 g8)))))))) ?_
       refine .next ⟨j + 1, hji⟩ ?_ (by simp only []; omega)
       simp only [Weak, eq_self, q0v, q0p, sc_c, q0r, q0s, q0t, q0o, q0q, ScL, q0u, List.forall_mem_map, go_sem, Int.reduceBEq, Int.reduceLE, Int.reduceLT, Int.reduceNeg, Nat.reduceAdd, Nat.reduceEqDiff, Nat.reduceLT, Nat.reduceLeDiff, Nat.reduceMul, Nat.reduceSub, reduceCtorEq, ↓reduceIte]
       (try rw [hU1])
     · obtain rfl : j = i := by omega
       have g1 : decide ((j : Int) - 1 - (j : Int) ≥ 0) = false := by simp; omega
       generalize q1q D j c.toNat j = U at hZ
       refine q0a (And.intro hbl g1) ?_
       refine q0j (hZ) ?_
       refine q0a (And.intro hw1 hwq) ?_
       refine retX Tryz.results238 ?_
       exact ⟨.c _, .c _, .c _⟩
section

def q6n (c : Int) : Bool := decide (0 ≤ c ∧ c ≤ 1114111 ∧ (c < 55296 ∨ 57344 ≤ c))
def uenc (c : Nat) : List UInt8 :=
 if c < 128 then [c.toUInt8] else if c < 2048 then [(192 + c / 64).toUInt8, (128 + c % 64).toUInt8]
 else if c < 65536 then [(224 + c / 4096).toUInt8, (128 + c / 64 % 64).toUInt8, (128 + c % 64).toUInt8]
 else [(240 + c / 262144).toUInt8, (128 + c / 4096 % 64).toUInt8, (128 + c / 64 % 64).toUInt8, (128 + c % 64).toUInt8]
theorem z1c (c : Nat) : (uenc c).length ≤ 4 := by
 unfold uenc
 split
 · simp
 · split
   · simp
   · split <;> simp
variable {l : List UInt8} {p : Nat}
def bN (l : List UInt8) (i : Nat) : Nat := (q1g l i).toNat
theorem bN_lt (l : List UInt8) (i : Nat) : bN l i < 256 := (q1g l i).toNat_lt
def q41 (l : List UInt8) (p : Nat) (n : Nat) : Prop :=
 (n = 1 ∧ p < l.length ∧ bN l p < 128) ∨
 (n = 2 ∧ p + 1 < l.length ∧ 194 ≤ bN l p ∧ bN l p < 224 ∧ 128 ≤ bN l (p + 1) ∧ bN l (p + 1) < 192) ∨
 (n = 3 ∧ p + 2 < l.length ∧ 224 ≤ bN l p ∧ bN l p < 240 ∧ 128 ≤ bN l (p + 1) ∧ bN l (p + 1) < 192 ∧ 128 ≤ bN l (p + 2) ∧ bN l (p + 2) < 192 ∧ (bN l p = 224 → 160 ≤ bN l (p + 1)) ∧ (bN l p = 237 → bN l (p + 1) ≤ 159)) ∨
 (n = 4 ∧ p + 3 < l.length ∧ 240 ≤ bN l p ∧ bN l p < 245 ∧ 128 ≤ bN l (p + 1) ∧ bN l (p + 1) < 192 ∧ 128 ≤ bN l (p + 2) ∧ bN l (p + 2) < 192 ∧ 128 ≤ bN l (p + 3) ∧ bN l (p + 3) < 192 ∧ (bN l p = 240 → 144 ≤ bN l (p + 1)) ∧ (bN l p = 244 → bN l (p + 1) ≤ 143))
def cvN (l : List UInt8) (p n : Nat) : Int :=
 if n = 1 then (bN l p : Int) else if n = 2 then ((bN l p : Int) - 192) * 64 + ((bN l (p + 1) : Int) - 128)
 else if n = 3 then ((bN l p : Int) - 224) * 4096 + ((bN l (p + 1) : Int) - 128) * 64 + ((bN l (p + 2) : Int) - 128)
 else ((bN l p : Int) - 240) * 262144 + ((bN l (p + 1) : Int) - 128) * 4096 + ((bN l (p + 2) : Int) - 128) * 64 + ((bN l (p + 3) : Int) - 128)
def q20 (l : List UInt8) (p n : Nat) : Bool := q6n (cvN l p n) && (((uenc (cvN l p n).toNat).length == n) && (uenc (cvN l p n).toNat).isPrefixOf (l.drop p))
theorem q53 {i : Nat} : q3j l p i = 0 ↔ p + i < l.length ∧ 128 ≤ bN l (p + i) ∧ bN l (p + i) < 192 ∧ (i = 1 → ulo (q1g l p) ≤ bN l (p + i) ∧ bN l (p + i) ≤ uhi (q1g l p)) := by
 unfold q3j ucont usec bN
 by_cases h : p + i < l.length
 · rw [if_pos h]
   simp only [decide_eq_true_eq]
   split
   · rename_i h2; simp only [h, true_and, true_iff]; exact ⟨h2.1.1, h2.1.2, h2.2⟩
   · rename_i h2
     constructor
     · intro h3; omega
     · intro h3; exact absurd ⟨⟨h3.2.1, h3.2.2.1⟩, h3.2.2.2⟩ h2
 · rw [if_neg h]
   constructor
   · intro h3; omega
   · intro h3; exact absurd h3.1 h
theorem q52 {k : Nat} : q3d l p (k + 1) = 0 ↔ q3d l p k = 0 ∧ q3j l p (k + 1) = 0 := by
 simp only [q3d]
 split
 · rename_i h; simp [h]
 · rename_i h; simp [h]
theorem ulo_le (c : UInt8) : (c.toNat = 224 → ulo c = 160) ∧ (c.toNat = 240 → ulo c = 144) ∧ (c.toNat ≠ 224 → c.toNat ≠ 240 → ulo c = 128) := by
 unfold ulo
 refine ⟨fun h => by rw [if_pos h], fun h => by rw [if_neg (by omega), if_pos h], fun h h' => by rw [if_neg h, if_neg h']⟩
theorem uhi_le (c : UInt8) : (c.toNat = 237 → uhi c = 159) ∧ (c.toNat = 244 → uhi c = 143) ∧ (c.toNat ≠ 237 → c.toNat ≠ 244 → uhi c = 191) := by
 unfold uhi
 refine ⟨fun h => by rw [if_pos h], fun h => by rw [if_neg (by omega), if_pos h], fun h h' => by rw [if_neg h, if_neg h']⟩
theorem z1d {c : UInt8} (h : c.toNat < 128) : q15 c = 1 := by unfold q15; rw [if_pos h]
theorem j63 {c : UInt8} (h : 194 ≤ c.toNat) (h' : c.toNat < 224) : q15 c = 2 := by unfold q15; rw [if_neg (by omega), if_neg (by omega), if_pos h']
theorem j62 {c : UInt8} (h : 224 ≤ c.toNat) (h' : c.toNat < 240) : q15 c = 3 := by unfold q15; rw [if_neg (by omega), if_neg (by omega), if_neg (by omega), if_pos h']
theorem j61 {c : UInt8} (h : 240 ≤ c.toNat) (h' : c.toNat < 245) : q15 c = 4 := by unfold q15; rw [if_neg (by omega), if_neg (by omega), if_neg (by omega), if_neg (by omega), if_pos h']
theorem z56 {c : UInt8} (h : (128 ≤ c.toNat ∧ c.toNat < 194) ∨ 245 ≤ c.toNat) : q15 c = 0 := by
 unfold q15
 rcases h with h | h
 · rw [if_neg (by omega), if_pos (by omega)]
 · rw [if_neg (by omega), if_neg (by omega), if_neg (by omega), if_neg (by omega), if_neg (by omega)]
theorem j5y {n : Nat} (h : q41 l p n) : uerr l p = 0 ∧ ulen l p = n := by
 have hlo := ulo_le (q1g l p)
 have hhi := uhi_le (q1g l p)
 unfold q41 at h
 unfold uerr ulen
 rcases h with ⟨rfl, h0, h1⟩ | ⟨rfl, h0, h1, h2, h3, h4⟩ | ⟨rfl, h0, h1, h2, h3, h4, h5, h6, h7, h8⟩ | ⟨rfl, h0, h1, h2, h3, h4, h5, h6, h7, h8, h9, h10⟩
 · rw [if_pos h0, z1d h1]
   exact ⟨rfl, rfl⟩
 · rw [if_pos (by omega), j63 h1 h2]
   refine ⟨?_, rfl⟩
   rw [if_neg (by decide)]
   have e1 : q3j l p 1 = 0 := q53.2 ⟨h0, h3, h4, fun _ => by unfold bN at *; rw [hlo.2.2 (by omega) (by omega), hhi.2.2 (by omega) (by omega)]; omega⟩
   exact q52.2 ⟨rfl, e1⟩
 · rw [if_pos (by omega), j62 h1 h2]
   refine ⟨?_, rfl⟩
   rw [if_neg (by decide)]
   have e1 : q3j l p 1 = 0 := q53.2 ⟨by omega, h3, h4, fun _ => by
    unfold bN at *
    constructor
    · by_cases q : (q1g l p).toNat = 224
      · rw [hlo.1 q]; exact h7 q
      · rw [hlo.2.2 q (by omega)]; exact h3
    · by_cases q : (q1g l p).toNat = 237
      · rw [hhi.1 q]; exact h8 q
      · rw [hhi.2.2 q (by omega)]; omega⟩
   have e2 : q3j l p 2 = 0 := q53.2 ⟨by omega, h5, h6, fun q => by omega⟩
   exact q52.2 ⟨q52.2 ⟨rfl, e1⟩, e2⟩
 · rw [if_pos (by omega), j61 h1 h2]
   refine ⟨?_, rfl⟩
   rw [if_neg (by decide)]
   have e1 : q3j l p 1 = 0 := q53.2 ⟨by omega, h3, h4, fun _ => by
    unfold bN at *
    constructor
    · by_cases q : (q1g l p).toNat = 240
      · rw [hlo.2.1 q]; exact h9 q
      · rw [hlo.2.2 (by omega) q]; exact h3
    · by_cases q : (q1g l p).toNat = 244
      · rw [hhi.2.1 q]; exact h10 q
      · rw [hhi.2.2 (by omega) q]; omega⟩
   have e2 : q3j l p 2 = 0 := q53.2 ⟨by omega, h5, h6, fun q => by omega⟩
   have e3 : q3j l p 3 = 0 := q53.2 ⟨by omega, h7, h8, fun q => by omega⟩
   exact q52.2 ⟨q52.2 ⟨q52.2 ⟨rfl, e1⟩, e2⟩, e3⟩
theorem j2o (h : uerr l p = 0) : q41 l p (ulen l p) := by
 have hlo := ulo_le (q1g l p)
 have hhi := uhi_le (q1g l p)
 unfold uerr at h
 unfold ulen q41
 by_cases hp : p < l.length
 · rw [if_pos hp] at h
   have hb := bN_lt l p
   unfold bN at hb
   have hr : (q1g l p).toNat < 128 ∨ ((128 ≤ (q1g l p).toNat ∧ (q1g l p).toNat < 194) ∨ 245 ≤ (q1g l p).toNat) ∨ (194 ≤ (q1g l p).toNat ∧ (q1g l p).toNat < 224) ∨ (224 ≤ (q1g l p).toNat ∧ (q1g l p).toNat < 240) ∨ (240 ≤ (q1g l p).toNat ∧ (q1g l p).toNat < 245) := by omega
   rcases hr with hr | hr | hr | hr | hr
   · rw [z1d hr]; exact .inl ⟨rfl, hp, hr⟩
   · rw [z56 hr, if_pos rfl] at h; omega
   · rw [j63 hr.1 hr.2, if_neg (by decide)] at h
     rw [j63 hr.1 hr.2]
     have e1 := q53.1 (q52.1 h).2
     exact .inr (.inl ⟨rfl, e1.1, hr.1, hr.2, e1.2.1, e1.2.2.1⟩)
   · rw [j62 hr.1 hr.2, if_neg (by decide)] at h
     rw [j62 hr.1 hr.2]
     have h2 := q52.1 h
     have e2 := q53.1 h2.2
     have e1 := q53.1 (q52.1 h2.1).2
     have e1' := e1.2.2.2 rfl
     refine .inr (.inr (.inl ⟨rfl, e2.1, hr.1, hr.2, e1.2.1, e1.2.2.1, e2.2.1, e2.2.2.1, fun q => ?_, fun q => ?_⟩))
     · rw [hlo.1 q] at e1'; exact e1'.1
     · rw [hhi.1 q] at e1'; exact e1'.2
   · rw [j61 hr.1 hr.2, if_neg (by decide)] at h
     rw [j61 hr.1 hr.2]
     have h3 := q52.1 h
     have e3 := q53.1 h3.2
     have h2 := q52.1 h3.1
     have e2 := q53.1 h2.2
     have e1 := q53.1 (q52.1 h2.1).2
     have e1' := e1.2.2.2 rfl
     refine .inr (.inr (.inr ⟨rfl, e3.1, hr.1, hr.2, e1.2.1, e1.2.2.1, e2.2.1, e2.2.2.1, e3.2.1, e3.2.2.1, fun q => ?_, fun q => ?_⟩))
     · rw [hlo.2.1 q] at e1'; exact e1'.1
     · rw [hhi.2.1 q] at e1'; exact e1'.2
 · rw [if_neg hp] at h; omega
theorem drop_cons {l : List UInt8} {p : Nat} (h : p < l.length) : l.drop p = q1g l p :: l.drop (p + 1) := by
 rw [List.drop_eq_getElem_cons h]
 unfold q1g
 rw [List.getElem?_eq_getElem h]
 rfl
theorem q8e {l : List UInt8} : ∀ (xs : List UInt8) (p : Nat), xs ≠ [] → (xs.isPrefixOf (l.drop p) = true ↔ p + xs.length ≤ l.length ∧ ∀ i, i < xs.length → q1g l (p + i) = xs[i]?.getD 0) := by
 intro xs
 induction xs with
 | nil => intro p h; exact absurd rfl h
 | cons x xs ih =>
   intro p _
   by_cases hp : p < l.length
   · rw [drop_cons hp, List.isPrefixOf_cons_cons, Bool.and_eq_true, beq_iff_eq]
     by_cases hx : xs = []
     · subst hx
       simp
       constructor
       · intro h; exact ⟨by omega, h.symm⟩
       · intro h; exact h.2.symm
     · rw [ih (p + 1) hx]
       constructor
       · rintro ⟨h1, h2, h3⟩
         refine ⟨by simp; omega, fun i hi => ?_⟩
         cases i with
         | zero => simpa using h1.symm
         | succ i =>
           have := h3 i (by simp at hi; omega)
           rw [show p + (i + 1) = p + 1 + i from by omega, this]
           simp
       · rintro ⟨h1, h2⟩
         refine ⟨by simpa using (h2 0 (by simp)).symm, by simp at h1; omega, fun i hi => ?_⟩
         have := h2 (i + 1) (by simp; omega)
         rw [show p + 1 + i = p + (i + 1) from by omega, this]
         simp
   · rw [List.drop_eq_nil_of_le (by omega)]
     constructor
     · intro h; simp at h
     · intro h; simp at h; omega
theorem q6w {c : UInt8} {n : Nat} (h : c.toNat = n) (hn : n < 256) : c = n.toUInt8 := by
 apply UInt8.toNat_inj.1
 simp
 omega
theorem q6x {c : UInt8} {n : Nat} (h : c = n.toUInt8) (hn : n < 256) : c.toNat = n := by
 rw [h]
 simp
 omega
theorem j03 {c : Int} : q6n c = true ↔ 0 ≤ c ∧ c ≤ 1114111 ∧ (c < 55296 ∨ 57344 ≤ c) := by unfold q6n; simp
theorem j3q {n : Nat} (h : q41 l p n) : q20 l p n = true := by
 unfold q41 at h
 unfold q20
 rw [Bool.and_eq_true, Bool.and_eq_true, j03, beq_iff_eq]
 rcases h with ⟨rfl, h0, h1⟩ | ⟨rfl, h0, h1, h2, h3, h4⟩ | ⟨rfl, h0, h1, h2, h3, h4, h5, h6, h7, h8⟩ | ⟨rfl, h0, h1, h2, h3, h4, h5, h6, h7, h8, h9, h10⟩
 · have hc : cvN l p 1 = (bN l p : Int) := rfl
   obtain ⟨c, e⟩ : ∃ c, c = (cvN l p 1).toNat := ⟨_, rfl⟩
   have hu : uenc c = [c.toUInt8] := by unfold uenc; rw [if_pos (by omega)]
   rw [← e, hu]
   refine ⟨by omega, rfl, (q8e _ p (by simp)).2 ⟨by simp; omega, fun i hi => ?_⟩⟩
   simp at hi
   subst hi
   exact q6w (by unfold bN at *; simp; omega) (by omega)
 · have hc : cvN l p 2 = ((bN l p : Int) - 192) * 64 + ((bN l (p + 1) : Int) - 128) := rfl
   obtain ⟨c, e⟩ : ∃ c, c = (cvN l p 2).toNat := ⟨_, rfl⟩
   have hu : uenc c = [(192 + c / 64).toUInt8, (128 + c % 64).toUInt8] := by unfold uenc; rw [if_neg (by omega), if_pos (by omega)]
   rw [← e, hu]
   refine ⟨by omega, rfl, (q8e _ p (by simp)).2 ⟨by simp; omega, fun i hi => ?_⟩⟩
   simp at hi
   have hi : i = 0 ∨ i = 1 := by omega
   rcases hi with rfl | rfl
   · exact q6w (by unfold bN at *; simp; omega) (by omega)
   · exact q6w (by unfold bN at *; omega) (by omega)
 · have hc : cvN l p 3 = ((bN l p : Int) - 224) * 4096 + ((bN l (p + 1) : Int) - 128) * 64 + ((bN l (p + 2) : Int) - 128) := rfl
   obtain ⟨c, e⟩ : ∃ c, c = (cvN l p 3).toNat := ⟨_, rfl⟩
   have hu : uenc c = [(224 + c / 4096).toUInt8, (128 + c / 64 % 64).toUInt8, (128 + c % 64).toUInt8] := by unfold uenc; rw [if_neg (by omega), if_neg (by omega), if_pos (by omega)]
   rw [← e, hu]
   refine ⟨by omega, rfl, (q8e _ p (by simp)).2 ⟨by simp; omega, fun i hi => ?_⟩⟩
   simp at hi
   have hi : i = 0 ∨ i = 1 ∨ i = 2 := by omega
   rcases hi with rfl | rfl | rfl
   · exact q6w (by unfold bN at *; simp; omega) (by omega)
   · exact q6w (by unfold bN at *; omega) (by omega)
   · exact q6w (by unfold bN at *; omega) (by omega)
 · have hc : cvN l p 4 = ((bN l p : Int) - 240) * 262144 + ((bN l (p + 1) : Int) - 128) * 4096 + ((bN l (p + 2) : Int) - 128) * 64 + ((bN l (p + 3) : Int) - 128) := rfl
   obtain ⟨c, e⟩ : ∃ c, c = (cvN l p 4).toNat := ⟨_, rfl⟩
   have hu : uenc c = [(240 + c / 262144).toUInt8, (128 + c / 4096 % 64).toUInt8, (128 + c / 64 % 64).toUInt8, (128 + c % 64).toUInt8] := by unfold uenc; rw [if_neg (by omega), if_neg (by omega), if_neg (by omega)]
   rw [← e, hu]
   refine ⟨by omega, rfl, (q8e _ p (by simp)).2 ⟨by simp; omega, fun i hi => ?_⟩⟩
   simp at hi
   have hi : i = 0 ∨ i = 1 ∨ i = 2 ∨ i = 3 := by omega
   rcases hi with rfl | rfl | rfl | rfl
   · exact q6w (by unfold bN at *; simp; omega) (by omega)
   · exact q6w (by unfold bN at *; omega) (by omega)
   · exact q6w (by unfold bN at *; omega) (by omega)
   · exact q6w (by unfold bN at *; omega) (by omega)
theorem z55 (c : Nat) : (c < 128 ∧ uenc c = [c.toUInt8]) ∨ (128 ≤ c ∧ c < 2048 ∧ uenc c = [(192 + c / 64).toUInt8, (128 + c % 64).toUInt8]) ∨
  (2048 ≤ c ∧ c < 65536 ∧ uenc c = [(224 + c / 4096).toUInt8, (128 + c / 64 % 64).toUInt8, (128 + c % 64).toUInt8]) ∨ (65536 ≤ c ∧ uenc c = [(240 + c / 262144).toUInt8, (128 + c / 4096 % 64).toUInt8, (128 + c / 64 % 64).toUInt8, (128 + c % 64).toUInt8]) := by
 unfold uenc
 by_cases h1 : c < 128
 · exact .inl ⟨h1, if_pos h1⟩
 by_cases h2 : c < 2048
 · exact .inr (.inl ⟨by omega, h2, by rw [if_neg h1, if_pos h2]⟩)
 by_cases h3 : c < 65536
 · exact .inr (.inr (.inl ⟨by omega, h3, by rw [if_neg h1, if_neg h2, if_pos h3]⟩))
 · exact .inr (.inr (.inr ⟨by omega, by rw [if_neg h1, if_neg h2, if_neg h3]⟩))
theorem enc_form {c : Nat} (hc : q6n (c : Int) = true) (h : (uenc c).isPrefixOf (l.drop p) = true) : q41 l p (uenc c).length := by
 have hch := j03.1 hc
 unfold q41
 rcases z55 c with ⟨h1, e⟩ | ⟨h1, h2, e⟩ | ⟨h1, h2, e⟩ | ⟨h1, e⟩
 · rw [e] at h ⊢
   obtain ⟨q1, q2⟩ := (q8e _ p (by simp)).1 h
   have b0 := q6x (q2 0 (by simp)) (by omega)
   simp at q1 b0
   refine .inl ⟨rfl, by omega, by unfold bN; omega⟩
 · rw [e] at h ⊢
   obtain ⟨q1, q2⟩ := (q8e _ p (by simp)).1 h
   have b0 := q6x (q2 0 (by simp)) (by omega)
   have b1 := q6x (q2 1 (by simp)) (by omega)
   simp only [Nat.add_zero, List.length_cons, List.length_nil] at q1 b0
   refine .inr (.inl ⟨rfl, by omega, ?_⟩)
   unfold bN
   omega
 · rw [e] at h ⊢
   obtain ⟨q1, q2⟩ := (q8e _ p (by simp)).1 h
   have b0 := q6x (q2 0 (by simp)) (by omega)
   have b1 := q6x (q2 1 (by simp)) (by omega)
   have b2 := q6x (q2 2 (by simp)) (by omega)
   simp only [Nat.add_zero, List.length_cons, List.length_nil] at q1 b0
   refine .inr (.inr (.inl ⟨rfl, by omega, ?_⟩))
   unfold bN
   omega
 · rw [e] at h ⊢
   obtain ⟨q1, q2⟩ := (q8e _ p (by simp)).1 h
   have b0 := q6x (q2 0 (by simp)) (by omega)
   have b1 := q6x (q2 1 (by simp)) (by omega)
   have b2 := q6x (q2 2 (by simp)) (by omega)
   have b3 := q6x (q2 3 (by simp)) (by omega)
   simp only [Nat.add_zero, List.length_cons, List.length_nil] at q1 b0
   refine .inr (.inr (.inr ⟨rfl, by omega, ?_⟩))
   unfold bN
   omega
theorem z05 {n : Nat} (h : q20 l p n = true) : q41 l p n := by
 unfold q20 at h
 rw [Bool.and_eq_true, Bool.and_eq_true, beq_iff_eq] at h
 obtain ⟨h1, h2, h3⟩ := h
 have h0 := j03.1 h1
 have := enc_form (l := l) (p := p) (c := (cvN l p n).toNat) (by rw [show (((cvN l p n).toNat : Nat) : Int) = cvN l p n from by omega]; exact h1) h3
 rwa [h2] at this
def q3p (l : List UInt8) (p : Nat) : Int := if uerr l p = 0 then cvN l p (ulen l p) else -1
theorem wtest_n {n : Nat} (h : q20 l p n = true) : q3p l p = cvN l p n := by
 obtain ⟨h1, h2⟩ := j5y (z05 h)
 unfold q3p
 rw [if_pos h1, h2]
theorem z64 (h1 : q20 l p 1 = false) (h2 : q20 l p 2 = false) (h3 : q20 l p 3 = false) (h4 : q20 l p 4 = false) : q3p l p = -1 := by
 unfold q3p
 rw [if_neg]
 intro he
 have hf := j2o he
 have ht := j3q hf
 have hn : ulen l p = 1 ∨ ulen l p = 2 ∨ ulen l p = 3 ∨ ulen l p = 4 := by unfold q41 at hf; omega
 rcases hn with hn | hn | hn | hn <;> rw [hn] at ht <;> simp_all
theorem z63 {n : Nat} (h : l.length < p + n) : q20 l p n = false ∨ n = 0 := by
 by_cases h0 : n = 0
 · exact .inr h0
 · left
   cases ht : q20 l p n with
   | false => rfl
   | true =>
     have := z05 ht
     unfold q41 at this
     omega
theorem z16 (h : 0 ≤ q3p l p) : uerr l p = 0 ∧ q6n (q3p l p) = true ∧ (uenc (q3p l p).toNat).length = ulen l p := by
 unfold q3p at h ⊢
 by_cases he : uerr l p = 0
 · rw [if_pos he] at h ⊢
   have ht := j3q (j2o he)
   unfold q20 at ht
   rw [Bool.and_eq_true, Bool.and_eq_true, beq_iff_eq] at ht
   exact ⟨he, ht.1, ht.2.1⟩
 · rw [if_neg he] at h
   omega
theorem notest {m : List UInt8} {n : Nat} (h : ∀ k, 1 ≤ k → k < n → q20 m 0 k = false) (hn : q20 m 0 n = false) : ∀ k, 1 ≤ k → k < n + 1 → q20 m 0 k = false := by
 intro k h1 h2
 rcases Nat.lt_or_ge k n with h3 | h3
 · exact h k h1 h3
 · obtain rfl : k = n := by omega
   exact hn
theorem z2x (l : List UInt8) (p i : Nat) : q1g (l.drop p) i = q1g l (p + i) := by
 unfold q1g
 rw [List.getElem?_drop]
theorem bN_drop (l : List UInt8) (p i : Nat) : bN (l.drop p) i = bN l (p + i) := by unfold bN; rw [z2x]
theorem j85 {l : List UInt8} {p n : Nat} : q41 (l.drop p) 0 n ↔ q41 l p n := by
 have e : ∀ k, (k < l.length - p) = (p + k < l.length) := fun k => propext (by omega)
 unfold q41
 simp only [bN_drop, List.length_drop, Nat.zero_add, Nat.add_zero, e]
theorem cvN_drop (l : List UInt8) (p n : Nat) : cvN (l.drop p) 0 n = cvN l p n := by
 unfold cvN
 simp only [bN_drop, Nat.zero_add, Nat.add_zero]
theorem z60 (l : List UInt8) (p : Nat) : q3p (l.drop p) 0 = q3p l p := by
 by_cases h : uerr l p = 0
 · have hf := j2o h
   have h2 := j5y (j85.2 hf)
   unfold q3p
   rw [if_pos h, if_pos h2.1, h2.2, cvN_drop]
 · have h2 : uerr (l.drop p) 0 ≠ 0 := fun e => h (j5y (j85.1 (j2o e))).1
   unfold q3p
   rw [if_neg h, if_neg h2]
def q07 (j : Nat) : List UInt8 := if j = 0 then [128, 128, 128] else if j = 1 then [191, 191, 191] else if j = 2 then [160, 128, 128] else if j = 3 then [144, 128, 128] else if j = 4 then [143, 191, 191] else [159, 191, 191]
theorem j5v (j : Nat) : (q07 j).length = 3 := by
 unfold q07
 repeat' split
 all_goals rfl
end

def byP (b : UInt8) : List PV := [.v (.int .u8 (b.toNat : Int))]
theorem bpvOk (l : List UInt8) : q6i (q0e l) = True := eq_true (j23 l)
theorem z4o (c : Int) : Told Tryz.prog 247 [.c (.v (.int .i64 c))] (.c (.v (.bool (q6n c)))) := by
 obtain ⟨V, hV⟩ : ∃ V, V = q6n c := ⟨_, rfl⟩
 rw [← hV]
 have hv : V = ((decide (c ≥ 0) && decide (c ≤ 1114111)) && (decide (c < 55296) || decide (c > 57343))) := by
  rw [hV, q6n, Bool.eq_iff_iff]
  simp
  omega
 clear hV
 replace hv := Lib.hid hv
 refine VC.toldP ent_247 Tryz.func247 rfl Tryz.ntmps247 fun hb => ?_
 clear hb
 refine q0b ?_
 refine retX Tryz.results247 ?_
 rw [hv.out]
 exact .c _
theorem j6k (c : Nat) (hc : c ≤ 1114111) : Told Tryz.prog 240 [.c (.v (.int .i64 (c : Int)))] (.c (.sl 1 (q0e (uenc c)))) := by
 have hU : ∀ (z : Int) (n : Nat), z = (n : Int) → n < 256 → IntKind.u8.wrap z = ((n.toUInt8).toNat : Int) := fun z n h1 h2 => by
  rw [IntKind.wrap_u8, h1]
  simp
 have hQ : ∀ (a b : Nat), a ≤ 1114111 → IntKind.i64.wrap (Int.tdiv (a : Int) (b : Int)) = ((a / b : Nat) : Int) := fun a b h => by
  have e : Int.tdiv (a : Int) (b : Int) = ((a / b : Nat) : Int) := by simp [Int.tdiv]
  have := Nat.div_le_self a b
  rw [e]
  generalize a / b = q at this
  exact q0f (by omega) (by omega)
 have hR : ∀ (a b : Nat), Int.tmod (a : Int) (b : Int) = ((a % b : Nat) : Int) := fun a b => by simp [Int.tmod]
 have hW : ∀ (k n : Nat), k + n < 256 → IntKind.u8.wrap (IntKind.i64.wrap ((k : Int) + (n : Int))) = (((k + n).toUInt8).toNat : Int) := fun k n h => by
  rw [q0f (by omega) (by omega)]
  exact hU _ (k + n) (by omega) h
 have q1 := hQ c 64 hc
 have q2 := hQ c 4096 hc
 have q3 := hQ c 262144 hc
 have r1 := hR c 64
 have r2 := hR (c / 64) 64
 have r3 := hR (c / 4096) 64
 by_cases h1 : c < 128
 · have hE : uenc c = [c.toUInt8] := by rw [uenc, if_pos h1]
   have e1 : decide ((c : Int) < 128) = true := by simp; omega
   rw [hE]
   refine VC.toldP j3k Tryz.func240 rfl Tryz.ntmps240 fun hb => ?_
   clear hb
   refine q0a (e1) ?_
   rw [hU (c : Int) c rfl (by omega)]
   refine retX Tryz.results240 ?_
   exact q37 (f := byP) (l := [c.toUInt8]) rfl rfl rfl (by simp [byP])
 have e1 : decide ((c : Int) < 128) = false := by simp; omega
 by_cases h2 : c < 2048
 · have hE : uenc c = [(192 + c / 64).toUInt8, (128 + c % 64).toUInt8] := by rw [uenc, if_neg h1, if_pos h2]
   have e2 : decide ((c : Int) < 2048) = true := by simp; omega
   rw [hE]
   refine VC.toldP j3k Tryz.func240 rfl Tryz.ntmps240 fun hb => ?_
   clear hb
   refine q0a (And.intro e1 e2) ?_
   rw [show (64 : Int) = ((64 : Nat) : Int) from rfl, q1, r1, show (192 : Int) = ((192 : Nat) : Int) from rfl, show (128 : Int) = ((128 : Nat) : Int) from rfl, hW 192 _ (by omega), hW 128 _ (by omega)]
   refine retX Tryz.results240 ?_
   exact q37 (f := byP) (l := [(192 + c / 64).toUInt8, (128 + c % 64).toUInt8]) rfl rfl rfl (by simp [byP])
 have e2 : decide ((c : Int) < 2048) = false := by simp; omega
 by_cases h3 : c < 65536
 · have hE : uenc c = [(224 + c / 4096).toUInt8, (128 + c / 64 % 64).toUInt8, (128 + c % 64).toUInt8] := by rw [uenc, if_neg h1, if_neg h2, if_pos h3]
   have e3 : decide ((c : Int) < 65536) = true := by simp; omega
   rw [hE]
   refine VC.toldP j3k Tryz.func240 rfl Tryz.ntmps240 fun hb => ?_
   clear hb
   refine q0a (And.intro e1 (And.intro e2 e3)) ?_
   rw [show (64 : Int) = ((64 : Nat) : Int) from rfl, show (4096 : Int) = ((4096 : Nat) : Int) from rfl, q1, q2, r1, r2, show (224 : Int) = ((224 : Nat) : Int) from rfl, show (128 : Int) = ((128 : Nat) : Int) from rfl, hW 224 _ (by omega), hW 128 (c / 64 % 64) (by omega), hW 128 (c % 64) (by omega)]
   refine retX Tryz.results240 ?_
   exact q37 (f := byP) (l := [(224 + c / 4096).toUInt8, (128 + c / 64 % 64).toUInt8, (128 + c % 64).toUInt8]) rfl rfl rfl (by simp [byP])
 · have hE : uenc c = [(240 + c / 262144).toUInt8, (128 + c / 4096 % 64).toUInt8, (128 + c / 64 % 64).toUInt8, (128 + c % 64).toUInt8] := by rw [uenc, if_neg h1, if_neg h2, if_neg h3]
   have e3 : decide ((c : Int) < 65536) = false := by simp; omega
   rw [hE]
   refine VC.toldP j3k Tryz.func240 rfl Tryz.ntmps240 fun hb => ?_
   clear hb
   refine q0a (And.intro e1 (And.intro e2 e3)) ?_
   rw [show (64 : Int) = ((64 : Nat) : Int) from rfl, show (4096 : Int) = ((4096 : Nat) : Int) from rfl, show (262144 : Int) = ((262144 : Nat) : Int) from rfl, q1, q2, q3, r1, r2, r3, show (240 : Int) = ((240 : Nat) : Int) from rfl, show (128 : Int) = ((128 : Nat) : Int) from rfl, hW 240 _ (by omega), hW 128 (c / 64 % 64) (by omega), hW 128 (c % 64) (by omega), hW 128 (c / 4096 % 64) (by omega)]
   refine retX Tryz.results240 ?_
   exact q37 (f := byP) (l := [(240 + c / 262144).toUInt8, (128 + c / 4096 % 64).toUInt8, (128 + c / 64 % 64).toUInt8, (128 + c % 64).toUInt8]) rfl rfl rfl (by simp [byP])
theorem z5m (b a : List UInt8) (hb1 : b.length ≤ 1000000) (ha1 : a.length ≤ 1000000) : Told Tryz.prog 248 [.c (.sl 1 (q0e b)), .c (.sl 1 (q0e a))] (.c (.v (.bool (a.isPrefixOf b)))) := by
 have la : (q0e a).length = a.length := by simp [q0e]
 have lb : (q0e b).length = b.length := by simp [q0e]
 have tb : (q0e b).take a.length = q0e (b.take a.length) := by simp [q0e, List.map_take]
 by_cases h : a.length ≤ b.length
 · have hv : a.isPrefixOf b = (b.take a.length == a) := by
    rw [Bool.eq_iff_iff, List.isPrefixOf_iff_prefix, List.prefix_iff_eq_take, beq_iff_eq]
    exact ⟨fun e => e.symm, fun e => e.symm⟩
   have e1 : decide ((a.length : Int) ≤ (b.length : Int)) = true := by simp; omega
   have s1 : (⟨(b.take a.length).toArray⟩ : ByteArray).toList = b.take a.length := q17 _
   have s2 : (⟨a.toArray⟩ : ByteArray).toList = a := q17 _
   rw [hv]
   refine VC.toldP ent_248 Tryz.func248 rfl Tryz.ntmps248 fun hb => ?_
   clear hb
   (repeat (first | refine pass ?_ | refine VC.region (by rfl) (by rfl) ?_ | (refine AO.step fun K hK => ?_; simp only [la, lb, e1, tb, j24, bpvOk, bstr, s1, s2, go_sem, Int.reduceBEq, Int.reduceLE, Int.reduceLT, Int.reduceNeg, Nat.reduceAdd, Nat.reduceEqDiff, Nat.reduceLT, Nat.reduceLeDiff, Nat.reduceMul, Nat.reduceSub, reduceCtorEq, ↓reduceIte]; (first | refine q4q ?_ | refine q1k ?_ | skip); (first | refine hK _ _ _ ?_ | refine ⟨by first | omega | exact ⟨_, rfl, rfl⟩ | exact fun _ => ⟨_, rfl, rfl⟩ | (intro h; simp only [la, lb, e1, tb, j24, bpvOk, bstr, s1, s2, h, true_and]; omega) | (clear hK; intro h; simp_all <;> omega), hK _ _ _ ?_⟩); clear hK K) | refine VC.draw mixP (by rfl) (by rfl) ?_ | refine ⟨q4v (by kernel_rfl), ?_⟩ | refine BQ.other (by decide) ?_ | refine VC.seq ?_ | refine AO.nil ?_ | refine VC.block ?_))
   refine retX Tryz.results248 ?_
   exact .c _
 · have hv : a.isPrefixOf b = false := by
    rw [Bool.eq_false_iff]
    intro e
    exact h (List.isPrefixOf_iff_prefix.1 e).length_le
   have e1 : decide ((a.length : Int) ≤ (b.length : Int)) = false := by simp; omega
   rw [hv]
   refine VC.toldP ent_248 Tryz.func248 rfl Tryz.ntmps248 fun hb => ?_
   clear hb
   refine q0a (And.intro la (And.intro lb e1)) ?_
   refine retX Tryz.results248 ?_
   exact .c _

inductive MQF {ι : Type} (l : ι → List (Nat × AV)) (hl : ι → List (Nat × Blkd)) (n : Nat) (Q : Exit → ASt → Prop) : Exit → ASt → Prop
 | normal {σ : ASt} (j : ι) (h : Weak σ (l j) (hl j) n) : MQF l hl n Q .normal σ
 | ret {σ : ASt} (h : Q .ret σ) : MQF l hl n Q .ret σ
 | exit {σ : ASt} {id : Nat} (h : Q (.exit id) σ) : MQF l hl n Q (.exit id) σ
instance pF1 {ι : Type} {lv : ι → List (Nat × AV)} {hl : ι → List (Nat × Blkd)} {n : Nat} {σ : ASt} {Q : Exit → ASt → Prop} : Pass (MQF lv hl n Q .ret σ) (Q .ret σ) := ⟨.ret⟩
instance pF2 {ι : Type} {lv : ι → List (Nat × AV)} {hl : ι → List (Nat × Blkd)} {n : Nat} {σ : ASt} {Q : Exit → ASt → Prop} {id : Nat} : Pass (MQF lv hl n Q (.exit id) σ) (Q (.exit id) σ) := ⟨.exit⟩
theorem VC.meetF {P : Program} {N : Nat} {σ : ASt} {Q : Exit → ASt → Prop} {x y : Code} {ι : Type} (l : ι → List (Nat × AV)) (hl : ι → List (Nat × Blkd)) (n : Nat) (h1 : VC P N x σ (MQF l hl n Q)) (h2 : ∀ j, VC P N y (st (l j) (hl j) n) Q) : VC P N x σ (SQ P N y Q) :=
 h1.mono fun e σ h => by
  cases h with
  | normal j h => exact .normal (VC.weak (l j) (hl j) n h (h2 j))
  | ret h => exact .ret h
  | exit h => exact .exit h

def q8m : List Int := [0, 64, 4096, 262144]
def q8b : List Int := [0, 192, 224, 240]
def cvS (l : List UInt8) (n : Nat) : Nat → Int
 | 0 => if n = 1 then (bN l 0 : Int) else if n = 2 then ((bN l 0 : Int) - 192) * 64 else if n = 3 then ((bN l 0 : Int) - 224) * 4096 else ((bN l 0 : Int) - 240) * 262144
 | i + 1 => cvS l n i + ((bN l (i + 1) : Int) - 128) * ((64 ^ (n - 1 - (i + 1)) : Nat) : Int)
theorem cvS_end {l : List UInt8} {n : Nat} (h1 : 1 ≤ n) (h4 : n ≤ 4) : cvS l n (n - 1) = cvN l 0 n := by
 rcases (by omega : n = 1 ∨ n = 2 ∨ n = 3 ∨ n = 4) with rfl | rfl | rfl | rfl <;> simp [cvS, cvN]
theorem cvS_le {l : List UInt8} {n : Nat} (h1 : 1 ≤ n) (h4 : n ≤ 4) : ∀ i, i < n → -100000000 * ((i : Int) + 1) ≤ cvS l n i ∧ cvS l n i ≤ 100000000 * ((i : Int) + 1)
 | 0, _ => by
   have := bN_lt l 0
   unfold cvS
   split
   · omega
   · split
     · omega
     · split <;> omega
 | i + 1, h => by
   obtain ⟨a, b⟩ := cvS_le (l := l) h1 h4 i (by omega)
   have := bN_lt l (i + 1)
   have hp : 64 ^ (n - 1 - (i + 1)) ≤ 4096 := by
    have : n - 1 - (i + 1) ≤ 2 := by omega
    calc 64 ^ (n - 1 - (i + 1)) ≤ 64 ^ 2 := Nat.pow_le_pow_right (by omega) this
     _ = 4096 := rfl
   rw [cvS]
   generalize 64 ^ (n - 1 - (i + 1)) = p at hp ⊢
   have h1 : ((bN l (i + 1) : Int) - 128) * (p : Int) ≤ 128 * 4096 := by
    by_cases hs : (bN l (i + 1) : Int) - 128 ≤ 0
    · have := Int.mul_nonpos_of_nonpos_of_nonneg hs (by omega : (0 : Int) ≤ p)
      omega
    · exact Int.mul_le_mul (by omega) (by omega) (by omega) (by omega)
   have h2 : -(128 * 4096) ≤ ((bN l (i + 1) : Int) - 128) * (p : Int) := by
    have : (128 - (bN l (i + 1) : Int)) * (p : Int) ≤ 128 * 4096 := by
     by_cases hs : 128 - (bN l (i + 1) : Int) ≤ 0
     · have := Int.mul_nonpos_of_nonpos_of_nonneg hs (by omega : (0 : Int) ≤ p)
       omega
     · exact Int.mul_le_mul (by omega) (by omega) (by omega) (by omega)
    have e : (128 - (bN l (i + 1) : Int)) * (p : Int) = -(((bN l (i + 1) : Int) - 128) * (p : Int)) := by rw [← Int.neg_mul]; congr 1; omega
    omega
   have e : ((i + 1 : Nat) : Int) = (i : Int) + 1 := by omega
   rw [e]
   constructor <;> omega
theorem z0r (m : List UInt8) (hbig : m.length ≤ 1000000) : Told Tryz.prog 239 [.c (.sl 1 (q0e m))] (.c (.v (.int .i64 (q3p m 0)))) := by
 have hlen : (q0e m).length = m.length := by simp [q0e]
 obtain ⟨V, hV⟩ : ∃ V, V = q3p m 0 := ⟨_, rfl⟩
 rw [← hV]
 refine VC.toldP ent_239 Tryz.func239 rfl Tryz.ntmps239 fun hb => ?_
 clear hb
 refine j0r ?_
 refine j0r ?_
 refine j0r ?_
 refine VC.frz [8, 24] [(0, .c (.sl 1 (q0e m))), (3, .c (.sl 1 (q8m.map iPV))), (4, .c (.sl 1 (q8b.map iPV)))] [] 400 ?_ ?_
 · refine wkfX ?_
   exact ⟨.same _, .row (B := ⟨true, 2, 1, [[.c (.v (.int .i64 0))], [.c (.v (.int .i64 64))], [.c (.v (.int .i64 4096))], [.c (.v (.int .i64 262144))]]⟩) (es := q8m.map iPV) (by simp) rfl rfl rfl rfl,
    .row (B := ⟨true, 2, 1, [[.c (.v (.int .i64 0))], [.c (.v (.int .i64 192))], [.c (.v (.int .i64 224))], [.c (.v (.int .i64 240))]]⟩) (es := q8b.map iPV) (by simp) rfl rfl rfl rfl⟩
 refine q0b ?_
 refine VC.loop (ι := {n : Nat // 1 ≤ n ∧ n ≤ 5 ∧ ∀ k, 1 ≤ k → k < n → q20 m 0 k = false}) (fun q => [(0, .c (.sl 1 (q0e m))), (3, .c (.sl 1 (q8m.map iPV))), (4, .c (.sl 1 (q8b.map iPV))), (5, .c (.v (.int .i64 (q.1 : Int))))]) (fun _ => []) 800 (fun q => 5 - q.1)
  ⟨1, by omega, by omega, fun k h1 h2 => by omega⟩ ?_ ?_
 · exact q2z
 rintro ⟨n, hn1, hn5, hno⟩
 simp only []
 refine q0c (hlen) ?_
 refine VC.cond (by rfl) (by trivial) (fun hc => ?_) (fun hc => ?_)
 rotate_left
 · have hf : V = -1 := by
    have hend : n = 5 ∨ m.length < n := by
     simp at hc
     omega
    have hall : ∀ k, 1 ≤ k → k ≤ 4 → q20 m 0 k = false := fun k h1 h2 => by
     by_cases hk : k < n
     · exact hno k h1 hk
     · rcases z63 (l := m) (p := 0) (n := k) (by omega) with h | h
       · exact h
       · omega
    rw [hV]
    exact z64 (hall 1 (by omega) (by omega)) (hall 2 (by omega) (by omega)) (hall 3 (by omega) (by omega)) (hall 4 (by omega) (by omega))
   subst hf
   refine q0b ?_
   refine retX Tryz.results239 ?_
   exact .c _
 have hn4 : n ≤ 4 ∧ n ≤ m.length := by
  simp at hc
  omega
 clear hc
 have hp0 := pv_at (l := m) (i := 0) (by omega)
 have hb0 : ((q1g m 0).toNat : Int) = (bN m 0 : Int) := rfl
 have hbl := bN_lt m 0
 rw [hb0] at hp0
 refine q0c (hp0) ?_
 refine VC.meet [(0, .c (.sl 1 (q0e m))), (3, .c (.sl 1 (q8m.map iPV))), (4, .c (.sl 1 (q8b.map iPV))), (5, .c (.v (.int .i64 (n : Int)))), (6, .c (.v (.int .i64 (cvS m n 0))))] [] 2000 ?_ ?_
 · have hwb : IntKind.i64.wrap (bN m 0 : Int) = (bN m 0 : Int) := q0f (by omega) (by omega)
   by_cases hn : n = 1
   · subst hn
     have hcv : cvS m 1 0 = (bN m 0 : Int) := by simp [cvS]
     rw [hcv]
     refine q0a (hwb) ?_
     refine .normal ?_
     exact q2f (hwb)
   · obtain ⟨mk, sz, hmk, hsz, hcv, hb1, hb2⟩ : ∃ mk sz : Int, (q8b.map iPV)[n - 1]? = some (iPV mk) ∧ (q8m.map iPV)[n - 1]? = some (iPV sz) ∧ cvS m n 0 = ((bN m 0 : Int) - mk) * sz ∧ (0 ≤ mk ∧ mk ≤ 1000) ∧ (-1000000000 ≤ ((bN m 0 : Int) - mk) * sz ∧ ((bN m 0 : Int) - mk) * sz ≤ 1000000000) := by
      rcases (by omega : n = 2 ∨ n = 3 ∨ n = 4) with rfl | rfl | rfl
      · exact ⟨192, 64, rfl, rfl, by simp [cvS], by omega, by omega⟩
      · exact ⟨224, 4096, rfl, rfl, by simp [cvS], by omega, by omega⟩
      · exact ⟨240, 262144, rfl, rfl, by simp [cvS], by omega, by omega⟩
     rw [hcv]
     have hw1 : IntKind.i64.wrap ((n : Int) - 1) = ((n - 1 : Nat) : Int) := by rw [q0f (by omega) (by omega)]; omega
     have hw2 : IntKind.i64.wrap ((bN m 0 : Int) - mk) = (bN m 0 : Int) - mk := q0f (by omega) (by omega)
     have hw3 : IntKind.i64.wrap (((bN m 0 : Int) - mk) * sz) = ((bN m 0 : Int) - mk) * sz := q0f (by omega) (by omega)
     have hml : (q8b.map iPV).length = 4 := rfl
     have hsl : (q8m.map iPV).length = 4 := rfl
     refine VC.cond (by rfl) (by trivial) (fun hc4 => ?_) (fun hc4 => ?_)
     rotate_left
     · exact absurd hc4 (by simp; omega)
     refine q0c (And.intro hp0 (And.intro hw1 (And.intro hmk (And.intro hsz (And.intro @q3b (And.intro hwb (And.intro hw2 (And.intro hw3 (And.intro hml hsl))))))))) ?_
     refine .normal ?_
     exact q2f (hw3)
 refine q0b ?_
 refine VC.loop (ι := {i : Nat // 1 ≤ i ∧ i ≤ n}) (fun q => [(0, .c (.sl 1 (q0e m))), (3, .c (.sl 1 (q8m.map iPV))), (4, .c (.sl 1 (q8b.map iPV))), (5, .c (.v (.int .i64 (n : Int)))), (6, .c (.v (.int .i64 (cvS m n (q.1 - 1))))), (7, .c (.v (.int .i64 (q.1 : Int))))]) (fun _ => []) 4000 (fun q => n - q.1)
  ⟨1, Nat.le_refl _, hn1⟩ ?_ ?_
 · simp only [Weak, eq_self, q0v, q0p, sc_c, q0r, q0s, q0t, q0o, q0q, ScL, q0u, List.forall_mem_map, go_sem, Int.reduceBEq, Int.reduceLE, Int.reduceLT, Int.reduceNeg, Nat.reduceAdd, Nat.reduceEqDiff, Nat.reduceLT, Nat.reduceLeDiff, Nat.reduceMul, Nat.reduceSub, reduceCtorEq, ↓reduceIte]
   try simp
 rintro ⟨i, hi1, hin⟩
 simp only []
 refine q0b ?_
 refine VC.cond (by rfl) (by trivial) (fun hc => ?_) (fun hc => ?_)
 · have hlt : i < n := by simp at hc; omega
   have hw : IntKind.i64.wrap ((i : Int) + 1) = (i : Int) + 1 := q0f (by omega) (by omega)
   refine q0c (hw) ?_
   refine VC.loop (ι := {q : Nat × Nat // i + 1 ≤ q.1 ∧ q.1 ≤ n ∧ q.2 = 64 ^ (q.1 - (i + 1))}) (fun q => [(0, .c (.sl 1 (q0e m))), (3, .c (.sl 1 (q8m.map iPV))), (4, .c (.sl 1 (q8b.map iPV))), (5, .c (.v (.int .i64 (n : Int)))), (6, .c (.v (.int .i64 (cvS m n (i - 1))))), (7, .c (.v (.int .i64 (i : Int)))), (8, .c (.v (.int .i64 (q.1.2 : Int)))), (9, .c (.v (.int .i64 (q.1.1 : Int))))]) (fun _ => []) 6000 (fun q => n - q.1.1)
    ⟨(i + 1, 1), Nat.le_refl _, hlt, by simp⟩ ?_ ?_
   · simp only [Weak, eq_self, q0v, q0p, sc_c, q0r, q0s, q0t, q0o, q0q, ScL, q0u, List.forall_mem_map, go_sem, Int.reduceBEq, Int.reduceLE, Int.reduceLT, Int.reduceNeg, Nat.reduceAdd, Nat.reduceEqDiff, Nat.reduceLT, Nat.reduceLeDiff, Nat.reduceMul, Nat.reduceSub, reduceCtorEq, ↓reduceIte]
     try exact cI (by omega)
   rintro ⟨⟨k, p⟩, hk1, hk2, hp⟩
   simp only [] at hk1 hk2 hp ⊢
   have hpl : p ≤ 4096 := by
    rw [hp]
    calc 64 ^ (k - (i + 1)) ≤ 64 ^ 2 := Nat.pow_le_pow_right (by omega) (by omega)
     _ = 4096 := rfl
   refine q0b ?_
   refine VC.cond (by rfl) (by trivial) (fun hc2 => ?_) (fun hc2 => ?_)
   · have hlk : k < n := by simp at hc2; omega
     have hwk : IntKind.i64.wrap ((k : Int) + 1) = (k : Int) + 1 := q0f (by omega) (by omega)
     have hwp : IntKind.i64.wrap ((p : Int) * 64) = (p : Int) * 64 := q0f (by omega) (by omega)
     refine q0c (And.intro hwk hwp) ?_
     refine .next ⟨(k + 1, p * 64), by simp only []; omega, by simp only []; omega, by simp only []; rw [hp, show k + 1 - (i + 1) = (k - (i + 1)) + 1 by omega, Nat.pow_succ]⟩ ?_ (by simp only []; omega)
     refine q5b ?_
     exact ⟨cI (by omega), cI (by omega)⟩
   · have hke : k = n := by simp at hc2; omega
     subst hke
     have hpi := pv_at (l := m) (i := i) (by omega)
     have hbi : ((q1g m i).toNat : Int) = (bN m i : Int) := rfl
     have hbil := bN_lt m i
     rw [hbi] at hpi
     have hwi : IntKind.i64.wrap (bN m i : Int) = (bN m i : Int) := q0f (by omega) (by omega)
     have hw1 : IntKind.i64.wrap ((bN m i : Int) - 128) = (bN m i : Int) - 128 := q0f (by omega) (by omega)
     have hcs : cvS m k i = cvS m k (i - 1) + ((bN m i : Int) - 128) * (p : Int) := by
      obtain ⟨j, rfl⟩ : ∃ j, i = j + 1 := ⟨i - 1, by omega⟩
      rw [cvS, hp, show j + 1 - 1 = j by omega, show k - 1 - (j + 1) = k - (j + 1 + 1) by omega]
     have hbd := cvS_le (l := m) hn1 (by omega) (i - 1) (by omega)
     have hbd2 := cvS_le (l := m) hn1 (by omega) i (by omega)
     rw [hcs] at hbd2
     have hw2 : IntKind.i64.wrap (((bN m i : Int) - 128) * (p : Int)) = ((bN m i : Int) - 128) * (p : Int) := q0f (by omega) (by omega)
     have hw3 : IntKind.i64.wrap (cvS m k (i - 1) + ((bN m i : Int) - 128) * (p : Int)) = cvS m k (i - 1) + ((bN m i : Int) - 128) * (p : Int) := q0f (by omega) (by omega)
     refine q0c (And.intro hpi (And.intro hwi (And.intro hw1 (And.intro hw2 (And.intro hw3 hw))))) ?_
     refine .next ⟨i + 1, by omega, by omega⟩ ?_ (by simp only []; omega)
     refine q1j (hcs) ?_
     refine ⟨?_, cI (by omega)⟩
     rw [show i + 1 - 1 = i by omega, hcs]
 · have hie : i = n := by simp at hc; omega
   subst hie
   rw [cvS_end hn1 hn4.1]
   have hC := z4o (cvN m 0 i)
   by_cases hch : q6n (cvN m 0 i) = true
   rotate_left
   · have hch : q6n (cvN m 0 i) = false := by simpa using hch
     rw [hch] at hC
     have ht : q20 m 0 i = false := by rw [q20, hch]; rfl
     have hw : IntKind.i64.wrap ((i : Int) + 1) = (i : Int) + 1 := q0f (by omega) (by omega)
     refine q0b ?_
     refine q0j (hC) ?_
     refine q0a (hw) ?_
     refine .next ⟨i + 1, by omega, by omega, notest hno ht⟩ ?_ (by simp only []; omega)
     refine q5b ?_
     exact cI (by omega)
   · have hci := j03.1 hch
     rw [hch] at hC
     obtain ⟨c, hcc⟩ : ∃ c : Nat, cvN m 0 i = (c : Int) := ⟨(cvN m 0 i).toNat, by omega⟩
     have hw : IntKind.i64.wrap ((i : Int) + 1) = (i : Int) + 1 := q0f (by omega) (by omega)
     have ht : q20 m 0 i = (((uenc c).length == i) && (uenc c).isPrefixOf m) := by rw [q20, hch, hcc]; simp
     have hVn := fun h : q20 m 0 i = true => wtest_n (l := m) (p := 0) h
     rw [← hV, hcc] at hVn
     rw [hcc] at hC ⊢
     have hP := j6k c (by omega)
     have hul := z1c c
     have hS := z5m m (uenc c) hbig (by omega)
     have hpl : (q0e (uenc c)).length = (uenc c).length := by simp [q0e]
     obtain ⟨b, hb⟩ : ∃ b, b = (uenc c).isPrefixOf m := ⟨_, rfl⟩
     rw [← hb] at hS ht
     refine q0b ?_
     refine q0j (hC) ?_
     refine q0b ?_
     refine q0j (hP) ?_
     refine q0c (hpl) ?_
     refine q2m (hP) ?_
     refine q0c (hpl) ?_
     refine q2m (hS) ?_
     refine q0b ?_
     refine VC.cond (by rfl) (by trivial) (fun hc3 => ?_) (fun hc3 => ?_)
     · have ht1 : q20 m 0 i = true := by
        rw [ht]
        simp at hc3 ⊢
        exact ⟨by omega, hc3.2⟩
       obtain rfl : V = (c : Int) := hVn ht1
       refine q0b ?_
       refine retX Tryz.results239 ?_
       exact .c _
     · have ht1 : q20 m 0 i = false := by
        rw [ht]
        simp at hc3 ⊢
        intro h1
        exact hc3 (by omega)
       refine q0c (hw) ?_
       refine .next ⟨i + 1, by omega, by omega, notest hno ht1⟩ ?_ (by simp only []; omega)
       refine q5b ?_
       exact cI (by omega)
def begB (m : List UInt8) (j : Nat) : Bool := decide (0 ≤ q3p (m ++ q07 j) 0) && decide (m.length < (uenc (q3p (m ++ q07 j) 0).toNat).length)
theorem z4n (m : List UInt8) (hbig : m.length ≤ 1000) : ∃ b, Told Tryz.prog 241 [.c (.sl 1 (q0e m))] (.c (.v (.bool b))) := by
 have hlen : (q0e m).length = m.length := by simp [q0e]
 by_cases h0 : m.length = 0
 · refine ⟨true, ?_⟩
   have e0 : ((m.length : Int) == 0) = true := by rw [h0]; rfl
   refine VC.toldP ent_241 Tryz.func241 rfl Tryz.ntmps241 fun hb => ?_
   clear hb
   refine q0a (And.intro hlen e0) ?_
   refine retX Tryz.results241 ?_
   exact .c _
 have e0 : ((m.length : Int) == 0) = false := beq_eq_false_iff_ne.2 (by omega)
 obtain ⟨V, hV⟩ : ∃ V, V = (List.range 6).any (begB m) := ⟨_, rfl⟩
 refine ⟨V, ?_⟩
 refine VC.toldP ent_241 Tryz.func241 rfl Tryz.ntmps241 fun hb => ?_
 clear hb
 refine q0a (And.intro hlen e0) ?_
 refine VC.frz [32] [(0, .c (.sl 1 (q0e m))), (3, .row 80 6), (4, .c (.v (.int .i64 0)))] [(40, ⟨true, 5, 1, [[.c (.v (.int .u8 191))], [.c (.v (.int .u8 191))], [.c (.v (.int .u8 191))]]⟩), (48, ⟨true, 5, 1, [[.c (.v (.int .u8 160))], [.c (.v (.int .u8 128))], [.c (.v (.int .u8 128))]]⟩), (56, ⟨true, 5, 1, [[.c (.v (.int .u8 144))], [.c (.v (.int .u8 128))], [.c (.v (.int .u8 128))]]⟩), (64, ⟨true, 5, 1, [[.c (.v (.int .u8 143))], [.c (.v (.int .u8 191))], [.c (.v (.int .u8 191))]]⟩), (72, ⟨true, 5, 1, [[.c (.v (.int .u8 159))], [.c (.v (.int .u8 191))], [.c (.v (.int .u8 191))]]⟩), (80, ⟨true, 40, 1, [[.c (.sl 1 (q0e (q07 0)))], [.row 40 3], [.row 48 3], [.row 56 3], [.row 64 3], [.row 72 3]]⟩)] 400 ?_ ?_
 · refine wkfX ?_
   exact ⟨⟨.same _, .same _, .same _⟩, .same _, .same _, .same _, .same _, .same _, .set (i := 0) (e' := [.c (.sl 1 (q0e (q07 0)))]) rfl (.cons (.row (B := ⟨true, 5, 1, [[.c (.v (.int .u8 128))], [.c (.v (.int .u8 128))], [.c (.v (.int .u8 128))]]⟩) (es := q0e (q07 0)) (by simp) rfl rfl rfl rfl) .nil) (by simp [AV.cellish])⟩
 refine VC.frz [40] [(0, .c (.sl 1 (q0e m))), (3, .row 80 6), (4, .c (.v (.int .i64 0)))] [(48, ⟨true, 5, 1, [[.c (.v (.int .u8 160))], [.c (.v (.int .u8 128))], [.c (.v (.int .u8 128))]]⟩), (56, ⟨true, 5, 1, [[.c (.v (.int .u8 144))], [.c (.v (.int .u8 128))], [.c (.v (.int .u8 128))]]⟩), (64, ⟨true, 5, 1, [[.c (.v (.int .u8 143))], [.c (.v (.int .u8 191))], [.c (.v (.int .u8 191))]]⟩), (72, ⟨true, 5, 1, [[.c (.v (.int .u8 159))], [.c (.v (.int .u8 191))], [.c (.v (.int .u8 191))]]⟩), (80, ⟨true, 40, 1, [[.c (.sl 1 (q0e (q07 0)))], [.c (.sl 1 (q0e (q07 1)))], [.row 48 3], [.row 56 3], [.row 64 3], [.row 72 3]]⟩)] 400 ?_ ?_
 · refine wkfX ?_
   exact ⟨⟨.same _, .same _, .same _⟩, .same _, .same _, .same _, .same _, .set (i := 1) (e' := [.c (.sl 1 (q0e (q07 1)))]) rfl (.cons (.row (B := ⟨true, 5, 1, [[.c (.v (.int .u8 191))], [.c (.v (.int .u8 191))], [.c (.v (.int .u8 191))]]⟩) (es := q0e (q07 1)) (by simp) rfl rfl rfl rfl) .nil) (by simp [AV.cellish])⟩
 refine VC.frz [48] [(0, .c (.sl 1 (q0e m))), (3, .row 80 6), (4, .c (.v (.int .i64 0)))] [(56, ⟨true, 5, 1, [[.c (.v (.int .u8 144))], [.c (.v (.int .u8 128))], [.c (.v (.int .u8 128))]]⟩), (64, ⟨true, 5, 1, [[.c (.v (.int .u8 143))], [.c (.v (.int .u8 191))], [.c (.v (.int .u8 191))]]⟩), (72, ⟨true, 5, 1, [[.c (.v (.int .u8 159))], [.c (.v (.int .u8 191))], [.c (.v (.int .u8 191))]]⟩), (80, ⟨true, 40, 1, [[.c (.sl 1 (q0e (q07 0)))], [.c (.sl 1 (q0e (q07 1)))], [.c (.sl 1 (q0e (q07 2)))], [.row 56 3], [.row 64 3], [.row 72 3]]⟩)] 400 ?_ ?_
 · refine wkfX ?_
   exact ⟨⟨.same _, .same _, .same _⟩, .same _, .same _, .same _, .set (i := 2) (e' := [.c (.sl 1 (q0e (q07 2)))]) rfl (.cons (.row (B := ⟨true, 5, 1, [[.c (.v (.int .u8 160))], [.c (.v (.int .u8 128))], [.c (.v (.int .u8 128))]]⟩) (es := q0e (q07 2)) (by simp) rfl rfl rfl rfl) .nil) (by simp [AV.cellish])⟩
 refine VC.frz [56] [(0, .c (.sl 1 (q0e m))), (3, .row 80 6), (4, .c (.v (.int .i64 0)))] [(64, ⟨true, 5, 1, [[.c (.v (.int .u8 143))], [.c (.v (.int .u8 191))], [.c (.v (.int .u8 191))]]⟩), (72, ⟨true, 5, 1, [[.c (.v (.int .u8 159))], [.c (.v (.int .u8 191))], [.c (.v (.int .u8 191))]]⟩), (80, ⟨true, 40, 1, [[.c (.sl 1 (q0e (q07 0)))], [.c (.sl 1 (q0e (q07 1)))], [.c (.sl 1 (q0e (q07 2)))], [.c (.sl 1 (q0e (q07 3)))], [.row 64 3], [.row 72 3]]⟩)] 400 ?_ ?_
 · refine wkfX ?_
   exact ⟨⟨.same _, .same _, .same _⟩, .same _, .same _, .set (i := 3) (e' := [.c (.sl 1 (q0e (q07 3)))]) rfl (.cons (.row (B := ⟨true, 5, 1, [[.c (.v (.int .u8 144))], [.c (.v (.int .u8 128))], [.c (.v (.int .u8 128))]]⟩) (es := q0e (q07 3)) (by simp) rfl rfl rfl rfl) .nil) (by simp [AV.cellish])⟩
 refine VC.frz [64] [(0, .c (.sl 1 (q0e m))), (3, .row 80 6), (4, .c (.v (.int .i64 0)))] [(72, ⟨true, 5, 1, [[.c (.v (.int .u8 159))], [.c (.v (.int .u8 191))], [.c (.v (.int .u8 191))]]⟩), (80, ⟨true, 40, 1, [[.c (.sl 1 (q0e (q07 0)))], [.c (.sl 1 (q0e (q07 1)))], [.c (.sl 1 (q0e (q07 2)))], [.c (.sl 1 (q0e (q07 3)))], [.c (.sl 1 (q0e (q07 4)))], [.row 72 3]]⟩)] 400 ?_ ?_
 · refine wkfX ?_
   exact ⟨⟨.same _, .same _, .same _⟩, .same _, .set (i := 4) (e' := [.c (.sl 1 (q0e (q07 4)))]) rfl (.cons (.row (B := ⟨true, 5, 1, [[.c (.v (.int .u8 143))], [.c (.v (.int .u8 191))], [.c (.v (.int .u8 191))]]⟩) (es := q0e (q07 4)) (by simp) rfl rfl rfl rfl) .nil) (by simp [AV.cellish])⟩
 refine VC.frz [72] [(0, .c (.sl 1 (q0e m))), (3, .row 80 6), (4, .c (.v (.int .i64 0)))] [(80, ⟨true, 40, 1, [[.c (.sl 1 (q0e (q07 0)))], [.c (.sl 1 (q0e (q07 1)))], [.c (.sl 1 (q0e (q07 2)))], [.c (.sl 1 (q0e (q07 3)))], [.c (.sl 1 (q0e (q07 4)))], [.c (.sl 1 (q0e (q07 5)))]]⟩)] 400 ?_ ?_
 · refine wkfX ?_
   exact ⟨⟨.same _, .same _, .same _⟩, .set (i := 5) (e' := [.c (.sl 1 (q0e (q07 5)))]) rfl (.cons (.row (B := ⟨true, 5, 1, [[.c (.v (.int .u8 159))], [.c (.v (.int .u8 191))], [.c (.v (.int .u8 191))]]⟩) (es := q0e (q07 5)) (by simp) rfl rfl rfl rfl) .nil) (by simp [AV.cellish])⟩
 refine VC.frz [80] [(0, .c (.sl 1 (q0e m))), (3, .c (.sl 1 ((List.range 6).map fun j => [PV.sl 1 (q0e (q07 j))]))), (4, .c (.v (.int .i64 0)))] [] 400 ?_ ?_
 · refine wkfX ?_
   exact ⟨.same _, .row (B := ⟨true, 40, 1, [[.c (.sl 1 (q0e (q07 0)))], [.c (.sl 1 (q0e (q07 1)))], [.c (.sl 1 (q0e (q07 2)))], [.c (.sl 1 (q0e (q07 3)))], [.c (.sl 1 (q0e (q07 4)))], [.c (.sl 1 (q0e (q07 5)))]]⟩) (es := (List.range 6).map fun j => [PV.sl 1 (q0e (q07 j))]) (by simp) rfl rfl rfl rfl, .same _⟩
 have hFx : ∀ i, i < 6 → ((List.range 6).map fun j => [PV.sl 1 (q0e (q07 j))])[i]? = some [PV.sl 1 (q0e (q07 i))] := fun i hlt => by rw [List.getElem?_map, List.getElem?_range hlt]; rfl
 have hrl : ((List.range 6).map fun j => [PV.sl 1 (q0e (q07 j))]).length = 6 := rfl
 generalize ((List.range 6).map fun j => [PV.sl 1 (q0e (q07 j))]) = F at hFx hrl ⊢
 refine VC.loop (ι := {i : Nat // i ≤ 6 ∧ ∀ j, j < i → begB m j = false}) (fun q => [(0, .c (.sl 1 (q0e m))), (3, .c (.sl 1 F)), (4, .c (.v (.int .i64 (q.1 : Int))))]) (fun _ => []) 800 (fun q => 6 - q.1)
  ⟨0, by omega, fun j h => by omega⟩ ?_ ?_
 · exact q2z
 rintro ⟨i, hi, hno⟩
 simp only []
 refine q0c (hrl) ?_
 refine VC.cond (by rfl) (by trivial) (fun hc => ?_) (fun hc => ?_)
 · have hlt : i < 6 := by simp at hc; omega
   have hw : IntKind.i64.wrap ((i : Int) + 1) = (i : Int) + 1 := q0f (by omega) (by omega)
   have hx : F[i]? = some [PV.sl 1 (q0e (q07 i))] := hFx i hlt
   have hfl : (q0e (q07 i)).length = 3 := by simp [q0e, j5v]
   have hW := z0r (m ++ q07 i) (by simp [j5v]; omega)
   have hB : begB m i = (decide (0 ≤ q3p (m ++ q07 i) 0) && decide (m.length < (uenc (q3p (m ++ q07 i) 0).toNat).length)) := rfl
   have hch := fun h : 0 ≤ q3p (m ++ q07 i) 0 => j03.1 (z16 h).2.1
   obtain ⟨z, hz⟩ : ∃ z, z = q3p (m ++ q07 i) 0 := ⟨_, rfl⟩
   rw [← hz] at hW hB hch
   refine q0c (And.intro hrl (And.intro hx (And.intro hfl (And.intro hlen @lAppL)))) ?_
   (refine AO.step fun K hK => ?_; simp only [go_sem, Int.reduceBEq, Int.reduceLE, Int.reduceLT, Int.reduceNeg, Nat.reduceAdd, Nat.reduceEqDiff, Nat.reduceLT, Nat.reduceLeDiff, Nat.reduceMul, Nat.reduceSub, reduceCtorEq, ↓reduceIte]; (first | refine q1k ?_ | skip))
   refine .inr (.inl ⟨.c (.v (.int .i64 z)), [.c (.sl 1 (q0e (m ++ q07 i)))], [832], ⟨by simp [AV.pureL, AV.pureB], rfl, fun k x z h5 h6 => ?_, rfl, hW⟩, hK _ _ _ ?_⟩)
   · match k with
     | 0 =>
       obtain rfl := Option.some.inj h5
       obtain rfl := Option.some.inj h6
       exact View.row (B := ⟨true, 5, 1, (q0e m).map (fun e => e.map AV.c) ++ (q0e (q07 i)).map fun e => e.map AV.c⟩) (es := q0e (m ++ q07 i)) rfl rfl (by simp [Blkd.len, q0e, j5v]) (by simp [q0e])
     | k + 1 => simp at h5
   clear hK K
   by_cases hz0 : 0 ≤ z
   · obtain ⟨c, rfl⟩ : ∃ c : Nat, z = (c : Int) := ⟨z.toNat, by omega⟩
     have hP := j6k c (by have := hch hz0; omega)
     have e1 : decide ((c : Int) ≥ 0) = true := by simp
     have hul : (q0e (uenc c)).length = (uenc c).length := by simp [q0e]
     rw [Int.toNat_natCast] at hB
     refine q0c (e1) ?_
     refine q0j (hP) ?_
     refine q0c (And.intro hul hlen) ?_
     refine VC.cond (by rfl) (by trivial) (fun hc2 => ?_) (fun hc2 => ?_)
     · have hf : V = true := by
        have : begB m i = true := by rw [hB]; simp at hc2 ⊢; omega
        rw [hV, List.any_eq_true]
        exact ⟨i, List.mem_range.2 hlt, this⟩
       subst hf
       refine q0b ?_
       refine retX Tryz.results241 ?_
       exact .c _
     · have : begB m i = false := by rw [hB]; simp at hc2 ⊢; omega
       refine q0c (hw) ?_
       refine .next ⟨i + 1, by omega, fun j hj => ?_⟩ ?_ (by simp only []; omega)
       · by_cases hji : j < i
         · exact hno j hji
         · obtain rfl : j = i := by omega
           exact this
       refine q5b ?_
       exact cI (by omega)
   · have e1 : decide (z ≥ 0) = false := by simp; omega
     have : begB m i = false := by rw [hB]; simp; omega
     refine q0a (And.intro e1 hw) ?_
     refine .next ⟨i + 1, by omega, fun j hj => ?_⟩ ?_ (by simp only []; omega)
     · by_cases hji : j < i
       · exact hno j hji
       · obtain rfl : j = i := by omega
         exact this
     refine q5b ?_
     exact cI (by omega)
 · have hf : V = false := by
    rw [hV, List.any_eq_false]
    intro j hj
    have := List.mem_range.1 hj
    rw [hno j (by simp at hc; omega)]
    simp
   subst hf
   refine q0b ?_
   refine retX Tryz.results241 ?_
   exact .c _
theorem z5n (l : List UInt8) (p : Nat) (hp : p ≤ l.length) (hbig : l.length ≤ 1000000) : ∃ v nx e : Int, Told Tryz.prog 226 [.c (.sl 1 (q0e l)), .c (.v (.int .i64 (p : Int)))] (.tup [.c (.v (.int .i64 v)), .c (.v (.int .i64 nx)), .c (.v (.int .i64 e))]) ∧
  (uerr l p = 0 → e = 0 ∧ nx = (p : Int) + (ulen l p : Int)) ∧ (uerr l p ≠ 0 → e ≠ 0) := by
 have hlen : (q0e l).length = l.length := by simp [q0e]
 have hdr : ((q0e l).take l.length).drop p = q0e (l.drop p) := by rw [← hlen, List.take_length]; simp [q0e, List.map_drop]
 have hW := z0r (l.drop p) (by simp; omega)
 rw [z60] at hW
 have e1 : decide ((p : Int) < 0) = false := by simp
 have e2 : decide ((p : Int) > (l.length : Int)) = false := by simp; omega
 obtain ⟨z, hz⟩ : ∃ z, z = q3p l p := ⟨_, rfl⟩
 rw [← hz] at hW
 have hdl : (q0e (l.drop p)).length = l.length - p := by simp [q0e]
 by_cases hz0 : 0 ≤ z
 · obtain ⟨u1, u2, u3⟩ := z16 (l := l) (p := p) (by omega)
   have hci := j03.1 u2
   obtain ⟨c, rfl⟩ : ∃ c : Nat, z = (c : Int) := ⟨z.toNat, by omega⟩
   rw [← hz] at u2 u3 hci
   rw [Int.toNat_natCast] at u3
   have hP := j6k c (by omega)
   have e3 : decide ((c : Int) ≥ 0) = true := by simp
   have hul : (q0e (uenc c)).length = (uenc c).length := by simp [q0e]
   have hlb := z1c c
   have hw : IntKind.i64.wrap ((p : Int) + ((uenc c).length : Int)) = (p : Int) + ((uenc c).length : Int) := q0f (by omega) (by omega)
   refine ⟨(c : Int), (p : Int) + ((uenc c).length : Int), 0, ?_, fun _ => ⟨rfl, by rw [u3]⟩, fun h => absurd u1 h⟩
   refine VC.toldP j3j Tryz.func226 rfl Tryz.ntmps226 fun hb => ?_
   clear hb
   refine q0a (And.intro hlen (And.intro e1 (And.intro e2 hdr))) ?_
   refine q0j (hW) ?_
   refine q0a (e3) ?_
   refine q0j (hP) ?_
   refine q0c (And.intro hul hw) ?_
   refine retX Tryz.results226 ?_
   exact ⟨.c _, .c _, .c _⟩
 · have hu : uerr l p ≠ 0 := by
    intro h
    have hf := j2o h
    have := wtest_n (j3q hf)
    have h2 := (j03 (c := cvN l p (ulen l p))).1 (by
     have ht := j3q hf
     unfold q20 at ht
     simp only [Bool.and_eq_true] at ht
     exact ht.1)
    omega
   have e3 : decide (z ≥ 0) = false := by simp; omega
   have hws : IntKind.i64.wrap ((l.length : Int) - (p : Int)) = (l.length : Int) - (p : Int) := q0f (by omega) (by omega)
   by_cases h4 : l.length - p < 4
   · have e4 : decide ((l.length : Int) - (p : Int) < 4) = true := by simp; omega
     obtain ⟨b, hB⟩ := z4n (l.drop p) (by simp; omega)
     cases b with
     | true =>
       refine ⟨0, (p : Int), 10, ?_, fun h => absurd h hu, fun _ => by decide⟩
       refine VC.toldP j3j Tryz.func226 rfl Tryz.ntmps226 fun hb => ?_
       clear hb
       refine q0a (And.intro hlen (And.intro e1 (And.intro e2 hdr))) ?_
       refine q0j (hW) ?_
       refine q0a (And.intro e3 (And.intro hws (And.intro e4 (And.intro hlen hdr)))) ?_
       refine q0j (hB) ?_
       refine q0m ?_
       refine retX Tryz.results226 ?_
       exact ⟨.c _, .c _, .c _⟩
     | false =>
       refine ⟨0, (p : Int), 11, ?_, fun h => absurd h hu, fun _ => by decide⟩
       refine VC.toldP j3j Tryz.func226 rfl Tryz.ntmps226 fun hb => ?_
       clear hb
       refine q0a (And.intro hlen (And.intro e1 (And.intro e2 hdr))) ?_
       refine q0j (hW) ?_
       refine q0a (And.intro e3 (And.intro hws (And.intro e4 (And.intro hlen hdr)))) ?_
       refine q0j (hB) ?_
       refine q0m ?_
       refine retX Tryz.results226 ?_
       exact ⟨.c _, .c _, .c _⟩
   · have e4 : decide ((l.length : Int) - (p : Int) < 4) = false := by simp; omega
     refine ⟨0, (p : Int), 11, ?_, fun h => absurd h hu, fun _ => by decide⟩
     refine VC.toldP j3j Tryz.func226 rfl Tryz.ntmps226 fun hb => ?_
     clear hb
     refine q0a (And.intro hlen (And.intro e1 (And.intro e2 hdr))) ?_
     refine q0j (hW) ?_
     refine q0a (And.intro e3 (And.intro hws (And.intro e4 hlen))) ?_
     refine retX Tryz.results226 ?_
     exact ⟨.c _, .c _, .c _⟩
theorem j93 (l : List UInt8) (hbig : l.length ≤ 1000000) : ∃ z : Int, Told Tryz.prog 204 [.c (.sl 1 (q0e l))] (.c (.v (.int .i64 z))) ∧ (decide (z ≥ 0) = q2p l) := by
 have hlen : (q0e l).length = l.length := by simp [q0e]
 refine ⟨if (uCnt l 0 0).2 = 0 then ((uCnt l 0 0).1 : Int) else -1, ?_, ?_⟩
 rotate_left
 · unfold q2p
   split
   · simp_all
   · simp_all
 obtain ⟨V, hV⟩ : ∃ V, V = uCnt l 0 0 := ⟨_, rfl⟩
 rw [← hV]
 refine VC.toldP ent_204 Tryz.func204 rfl Tryz.ntmps204 fun hb => ?_
 clear hb
 refine q0b ?_
 refine VC.loop (ι := {q : Nat × Nat // q.1 ≤ l.length ∧ q.2 ≤ q.1 ∧ uCnt l q.1 q.2 = V}) (fun q => [(0, .c (.sl 1 (q0e l))), (3, .c (.v (.int .i64 (q.1.2 : Int)))), (4, .c (.v (.int .i64 (q.1.1 : Int))))]) (fun _ => []) 800 (fun q => l.length - q.1.1)
  ⟨(0, 0), Nat.zero_le _, Nat.le_refl _, hV.symm⟩ ?_ ?_
 · exact q2z
 rintro ⟨⟨p, k⟩, hp, hk, hu⟩
 simp only [] at hp hk hu ⊢
 refine q0c (hlen) ?_
 refine VC.cond (by rfl) (by trivial) (fun hc => ?_) (fun hc => ?_)
 · have hlt : p < l.length := by simp at hc; omega
   obtain ⟨v, nx, e, hT, h1, h2⟩ := z5n l p hp hbig
   by_cases he : uerr l p = 0
   · obtain ⟨rfl, rfl⟩ := h1 he
     have hub := j4m he
     have hw : IntKind.i64.wrap ((k : Int) + 1) = (k : Int) + 1 := q0f (by omega) (by omega)
     rw [z1b hlt he] at hu
     refine q0b ?_
     refine q0j (hT) ?_
     refine q0a (hw) ?_
     refine .next ⟨(p + ulen l p, k + 1), hub.2, by simp only []; omega, hu⟩ ?_ (by simp only []; omega)
     refine q5b ?_
     exact ⟨cI (by omega), cI (by omega)⟩
   · have hne := h2 he
     rw [z09 hlt he] at hu
     subst hu
     have e5 : (e != 0) = true := by simpa using hne
     refine q0b ?_
     refine q0j (hT) ?_
     refine q0a (e5) ?_
     refine retX Tryz.results204 ?_
     exact .c _
 · have hpe : p = l.length := by simp at hc; omega
   rw [z1a (by omega)] at hu
   subst hu
   refine q0b ?_
   refine retX Tryz.results204 ?_
   exact .c _

def rB (B : List UInt8) (p : Nat) (e : Int) : Blkd := ⟨false, 149, 3, [[.c (.sl 1 (q0e B)), .c (.v (.int .i64 (p : Int))), .c (.v (.int .i64 e))]]⟩
structure Adv (B : List UInt8) (p : Nat) (e : Int) (q : Nat) (e' : Int) : Prop where
 le : q ≤ B.length
 up : p ≤ q
 no : e ≠ 0 → q = p ∧ e' = e
theorem j94 (B : List UInt8) (p : Nat) (hp : p ≤ B.length) (e : Int) : ToldM Tryz.prog 225 [.ref 1000000 1 0 0] [rB B p e] [some (rB B p e)] (.c (.v (.bool (decide (e = 0))))) := by
 have hbl := q5f B
 have e2 : decide ((p : Int) < 0) = false := by simp
 have e3 : decide ((p : Int) > (B.length : Int)) = false := by simp; omega
 unfold rB
 by_cases h : e = 0
 · have e1 : (e == 0) = true := by simpa using h
   rw [decide_eq_true h]
   refine VC.toldX ent_225 [] Tryz.func225 rfl Tryz.ntmps225 fun hb hbL => ?_
   clear hb hbL
   refine q0a (And.intro e1 (And.intro e2 (And.intro e3 hbl))) ?_
   refine retX Tryz.results225 ?_
   exact .c _
 · have e1 : (e == 0) = false := by simpa using h
   rw [decide_eq_false h]
   refine VC.toldX ent_225 [] Tryz.func225 rfl Tryz.ntmps225 fun hb hbL => ?_
   clear hb hbL
   refine q0a (And.intro e1 hbl) ?_
   refine retX Tryz.results225 ?_
   exact .c _
theorem j90 (most last : Nat) (hm : 0 < most) (hm2 : most ≤ 1000) (B : List UInt8) (hB : B.length ≤ 1000000) (p : Nat) (hp : p ≤ B.length) (e : Int) : ∃ (n : Int) (q : Nat) (e' : Int), Adv B p e q e' ∧ (e' = 0 → p < q) ∧ (e' ≠ 0 → n = 0) ∧ (-9223372036854775808 ≤ n ∧ n ≤ 9223372036854775807) ∧
  ToldM Tryz.prog 224 [.ref 1000000 1 0 0, .c (.v (.int .i64 (most : Int))), .c (.v (.int .u8 (last : Int)))] [rB B p e] [some (rB B q e')] (.c (.v (.int .i64 n))) := by
 have hR := j94 B p hp e
 by_cases h : e = 0
 · subst h
   rw [decide_eq_true rfl] at hR
   obtain ⟨n, q, e', h1, h2, h3, h4, h5, hT⟩ := z4k most last hm hm2 B hB p hp
   refine ⟨n, q, e', ⟨h2, h1, fun h => absurd rfl h⟩, h3, fun h => (h4 h).2, h5, ?_⟩
   unfold rB at *
   refine VC.toldX ent_224 [] Tryz.func224 rfl Tryz.ntmps224 fun hb hbL => ?_
   clear hb hbL
   refine q0b ?_
   refine q0z [1000000] (hR) ?_
   refine q0m ?_
   refine q0j (hT) ?_
   refine q0m ?_
   refine retX Tryz.results224 ?_
   exact .c _
 · rw [decide_eq_false h] at hR
   refine ⟨0, p, e, ⟨hp, Nat.le_refl _, fun _ => ⟨rfl, rfl⟩⟩, fun h0 => absurd h0 h, fun _ => rfl, by decide, ?_⟩
   unfold rB at *
   refine VC.toldX ent_224 [] Tryz.func224 rfl Tryz.ntmps224 fun hb hbL => ?_
   clear hb hbL
   refine q0b ?_
   refine q0z [1000000] (hR) ?_
   refine q0m ?_
   refine retX Tryz.results224 ?_
   exact .c _
theorem j2j (B : List UInt8) (hB : B.length ≤ 1000000) (p : Nat) (hp : p ≤ B.length) (e : Int) : ∃ (n : Int) (q : Nat) (e' : Int), Adv B p e q e' ∧ (e' = 0 → p < q) ∧ (e' ≠ 0 → n = 0) ∧ (-9223372036854775808 ≤ n ∧ n ≤ 9223372036854775807) ∧
  ToldM Tryz.prog 200 [.ref 1000000 1 0 0] [rB B p e] [some (rB B q e')] (.c (.v (.int .i64 n))) := by
 obtain ⟨n, q, e', h1, h2, h3, h4, hT⟩ := j90 10 1 (by decide) (by decide) B hB p hp e
 refine ⟨n, q, e', h1, h2, h3, h4, ?_⟩
 rw [show ((10 : Nat) : Int) = 10 from rfl, show ((1 : Nat) : Int) = 1 from rfl] at hT
 unfold rB at *
 refine VC.toldX ent_200 [] Tryz.func200 rfl Tryz.ntmps200 fun hb hbL => ?_
 clear hb hbL
 refine q0b ?_
 refine q0z [1000000] (hT) ?_
 refine q0b ?_
 refine retX Tryz.results200 ?_
 exact .c _
theorem j9z (B : List UInt8) (hB : B.length ≤ 1000000) (p : Nat) (hp : p ≤ B.length) (e : Int) : ∃ (n : Int) (q : Nat) (e' : Int), Adv B p e q e' ∧ (e' = 0 → p < q) ∧ (e' ≠ 0 → n = 0) ∧ (-9223372036854775808 ≤ n ∧ n ≤ 9223372036854775807) ∧
  ToldM Tryz.prog 199 [.ref 1000000 1 0 0] [rB B p e] [some (rB B q e')] (.c (.v (.int .i64 n))) := by
 obtain ⟨n, q, e', h1, h2, h3, h4, hT⟩ := j90 5 15 (by decide) (by decide) B hB p hp e
 refine ⟨n, q, e', h1, h2, h3, h4, ?_⟩
 rw [show ((5 : Nat) : Int) = 5 from rfl, show ((15 : Nat) : Int) = 15 from rfl] at hT
 unfold rB at *
 refine VC.toldX ent_199 [] Tryz.func199 rfl Tryz.ntmps199 fun hb hbL => ?_
 clear hb hbL
 refine q0b ?_
 refine q0z [1000000] (hT) ?_
 refine q0b ?_
 refine retX Tryz.results199 ?_
 exact .c _
theorem j34 (B : List UInt8) (hB : B.length ≤ 1000000) (p : Nat) (hp : p ≤ B.length) (e n : Int) (hn : -1000000000 ≤ n) (hn' : n ≤ 1000000000) : ∃ (l : List UInt8) (q : Nat) (e' : Int), Adv B p e q e' ∧ l.length ≤ 1000000 ∧ (e' = 0 → (l.length : Int) = max n 0) ∧
  ToldM Tryz.prog 203 [.ref 1000000 1 0 0, .c (.v (.int .i64 n))] [rB B p e] [some (rB B q e')] (.c (.sl 1 (q0e l))) := by
 have hR := j94 B p hp e
 by_cases h : e = 0
 · subst h
   rw [decide_eq_true rfl] at hR
   have hbl := q5f B
   have hsb : IntKind.i64.wrap ((B.length : Int) - (p : Int)) = ((B.length - p : Nat) : Int) := by rw [q0f (by omega) (by omega)]; omega
   by_cases hm : n.toNat ≤ B.length - p
   · refine ⟨(B.drop p).take n.toNat, p + n.toNat, 0, ⟨by omega, by omega, fun h => absurd rfl h⟩, by rw [List.length_take, List.length_drop]; omega, fun _ => by rw [List.length_take, List.length_drop]; omega, ?_⟩
     have hdt : ((q0e B).take (p + n.toNat)).drop p = q0e ((B.drop p).take n.toNat) := by rw [List.drop_take, Nat.add_sub_cancel_left]; simp [q0e, List.map_drop, List.map_take]
     have hll : ((B.drop p).take n.toNat).length ≤ 1000000 := by rw [List.length_take, List.length_drop]; omega
     generalize (B.drop p).take n.toNat = l at hdt hll ⊢
     have hl := q5f l
     have hbo : (q0e l).map (fun e => e.map AV.c) = bA l := (j0u l).symm
     by_cases h0 : n < 0
     · have e0 : decide (n < 0) = true := by simpa using h0
       have hn0 : n.toNat = 0 := by omega
       rw [hn0, Nat.add_zero] at hdt
       rw [hn0, Nat.add_zero]
       have e1 : decide ((0 : Int) > ((B.length - p : Nat) : Int)) = false := by simp
       have hw : IntKind.i64.wrap ((p : Int) + 0) = (p : Int) := by rw [q0f (by omega) (by omega)]; omega
       unfold rB at *
       refine VC.toldX j3i [] Tryz.func203 rfl Tryz.ntmps203 fun hb hbL => ?_
       clear hb hbL
       refine q0b ?_
       refine q0z [1000000] (hR) ?_
       refine q0a (And.intro e0 (And.intro hbl (And.intro hsb (And.intro e1 (And.intro hw (And.intro hdt (And.intro hl (And.intro hbo @q0k)))))))) ?_
       refine q16 (@q0k) Tryz.results203 ?_
       exact q37 (f := fun b : UInt8 => [PV.v (.int .u8 (b.toNat : Int))]) (l := l) (T := 5) rfl rfl rfl (by simp)
     · have e0 : decide (n < 0) = false := by simpa using h0
       obtain ⟨m, rfl⟩ : ∃ m : Nat, n = (m : Int) := ⟨n.toNat, by omega⟩
       rw [Int.toNat_natCast] at hdt hm ⊢
       have e1 : decide ((m : Int) > ((B.length - p : Nat) : Int)) = false := by simp; omega
       have hw : IntKind.i64.wrap ((p : Int) + (m : Int)) = ((p + m : Nat) : Int) := by rw [q0f (by omega) (by omega)]; omega
       unfold rB at *
       refine VC.toldX j3i [] Tryz.func203 rfl Tryz.ntmps203 fun hb hbL => ?_
       clear hb hbL
       refine q0b ?_
       refine q0z [1000000] (hR) ?_
       refine q0a (And.intro e0 (And.intro hbl (And.intro hsb (And.intro e1 (And.intro hw (And.intro hdt (And.intro hl (And.intro hbo @q0k)))))))) ?_
       refine q16 (@q0k) Tryz.results203 ?_
       exact q37 (f := fun b : UInt8 => [PV.v (.int .u8 (b.toNat : Int))]) (l := l) (T := 5) rfl rfl rfl (by simp)
   · refine ⟨[], p, 10, ⟨hp, Nat.le_refl _, fun h => absurd rfl h⟩, by simp, fun h => absurd h (by decide), ?_⟩
     have e0 : decide (n < 0) = false := by simp; omega
     have e1 : decide (n > ((B.length - p : Nat) : Int)) = true := by simp; omega
     unfold rB at *
     refine VC.toldX j3i [] Tryz.func203 rfl Tryz.ntmps203 fun hb hbL => ?_
     clear hb hbL
     refine q0b ?_
     refine q0z [1000000] (hR) ?_
     refine q0a (And.intro e0 (And.intro hbl (And.intro hsb e1))) ?_
     refine retX Tryz.results203 ?_
     exact .nil 1
 · rw [decide_eq_false h] at hR
   refine ⟨[], p, e, ⟨hp, Nat.le_refl _, fun _ => ⟨rfl, rfl⟩⟩, by simp, fun h0 => absurd h0 h, ?_⟩
   unfold rB at *
   refine VC.toldX j3i [] Tryz.func203 rfl Tryz.ntmps203 fun hb hbL => ?_
   clear hb hbL
   refine q0b ?_
   refine q0z [1000000] (hR) ?_
   refine q0m ?_
   refine retX Tryz.results203 ?_
   exact .nil 1
theorem z4l (B : List UInt8) (hB : B.length ≤ 1000000) (p : Nat) (hp : p ≤ B.length) (e : Int) : ∃ (n : Int) (q : Nat) (e' : Int), Adv B p e q e' ∧
  ToldM Tryz.prog 198 [.ref 1000000 1 0 0] [rB B p e] [some (rB B q e')] (.c (.v (.int .i64 n))) := by
 obtain ⟨l, q, e', h1, h2, h3, hF⟩ := j34 B hB p hp e 1 (by decide) (by decide)
 by_cases h : e' = 0
 · have hl : l.length = 1 := by have := h3 h; omega
   obtain ⟨c, rfl⟩ := List.length_eq_one_iff.1 hl
   have hc8 := c.toNat_lt
   have hcp : (q0e [c])[0]? = some [.v (.int .u8 (c.toNat : Int))] := rfl
   have hcl : (q0e [c]).length = 1 := rfl
   have hcv : IntKind.i64.wrap (c.toNat : Int) = (c.toNat : Int) := q0f (by omega) (by omega)
   have he : e = 0 := Decidable.not_not.1 fun h0 => h0 ((h1.no h0).2.symm.trans h)
   subst h he
   generalize q0e [c] = bl at hF hcp hcl
   by_cases h0 : c.toNat = 0
   · have f1 : ((c.toNat : Int) != 0) = false := by simp [h0]
     refine ⟨(c.toNat : Int), q, 0, h1, ?_⟩
     unfold rB at *
     refine VC.toldX j3h [] Tryz.func198 rfl Tryz.ntmps198 fun hb hbL => ?_
     clear hb hbL
     refine q0b ?_
     refine q0z [1000000] (hF) ?_
     refine q0a (And.intro hcp (And.intro hcl (And.intro f1 hcv))) ?_
     refine retX Tryz.results198 ?_
     exact .c _
   have f1 : ((c.toNat : Int) != 0) = true := by simp; omega
   by_cases h9 : c.toNat = 1
   · have f2 : ((c.toNat : Int) != 1) = false := by simp [h9]
     refine ⟨(c.toNat : Int), q, 0, h1, ?_⟩
     unfold rB at *
     refine VC.toldX j3h [] Tryz.func198 rfl Tryz.ntmps198 fun hb hbL => ?_
     clear hb hbL
     refine q0b ?_
     refine q0z [1000000] (hF) ?_
     refine q0a (And.intro hcp (And.intro hcl (And.intro f1 (And.intro f2 hcv)))) ?_
     refine retX Tryz.results198 ?_
     exact .c _
   · have f2 : ((c.toNat : Int) != 1) = true := by simp; omega
     refine ⟨0, p, 11, ⟨hp, Nat.le_refl _, fun h => absurd rfl h⟩, ?_⟩
     unfold rB at *
     refine VC.toldX j3h [] Tryz.func198 rfl Tryz.ntmps198 fun hb hbL => ?_
     clear hb hbL
     refine q0b ?_
     refine q0z [1000000] (hF) ?_
     refine q0a (And.intro hcp (And.intro hcl (And.intro f1 (And.intro f2 hcv)))) ?_
     refine retX Tryz.results198 ?_
     exact .c _
 · have e1 : (e' != 0) = true := by simpa using h
   refine ⟨0, q, e', h1, ?_⟩
   unfold rB at *
   refine VC.toldX j3h [] Tryz.func198 rfl Tryz.ntmps198 fun hb hbL => ?_
   clear hb hbL
   refine q0b ?_
   refine q0z [1000000] (hF) ?_
   refine q0a (e1) ?_
   refine retX Tryz.results198 ?_
   exact .c _
theorem j9y (B : List UInt8) (hB : B.length ≤ 1000000) (p : Nat) (hp : p ≤ B.length) (e : Int) : ∃ (l : List UInt8) (q : Nat) (e' : Int), Adv B p e q e' ∧ l.length ≤ 1000000 ∧
  ToldM Tryz.prog 202 [.ref 1000000 1 0 0] [rB B p e] [some (rB B q e')] (.c (.sl 1 (q0e l))) := by
 obtain ⟨n, q, e1, a1, a2, a3, a4, hL⟩ := j2j B hB p hp e
 by_cases h : e1 = 0
 · have he : e = 0 := Decidable.not_not.1 fun h0 => h0 ((a1.no h0).2.symm.trans h)
   subst h he
   by_cases h1 : n < 0
   · have f1 : decide (n < 0) = true := by simpa using h1
     refine ⟨[], p, 11, ⟨hp, Nat.le_refl _, fun h => absurd rfl h⟩, by simp, ?_⟩
     unfold rB at *
     refine VC.toldX j18 [] Tryz.func202 rfl Tryz.ntmps202 fun hb hbL => ?_
     clear hb hbL
     refine q0b ?_
     refine q0z [1000000] (hL) ?_
     refine q0a (f1) ?_
     refine retX Tryz.results202 ?_
     exact .nil 1
   have f1 : decide (n < 0) = false := by simpa using h1
   by_cases h2 : 20000 < n
   · have f2 : decide (n > 20000) = true := by simpa using h2
     refine ⟨[], p, 15, ⟨hp, Nat.le_refl _, fun h => absurd rfl h⟩, by simp, ?_⟩
     unfold rB at *
     refine VC.toldX j18 [] Tryz.func202 rfl Tryz.ntmps202 fun hb hbL => ?_
     clear hb hbL
     refine q0b ?_
     refine q0z [1000000] (hL) ?_
     refine q0a (And.intro f1 f2) ?_
     refine retX Tryz.results202 ?_
     exact .nil 1
   have f2 : decide (n > 20000) = false := by simpa using h2
   have hwn : IntKind.i64.wrap n = n := q0f (by omega) (by omega)
   obtain ⟨l, q2, e2, b1, b2, b3, hF⟩ := j34 B hB q a1.le 0 n (by omega) (by omega)
   by_cases h3 : e2 = 0
   · have hl := b3 h3
     subst h3
     refine ⟨l, q2, 0, ⟨b1.le, Nat.le_trans a1.up b1.up, fun h => absurd rfl h⟩, by omega, ?_⟩
     unfold rB at *
     refine VC.toldX j18 [] Tryz.func202 rfl Tryz.ntmps202 fun hb hbL => ?_
     clear hb hbL
     refine q0b ?_
     refine q0z [1000000] (hL) ?_
     refine q0a (And.intro f1 (And.intro f2 hwn)) ?_
     refine q0z [1000000] (hF) ?_
     refine q0m ?_
     refine retX Tryz.results202 ?_
     exact .c _
   · have f3 : (e2 != 0) = true := by simpa using h3
     refine ⟨l, p, e2, ⟨hp, Nat.le_refl _, fun h => absurd rfl h⟩, b2, ?_⟩
     unfold rB at *
     refine VC.toldX j18 [] Tryz.func202 rfl Tryz.ntmps202 fun hb hbL => ?_
     clear hb hbL
     refine q0b ?_
     refine q0z [1000000] (hL) ?_
     refine q0a (And.intro f1 (And.intro f2 hwn)) ?_
     refine q0z [1000000] (hF) ?_
     refine q0a (f3) ?_
     refine retX Tryz.results202 ?_
     exact .c _
 · have f0 : (e1 == 0) = false := by simpa using h
   have f3 : (e1 != 0) = true := by simpa using h
   refine ⟨[], p, e1, ⟨hp, Nat.le_refl _, fun h0 => ⟨rfl, (a1.no h0).2⟩⟩, by simp, ?_⟩
   unfold rB at *
   refine VC.toldX j18 [] Tryz.func202 rfl Tryz.ntmps202 fun hb hbL => ?_
   clear hb hbL
   refine q0b ?_
   refine q0z [1000000] (hL) ?_
   refine q0a (And.intro f0 f3) ?_
   refine retX Tryz.results202 ?_
   exact .nil 1
theorem j91 (B : List UInt8) (hB : B.length ≤ 1000000) (p : Nat) (hp : p ≤ B.length) (e : Int) : ∃ (l : List UInt8) (q : Nat) (e' : Int), Adv B p e q e' ∧
  ToldM Tryz.prog 163 [.ref 1000000 1 0 0] [rB B p e] [some (rB B q e')] (.c (.sl 1 (q0e l))) := by
 obtain ⟨l, q, e1, a1, a2, hL⟩ := j9y B hB p hp e
 by_cases h : e1 = 0
 · have he : e = 0 := Decidable.not_not.1 fun h0 => h0 ((a1.no h0).2.symm.trans h)
   subst h he
   obtain ⟨z, hC, _⟩ := j93 l a2
   by_cases hz : z < 0
   · have f1 : decide (z < 0) = true := by simpa using hz
     refine ⟨[], p, 11, ⟨hp, Nat.le_refl _, fun h => absurd rfl h⟩, ?_⟩
     unfold rB at *
     refine VC.toldX j5k [] Tryz.func163 rfl Tryz.ntmps163 fun hb hbL => ?_
     clear hb hbL
     refine q0b ?_
     refine q0z [1000000] (hL) ?_
     refine q0m ?_
     refine q0j (hC) ?_
     refine q0a (f1) ?_
     refine retX Tryz.results163 ?_
     exact .nil 1
   · have f1 : decide (z < 0) = false := by simpa using hz
     refine ⟨l, q, 0, a1, ?_⟩
     unfold rB at *
     refine VC.toldX j5k [] Tryz.func163 rfl Tryz.ntmps163 fun hb hbL => ?_
     clear hb hbL
     refine q0b ?_
     refine q0z [1000000] (hL) ?_
     refine q0m ?_
     refine q0j (hC) ?_
     refine q0a (f1) ?_
     refine retX Tryz.results163 ?_
     exact .c _
 · have f0 : (e1 == 0) = false := by simpa using h
   refine ⟨l, q, e1, a1, ?_⟩
   unfold rB at *
   refine VC.toldX j5k [] Tryz.func163 rfl Tryz.ntmps163 fun hb hbL => ?_
   clear hb hbL
   refine q0b ?_
   refine q0z [1000000] (hL) ?_
   refine q0a (f0) ?_
   refine retX Tryz.results163 ?_
   exact .c _

def q6m (l : List UInt8) : Nat → Nat
 | 0 => 0
 | j + 1 => (q6m l j * 256 + ((l[l.length - 1 - j]?).getD 0).toNat) % 18446744073709551616
theorem j9x (B : List UInt8) (hB : B.length ≤ 1000000) (p : Nat) (hp : p ≤ B.length) (e : Int) (k : Nat) (hk : k ≤ 8) : ∃ (u : Int) (q : Nat) (e' : Int), Adv B p e q e' ∧
  ToldM Tryz.prog 201 [.ref 1000000 1 0 0, .c (.v (.int .i64 (k : Int)))] [rB B p e] [some (rB B q e')] (.c (.v (.int .u64 u))) := by
 obtain ⟨l, q, e', h1, h2, h3, hF⟩ := j34 B hB p hp e (k : Int) (by omega) (by omega)
 refine ⟨((q6m l l.length : Nat) : Int), q, e', h1, ?_⟩
 have hbl := q5f l
 have e1 : decide ((k : Int) > 8) = false := by simp; omega
 have hw0 : IntKind.i64.wrap ((l.length : Int) - 1) = (l.length : Int) - 1 := q0f (by omega) (by omega)
 unfold rB at *
 refine VC.toldX ent_201 [] Tryz.func201 rfl Tryz.ntmps201 fun hb hbL => ?_
 clear hb hbL
 refine q0a (e1) ?_
 refine q0z [1000000] (hF) ?_
 refine q0a (And.intro hbl hw0) ?_
 refine VC.loop (ι := {j : Nat // j ≤ l.length}) (fun j => [(5, .c (.sl 1 (q0e l))), (6, .c (.v (.int .u64 ((q6m l j.1 : Nat) : Int)))), (7, .c (.v (.int .i64 ((l.length : Int) - 1 - (j.1 : Int)))))])
  (fun _ => [(1000000, ⟨false, 149, 3, [[.c (.sl 1 (q0e B)), .c (.v (.int .i64 (q : Int))), .c (.v (.int .i64 e'))]]⟩)]) 4000 (fun j => l.length - j.1) ⟨0, Nat.zero_le _⟩ ?_ ?_
 · simp only [hbl, Weak, eq_self, q0v, q0p, sc_c, q0r, q0s, q0t, q0o, q0q, ScL, q0u, List.forall_mem_map, go_sem, Int.reduceBEq, Int.reduceLE, Int.reduceLT, Int.reduceNeg, Nat.reduceAdd, Nat.reduceEqDiff, Nat.reduceLT, Nat.reduceLeDiff, Nat.reduceMul, Nat.reduceSub, reduceCtorEq, ↓reduceIte]
   (try simp [q6m])
 rintro ⟨j, hj⟩
 simp only [] at hj ⊢
 by_cases hji : j < l.length
 · obtain ⟨y, hy⟩ : ∃ y, l[l.length - 1 - j]? = some y := ⟨_, List.getElem?_eq_getElem (show l.length - 1 - j < l.length by omega)⟩
   have hy8 := y.toNat_lt
   obtain ⟨i, hi⟩ : ∃ i : Nat, i = l.length - 1 - j := ⟨_, rfl⟩
   have hii : (l.length : Int) - 1 - (j : Int) = (i : Int) := by omega
   rw [← hi] at hy
   have g1 : decide ((i : Int) ≥ 0) = true := by simp
   have g3 : (q0e l)[i]? = some [.v (.int .u8 (y.toNat : Int))] := by unfold q0e; rw [List.getElem?_map, hy]; rfl
   have g6 : IntKind.u64.wrap (y.toNat : Int) = (y.toNat : Int) := by rw [IntKind.wrap_u64]; omega
   have g7 : IntKind.u64.wrap (IntKind.u64.wrap (((q6m l j : Nat) : Int) * 256) + (y.toNat : Int)) = ((q6m l (j + 1) : Nat) : Int) := by
    rw [q6m, ← hi, hy, IntKind.wrap_u64, IntKind.wrap_u64]
    simp only [Option.getD_some]
    omega
   have g8 : IntKind.i64.wrap ((i : Int) - 1) = (l.length : Int) - 1 - ((j + 1 : Nat) : Int) := by rw [q0f (by omega) (by omega)]; omega
   have g9 : i < l.length := by omega
   generalize hU1 : q6m l (j + 1) = U1 at g7
   generalize hU0 : q6m l j = U0 at g7
   rw [hii]
   refine q0a (And.intro hbl (And.intro g1 (And.intro g3 (And.intro g6 (And.intro g7 g8))))) ?_
   refine .next ⟨j + 1, hji⟩ ?_ (by simp only []; omega)
   simp only [hbl, Weak, eq_self, q0v, q0p, sc_c, q0r, q0s, q0t, q0o, q0q, ScL, q0u, List.forall_mem_map, go_sem, Int.reduceBEq, Int.reduceLE, Int.reduceLT, Int.reduceNeg, Nat.reduceAdd, Nat.reduceEqDiff, Nat.reduceLT, Nat.reduceLeDiff, Nat.reduceMul, Nat.reduceSub, reduceCtorEq, ↓reduceIte]
   (try rw [hU1])
 · obtain rfl : j = l.length := by omega
   have g1 : decide ((l.length : Int) - 1 - (l.length : Int) ≥ 0) = false := by simp; omega
   generalize q6m l l.length = U
   refine q0a (And.intro hbl g1) ?_
   refine retX Tryz.results201 ?_
   exact .c _
theorem z4p (B : List UInt8) (hB : B.length ≤ 1000000) (p : Nat) (hp : p ≤ B.length) (e : Int) (k : Nat) (hk : k ≤ 300) : ∃ (m q : Nat) (e' : Int), Adv B p e q e' ∧ m + k ≤ 300 ∧ (e' ≠ 0 → m = 0) ∧
  ToldM Tryz.prog 162 [.ref 1000000 1 0 0, .c (.v (.int .i64 (k : Int)))] [rB B p e] [some (rB B q e')] (.c (.v (.int .i64 (m : Int)))) := by
 have hw : IntKind.i64.wrap (300 - (k : Int)) = ((300 - k : Nat) : Int) := by rw [q0f (by omega) (by omega)]; omega
 obtain ⟨n, q, e1, a1, a2, a3, a4, hL⟩ := j2j B hB p hp e
 by_cases hn : n < 0
 · have f1 : decide (n < 0) = true := by simpa using hn
   obtain ⟨n2, q2, e2, b1, b2, b3, b4, hL2⟩ := j2j B hB q a1.le e1
   have hadv : Adv B p e q2 e2 := ⟨b1.le, Nat.le_trans a1.up b1.up, fun h0 => by
    have h1 := a1.no h0
    have h2 := b1.no (by rw [h1.2]; exact h0)
    exact ⟨h2.1.trans h1.1, h2.2.trans h1.2⟩⟩
   by_cases h3 : n < -300
   · have f2 : decide (n < -300) = true := by simpa using h3
     have f3 : IntKind.i64.wrap (0 - (-301 : Int)) = 301 := by decide
     have f4 : decide ((301 : Int) > ((300 - k : Nat) : Int)) = true := by simp; omega
     by_cases h4 : e2 = 0
     · subst h4
       have he : e = 0 := Decidable.not_not.1 fun h0 => h0 ((hadv.no h0).2.symm)
       refine ⟨0, q2, 15, ⟨hadv.le, hadv.up, fun h0 => absurd he h0⟩, by omega, fun _ => rfl, ?_⟩
       unfold rB at *
       refine VC.toldX q7z [] Tryz.func162 rfl Tryz.ntmps162 fun hb hbL => ?_
       clear hb hbL
       refine q0b ?_
       refine q0z [1000000] (hL) ?_
       refine q0a (f1) ?_
       refine q0z [1000000] (hL2) ?_
       refine q0a (And.intro f2 (And.intro f3 (And.intro f4 hw))) ?_
       refine retX Tryz.results162 ?_
       exact .c _
     · have f5 : (e2 == 0) = false := by simpa using h4
       have f6 : (e2 != 0) = true := by simpa using h4
       refine ⟨0, q2, e2, hadv, by omega, fun _ => rfl, ?_⟩
       unfold rB at *
       refine VC.toldX q7z [] Tryz.func162 rfl Tryz.ntmps162 fun hb hbL => ?_
       clear hb hbL
       refine q0b ?_
       refine q0z [1000000] (hL) ?_
       refine q0a (f1) ?_
       refine q0z [1000000] (hL2) ?_
       refine q0a (And.intro f2 (And.intro f3 (And.intro f4 (And.intro f5 (And.intro f6 hw))))) ?_
       refine retX Tryz.results162 ?_
       exact .c _
   · have f2 : decide (n < -300) = false := by simpa using h3
     obtain ⟨m, rfl⟩ : ∃ m : Nat, n = -(m : Int) := ⟨(-n).toNat, by omega⟩
     have f3 : IntKind.i64.wrap (0 - (-(m : Int))) = (m : Int) := by rw [q0f (by omega) (by omega)]; omega
     by_cases h4 : e2 = 0
     · subst h4
       have he : e = 0 := Decidable.not_not.1 fun h0 => h0 ((hadv.no h0).2.symm)
       by_cases h5 : 300 - k < m
       · have f4 : decide ((m : Int) > ((300 - k : Nat) : Int)) = true := by simp; omega
         refine ⟨0, q2, 15, ⟨hadv.le, hadv.up, fun h0 => absurd he h0⟩, by omega, fun _ => rfl, ?_⟩
         unfold rB at *
         refine VC.toldX q7z [] Tryz.func162 rfl Tryz.ntmps162 fun hb hbL => ?_
         clear hb hbL
         refine q0b ?_
         refine q0z [1000000] (hL) ?_
         refine q0a (f1) ?_
         refine q0z [1000000] (hL2) ?_
         refine q0a (And.intro f2 (And.intro f3 (And.intro f4 hw))) ?_
         refine retX Tryz.results162 ?_
         exact .c _
       · have f4 : decide ((m : Int) > ((300 - k : Nat) : Int)) = false := by simp; omega
         refine ⟨m, q2, 0, hadv, by omega, fun h => absurd rfl h, ?_⟩
         unfold rB at *
         refine VC.toldX q7z [] Tryz.func162 rfl Tryz.ntmps162 fun hb hbL => ?_
         clear hb hbL
         refine q0b ?_
         refine q0z [1000000] (hL) ?_
         refine q0a (f1) ?_
         refine q0z [1000000] (hL2) ?_
         refine q0a (And.intro f2 (And.intro f3 (And.intro f4 hw))) ?_
         refine retX Tryz.results162 ?_
         exact .c _
     · have f5 : (e2 == 0) = false := by simpa using h4
       have f6 : (e2 != 0) = true := by simpa using h4
       refine ⟨0, q2, e2, hadv, by omega, fun _ => rfl, ?_⟩
       unfold rB at *
       refine VC.toldX q7z [] Tryz.func162 rfl Tryz.ntmps162 fun hb hbL => ?_
       clear hb hbL
       refine q0b ?_
       refine q0z [1000000] (hL) ?_
       refine q0a (f1) ?_
       refine q0z [1000000] (hL2) ?_
       refine q0a (And.intro f2 (And.intro f3 (And.intro f5 (And.intro f6 hw)))) ?_
       refine retX Tryz.results162 ?_
       exact .c _
 · have f1 : decide (n < 0) = false := by simpa using hn
   obtain ⟨m, rfl⟩ : ∃ m : Nat, n = (m : Int) := ⟨n.toNat, by omega⟩
   by_cases h4 : e1 = 0
   · subst h4
     have he : e = 0 := Decidable.not_not.1 fun h0 => h0 ((a1.no h0).2.symm)
     by_cases h5 : 300 - k < m
     · have f4 : decide ((m : Int) > ((300 - k : Nat) : Int)) = true := by simp; omega
       refine ⟨0, q, 15, ⟨a1.le, a1.up, fun h0 => absurd he h0⟩, by omega, fun _ => rfl, ?_⟩
       unfold rB at *
       refine VC.toldX q7z [] Tryz.func162 rfl Tryz.ntmps162 fun hb hbL => ?_
       clear hb hbL
       refine q0b ?_
       refine q0z [1000000] (hL) ?_
       refine q0a (And.intro f1 (And.intro f4 hw)) ?_
       refine retX Tryz.results162 ?_
       exact .c _
     · have f4 : decide ((m : Int) > ((300 - k : Nat) : Int)) = false := by simp; omega
       refine ⟨m, q, 0, a1, by omega, fun h => absurd rfl h, ?_⟩
       unfold rB at *
       refine VC.toldX q7z [] Tryz.func162 rfl Tryz.ntmps162 fun hb hbL => ?_
       clear hb hbL
       refine q0b ?_
       refine q0z [1000000] (hL) ?_
       refine q0a (And.intro f1 (And.intro f4 hw)) ?_
       refine retX Tryz.results162 ?_
       exact .c _
   · have f5 : (e1 == 0) = false := by simpa using h4
     have f6 : (e1 != 0) = true := by simpa using h4
     refine ⟨0, q, e1, a1, by omega, fun _ => rfl, ?_⟩
     unfold rB at *
     refine VC.toldX q7z [] Tryz.func162 rfl Tryz.ntmps162 fun hb hbL => ?_
     clear hb hbL
     refine q0b ?_
     refine q0z [1000000] (hL) ?_
     refine q0a (And.intro f1 (And.intro f5 (And.intro f6 hw))) ?_
     refine retX Tryz.results162 ?_
     exact .c _

theorem z5i (B : List UInt8) (hB : B.length ≤ 1000000) (p : Nat) (hp : p ≤ B.length) (e : Int) (many : Nat) : ∃ (n q : Nat) (e' : Int), Adv B p e q e' ∧ (n < many ∨ n = 0) ∧
  ToldM Tryz.prog 161 [.ref 1000000 1 0 0, .c (.v (.bool true)), .c (.v (.int .i64 (many : Int)))] [rB B p e] [some (rB B q e')] (.c (.v (.int .i64 (n : Int)))) := by
 obtain ⟨n, q, e1, a1, a2, a3, a4, hL⟩ := j2j B hB p hp e
 by_cases h : e1 = 0
 · subst h
   have he : e = 0 := Decidable.not_not.1 fun h0 => h0 ((a1.no h0).2.symm)
   by_cases h1 : n < 0
   · have f1 : decide (n < 0) = true := by simpa using h1
     refine ⟨0, q, 11, ⟨a1.le, a1.up, fun h0 => absurd he h0⟩, .inr rfl, ?_⟩
     unfold rB at *
     refine VC.toldX q7y [] Tryz.func161 rfl Tryz.ntmps161 fun hb hbL => ?_
     clear hb hbL
     refine q0m ?_
     refine q0z [1000000] (hL) ?_
     refine q0a (f1) ?_
     refine retX Tryz.results161 ?_
     exact .c _
   have f1 : decide (n < 0) = false := by simpa using h1
   obtain ⟨m, rfl⟩ : ∃ m : Nat, n = (m : Int) := ⟨n.toNat, by omega⟩
   by_cases h2 : many ≤ m
   · have f2 : decide ((m : Int) ≥ (many : Int)) = true := by simp; omega
     refine ⟨0, q, 11, ⟨a1.le, a1.up, fun h0 => absurd he h0⟩, .inr rfl, ?_⟩
     unfold rB at *
     refine VC.toldX q7y [] Tryz.func161 rfl Tryz.ntmps161 fun hb hbL => ?_
     clear hb hbL
     refine q0m ?_
     refine q0z [1000000] (hL) ?_
     refine q0a (And.intro f1 f2) ?_
     refine retX Tryz.results161 ?_
     exact .c _
   · have f2 : decide ((m : Int) ≥ (many : Int)) = false := by simp; omega
     refine ⟨m, q, 0, a1, .inl (by omega), ?_⟩
     unfold rB at *
     refine VC.toldX q7y [] Tryz.func161 rfl Tryz.ntmps161 fun hb hbL => ?_
     clear hb hbL
     refine q0m ?_
     refine q0z [1000000] (hL) ?_
     refine q0a (And.intro f1 f2) ?_
     refine retX Tryz.results161 ?_
     exact .c _
 · have f5 : (e1 == 0) = false := by simpa using h
   have f6 : (e1 != 0) = true := by simpa using h
   refine ⟨0, q, e1, a1, .inr rfl, ?_⟩
   unfold rB at *
   refine VC.toldX q7y [] Tryz.func161 rfl Tryz.ntmps161 fun hb hbL => ?_
   clear hb hbL
   refine q0m ?_
   refine q0z [1000000] (hL) ?_
   refine q0a (And.intro f5 f6) ?_
   refine retX Tryz.results161 ?_
   exact .c _
theorem z5h (B : List UInt8) (hB : B.length ≤ 1000000) (p : Nat) (hp : p ≤ B.length) (e : Int) (many : Nat) : ∃ (n q : Nat) (e' : Int), Adv B p e q e' ∧ (n < many ∨ n = 0) ∧
  ToldM Tryz.prog 161 [.ref 1000000 1 0 0, .c (.v (.bool false)), .c (.v (.int .i64 (many : Int)))] [rB B p e] [some (rB B q e')] (.c (.v (.int .i64 (n : Int)))) := by
 obtain ⟨n, q, e1, a1, a2, a3, a4, hL⟩ := j9z B hB p hp e
 by_cases h : e1 = 0
 · subst h
   have he : e = 0 := Decidable.not_not.1 fun h0 => h0 ((a1.no h0).2.symm)
   by_cases h1 : n < 0
   · have f1 : decide (n < 0) = true := by simpa using h1
     refine ⟨0, q, 11, ⟨a1.le, a1.up, fun h0 => absurd he h0⟩, .inr rfl, ?_⟩
     unfold rB at *
     refine VC.toldX q7y [] Tryz.func161 rfl Tryz.ntmps161 fun hb hbL => ?_
     clear hb hbL
     refine q0m ?_
     refine q0z [1000000] (hL) ?_
     refine q0a (f1) ?_
     refine retX Tryz.results161 ?_
     exact .c _
   have f1 : decide (n < 0) = false := by simpa using h1
   obtain ⟨m, rfl⟩ : ∃ m : Nat, n = (m : Int) := ⟨n.toNat, by omega⟩
   by_cases h2 : many ≤ m
   · have f2 : decide ((m : Int) ≥ (many : Int)) = true := by simp; omega
     refine ⟨0, q, 11, ⟨a1.le, a1.up, fun h0 => absurd he h0⟩, .inr rfl, ?_⟩
     unfold rB at *
     refine VC.toldX q7y [] Tryz.func161 rfl Tryz.ntmps161 fun hb hbL => ?_
     clear hb hbL
     refine q0m ?_
     refine q0z [1000000] (hL) ?_
     refine q0a (And.intro f1 f2) ?_
     refine retX Tryz.results161 ?_
     exact .c _
   · have f2 : decide ((m : Int) ≥ (many : Int)) = false := by simp; omega
     refine ⟨m, q, 0, a1, .inl (by omega), ?_⟩
     unfold rB at *
     refine VC.toldX q7y [] Tryz.func161 rfl Tryz.ntmps161 fun hb hbL => ?_
     clear hb hbL
     refine q0m ?_
     refine q0z [1000000] (hL) ?_
     refine q0a (And.intro f1 f2) ?_
     refine retX Tryz.results161 ?_
     exact .c _
 · have f5 : (e1 == 0) = false := by simpa using h
   have f6 : (e1 != 0) = true := by simpa using h
   refine ⟨0, q, e1, a1, .inr rfl, ?_⟩
   unfold rB at *
   refine VC.toldX q7y [] Tryz.func161 rfl Tryz.ntmps161 fun hb hbL => ?_
   clear hb hbL
   refine q0m ?_
   refine q0z [1000000] (hL) ?_
   refine q0a (And.intro f5 f6) ?_
   refine retX Tryz.results161 ?_
   exact .c _
def q5e (s : ST) (a : Int) (dep : Nat) (B : List UInt8) (p : Nat) (e : Int) : Prop := ∃ (v : VT) (q : Nat) (e' : Int), Adv B p e q e' ∧
 ToldM Tryz.prog 160 [s.av, .c (.v (.int .i64 a)), .c (.v (.int .i64 (dep : Int))), .ref 1000000 1 0 0] [rB B p e] [some (rB B q e')] v.av
theorem z41 (s : ST) (B : List UInt8) (hB : B.length ≤ 1000000) (a : Nat) (nd : NT) (hnd : s.nodes[a]? = some nd) (hk : nd.kind = 2) (dep : Nat) (p : Nat) (hp : p ≤ B.length) : q5e s (a : Int) dep B p 0 := by
 have hnp : (s.nodes.map NT.cells)[a]? = some nd.cells := by rw [List.getElem?_map, hnd]; rfl
 have ha : a < s.nodes.length := (List.getElem?_eq_some_iff.1 hnd).1
 have g9 : decide (nd.kind ≥ 9) = false := by rw [hk]; rfl
 have e2 : (nd.kind == 2) = true := by rw [hk]; rfl
 obtain ⟨n, q, e1, a1, hT⟩ := z4l B hB p hp 0
 refine ⟨.mk nd.kind n 0 [] [] [], q, e1, a1, ?_⟩
 rw [VT.av_eq, q03, ST.av_eq, q0i]
 unfold rB at *
 refine VC.toldX q5g [] Tryz.func160 rfl Tryz.ntmps160 fun hb hbL => ?_
 clear hb hbL
 refine q0a (And.intro hnp (And.intro @q0d (And.intro @q1m (And.intro e2 g9)))) ?_
 refine q01 (@q0d) [1000000] (hT) ?_
 refine q0a (@q0d) ?_
 refine retX Tryz.results160 ?_
 exact Frz.aggL (.cons (.c _) (.cons (.c _) (.cons (.c _) (.cons (.nil 1) (.cons (.nil 6) (.cons (.nil 1) .nil))))))
theorem z42 (s : ST) (B : List UInt8) (hB : B.length ≤ 1000000) (a : Nat) (nd : NT) (hnd : s.nodes[a]? = some nd) (hk : nd.kind = 3) (dep : Nat) (p : Nat) (hp : p ≤ B.length) : q5e s (a : Int) dep B p 0 := by
 have hnp : (s.nodes.map NT.cells)[a]? = some nd.cells := by rw [List.getElem?_map, hnd]; rfl
 have ha : a < s.nodes.length := (List.getElem?_eq_some_iff.1 hnd).1
 have g9 : decide (nd.kind ≥ 9) = false := by rw [hk]; rfl
 have e2 : (nd.kind == 2) = false := by rw [hk]; rfl
 have e3 : (nd.kind == 3) = true := by rw [hk]; rfl
 obtain ⟨n, q, e1, a1, _, _, _, hT⟩ := j9z B hB p hp 0
 refine ⟨.mk nd.kind n 0 [] [] [], q, e1, a1, ?_⟩
 rw [VT.av_eq, q03, ST.av_eq, q0i]
 unfold rB at *
 refine VC.toldX q5g [] Tryz.func160 rfl Tryz.ntmps160 fun hb hbL => ?_
 clear hb hbL
 refine q0a (And.intro hnp (And.intro @q0d (And.intro @q1m (And.intro e2 (And.intro e3 g9))))) ?_
 refine q01 (@q0d) [1000000] (hT) ?_
 refine q0a (@q0d) ?_
 refine retX Tryz.results160 ?_
 exact Frz.aggL (.cons (.c _) (.cons (.c _) (.cons (.c _) (.cons (.nil 1) (.cons (.nil 6) (.cons (.nil 1) .nil))))))
theorem z43 (s : ST) (B : List UInt8) (hB : B.length ≤ 1000000) (a : Nat) (nd : NT) (hnd : s.nodes[a]? = some nd) (hk : nd.kind = 4) (dep : Nat) (p : Nat) (hp : p ≤ B.length) : q5e s (a : Int) dep B p 0 := by
 have hnp : (s.nodes.map NT.cells)[a]? = some nd.cells := by rw [List.getElem?_map, hnd]; rfl
 have ha : a < s.nodes.length := (List.getElem?_eq_some_iff.1 hnd).1
 have g9 : decide (nd.kind ≥ 9) = false := by rw [hk]; rfl
 have e2 : (nd.kind == 2) = false := by rw [hk]; rfl
 have e3 : (nd.kind == 3) = false := by rw [hk]; rfl
 have e4 : (nd.kind == 4) = true := by rw [hk]; rfl
 obtain ⟨n, q, e1, a1, _, _, _, hT⟩ := j2j B hB p hp 0
 refine ⟨.mk nd.kind n 0 [] [] [], q, e1, a1, ?_⟩
 rw [VT.av_eq, q03, ST.av_eq, q0i]
 unfold rB at *
 refine VC.toldX q5g [] Tryz.func160 rfl Tryz.ntmps160 fun hb hbL => ?_
 clear hb hbL
 refine q0a (And.intro hnp (And.intro @q0d (And.intro @q1m (And.intro e2 (And.intro e3 (And.intro e4 g9)))))) ?_
 refine q01 (@q0d) [1000000] (hT) ?_
 refine q0a (@q0d) ?_
 refine retX Tryz.results160 ?_
 exact Frz.aggL (.cons (.c _) (.cons (.c _) (.cons (.c _) (.cons (.nil 1) (.cons (.nil 6) (.cons (.nil 1) .nil))))))
theorem z44 (s : ST) (B : List UInt8) (hB : B.length ≤ 1000000) (a : Nat) (nd : NT) (hnd : s.nodes[a]? = some nd) (hk : nd.kind = 5) (dep : Nat) (p : Nat) (hp : p ≤ B.length) : q5e s (a : Int) dep B p 0 := by
 have hnp : (s.nodes.map NT.cells)[a]? = some nd.cells := by rw [List.getElem?_map, hnd]; rfl
 have ha : a < s.nodes.length := (List.getElem?_eq_some_iff.1 hnd).1
 have g9 : decide (nd.kind ≥ 9) = false := by rw [hk]; rfl
 have e2 : (nd.kind == 2) = false := by rw [hk]; rfl
 have e3 : (nd.kind == 3) = false := by rw [hk]; rfl
 have e4 : (nd.kind == 4) = false := by rw [hk]; rfl
 have e5 : (nd.kind == 5) = true := by rw [hk]; rfl
 obtain ⟨n, q, e1, a1, hT⟩ := j9x B hB p hp 0 4 (by decide)
 rw [show ((4 : Nat) : Int) = 4 from rfl] at hT
 refine ⟨.mk nd.kind 0 n [] [] [], q, e1, a1, ?_⟩
 rw [VT.av_eq, q03, ST.av_eq, q0i]
 unfold rB at *
 refine VC.toldX q5g [] Tryz.func160 rfl Tryz.ntmps160 fun hb hbL => ?_
 clear hb hbL
 refine q0a (And.intro hnp (And.intro @q0d (And.intro @q1m (And.intro e2 (And.intro e3 (And.intro e4 (And.intro e5 g9))))))) ?_
 refine q01 (@q0d) [1000000] (hT) ?_
 refine q0a (@q0d) ?_
 refine retX Tryz.results160 ?_
 exact Frz.aggL (.cons (.c _) (.cons (.c _) (.cons (.c _) (.cons (.nil 1) (.cons (.nil 6) (.cons (.nil 1) .nil))))))
theorem z45 (s : ST) (B : List UInt8) (hB : B.length ≤ 1000000) (a : Nat) (nd : NT) (hnd : s.nodes[a]? = some nd) (hk : nd.kind = 6) (dep : Nat) (p : Nat) (hp : p ≤ B.length) : q5e s (a : Int) dep B p 0 := by
 have hnp : (s.nodes.map NT.cells)[a]? = some nd.cells := by rw [List.getElem?_map, hnd]; rfl
 have ha : a < s.nodes.length := (List.getElem?_eq_some_iff.1 hnd).1
 have g9 : decide (nd.kind ≥ 9) = false := by rw [hk]; rfl
 have e2 : (nd.kind == 2) = false := by rw [hk]; rfl
 have e3 : (nd.kind == 3) = false := by rw [hk]; rfl
 have e4 : (nd.kind == 4) = false := by rw [hk]; rfl
 have e5 : (nd.kind == 5) = false := by rw [hk]; rfl
 have e6 : (nd.kind == 6) = true := by rw [hk]; rfl
 obtain ⟨n, q, e1, a1, hT⟩ := j9x B hB p hp 0 8 (by decide)
 rw [show ((8 : Nat) : Int) = 8 from rfl] at hT
 refine ⟨.mk nd.kind 0 n [] [] [], q, e1, a1, ?_⟩
 rw [VT.av_eq, q03, ST.av_eq, q0i]
 unfold rB at *
 refine VC.toldX q5g [] Tryz.func160 rfl Tryz.ntmps160 fun hb hbL => ?_
 clear hb hbL
 refine q0a (And.intro hnp (And.intro @q0d (And.intro @q1m (And.intro e2 (And.intro e3 (And.intro e4 (And.intro e5 (And.intro e6 g9)))))))) ?_
 refine q01 (@q0d) [1000000] (hT) ?_
 refine q0a (@q0d) ?_
 refine retX Tryz.results160 ?_
 exact Frz.aggL (.cons (.c _) (.cons (.c _) (.cons (.c _) (.cons (.nil 1) (.cons (.nil 6) (.cons (.nil 1) .nil))))))
theorem z47 (s : ST) (B : List UInt8) (hB : B.length ≤ 1000000) (a : Nat) (nd : NT) (hnd : s.nodes[a]? = some nd) (hk : nd.kind = 7) (dep : Nat) (p : Nat) (hp : p ≤ B.length) : q5e s (a : Int) dep B p 0 := by
 have hnp : (s.nodes.map NT.cells)[a]? = some nd.cells := by rw [List.getElem?_map, hnd]; rfl
 have ha : a < s.nodes.length := (List.getElem?_eq_some_iff.1 hnd).1
 have g9 : decide (nd.kind ≥ 9) = false := by rw [hk]; rfl
 have e2 : (nd.kind == 2) = false := by rw [hk]; rfl
 have e3 : (nd.kind == 3) = false := by rw [hk]; rfl
 have e4 : (nd.kind == 4) = false := by rw [hk]; rfl
 have e5 : (nd.kind == 5) = false := by rw [hk]; rfl
 have e6 : (nd.kind == 6) = false := by rw [hk]; rfl
 have e7 : (nd.kind == 7) = true := by rw [hk]; rfl
 obtain ⟨n, q, e1, a1, _, hT⟩ := j9y B hB p hp 0
 refine ⟨.mk nd.kind 0 0 n [] [], q, e1, a1, ?_⟩
 rw [VT.av_eq, q03, ST.av_eq, q0i]
 unfold rB at *
 refine VC.toldX q5g [] Tryz.func160 rfl Tryz.ntmps160 fun hb hbL => ?_
 clear hb hbL
 refine q0a (And.intro hnp (And.intro @q0d (And.intro @q1m (And.intro e2 (And.intro e3 (And.intro e4 (And.intro e5 (And.intro e6 (And.intro e7 g9))))))))) ?_
 refine q01 (@q0d) [1000000] (hT) ?_
 refine q0a (@q0d) ?_
 refine retX Tryz.results160 ?_
 exact Frz.aggL (.cons (.c _) (.cons (.c _) (.cons (.c _) (.cons (.c _) (.cons (.nil 6) (.cons (.nil 1) .nil))))))
theorem z48 (s : ST) (B : List UInt8) (hB : B.length ≤ 1000000) (a : Nat) (nd : NT) (hnd : s.nodes[a]? = some nd) (hk : nd.kind = 8) (dep : Nat) (p : Nat) (hp : p ≤ B.length) : q5e s (a : Int) dep B p 0 := by
 have hnp : (s.nodes.map NT.cells)[a]? = some nd.cells := by rw [List.getElem?_map, hnd]; rfl
 have ha : a < s.nodes.length := (List.getElem?_eq_some_iff.1 hnd).1
 have g9 : decide (nd.kind ≥ 9) = false := by rw [hk]; rfl
 have e2 : (nd.kind == 2) = false := by rw [hk]; rfl
 have e3 : (nd.kind == 3) = false := by rw [hk]; rfl
 have e4 : (nd.kind == 4) = false := by rw [hk]; rfl
 have e5 : (nd.kind == 5) = false := by rw [hk]; rfl
 have e6 : (nd.kind == 6) = false := by rw [hk]; rfl
 have e7 : (nd.kind == 7) = false := by rw [hk]; rfl
 have e8 : (nd.kind == 8) = true := by rw [hk]; rfl
 obtain ⟨n, q, e1, a1, hT⟩ := j91 B hB p hp 0
 refine ⟨.mk nd.kind 0 0 n [] [], q, e1, a1, ?_⟩
 rw [VT.av_eq, q03, ST.av_eq, q0i]
 unfold rB at *
 refine VC.toldX q5g [] Tryz.func160 rfl Tryz.ntmps160 fun hb hbL => ?_
 clear hb hbL
 refine q0a (And.intro hnp (And.intro @q0d (And.intro @q1m (And.intro e2 (And.intro e3 (And.intro e4 (And.intro e5 (And.intro e6 (And.intro e7 (And.intro e8 g9)))))))))) ?_
 refine q01 (@q0d) [1000000] (hT) ?_
 refine q0a (@q0d) ?_
 refine retX Tryz.results160 ?_
 exact Frz.aggL (.cons (.c _) (.cons (.c _) (.cons (.c _) (.cons (.c _) (.cons (.nil 6) (.cons (.nil 1) .nil))))))
theorem z4z (s : ST) (B : List UInt8) (hB : B.length ≤ 1000000) (a : Nat) (nd : NT) (hnd : s.nodes[a]? = some nd) (hk : nd.kind = 14) (hsz : -1000000000 ≤ nd.size ∧ nd.size ≤ 1000000000) (dep : Nat) (p : Nat) (hp : p ≤ B.length) : q5e s (a : Int) dep B p 0 := by
 have hnp : (s.nodes.map NT.cells)[a]? = some nd.cells := by rw [List.getElem?_map, hnd]; rfl
 have ha : a < s.nodes.length := (List.getElem?_eq_some_iff.1 hnd).1
 have g9 : decide (nd.kind ≥ 9) = true := by rw [hk]; rfl
 have g10 : (nd.kind != 10) = true := by rw [hk]; rfl
 have g14 : (nd.kind != 14) = false := by rw [hk]; rfl
 have e2 : (nd.kind == 2) = false := by rw [hk]; rfl
 have e3 : (nd.kind == 3) = false := by rw [hk]; rfl
 have e4 : (nd.kind == 4) = false := by rw [hk]; rfl
 have e5 : (nd.kind == 5) = false := by rw [hk]; rfl
 have e6 : (nd.kind == 6) = false := by rw [hk]; rfl
 have e7 : (nd.kind == 7) = false := by rw [hk]; rfl
 have e8 : (nd.kind == 8) = false := by rw [hk]; rfl
 have e14 : (nd.kind == 14) = true := by rw [hk]; rfl
 obtain ⟨n, q, e1, a1, _, _, hT⟩ := j34 B hB p hp 0 nd.size hsz.1 hsz.2
 refine ⟨.mk nd.kind 0 0 n [] [], q, e1, a1, ?_⟩
 rw [VT.av_eq, q03, ST.av_eq, q0i]
 unfold rB at *
 refine VC.toldX q5g [] Tryz.func160 rfl Tryz.ntmps160 fun hb hbL => ?_
 clear hb hbL
 refine q0a (And.intro hnp (And.intro @q0d (And.intro @q1m (And.intro e2 (And.intro e3 (And.intro e4 (And.intro e5 (And.intro e6 (And.intro e7 (And.intro e8 (And.intro e14 (And.intro g9 (And.intro g10 g14))))))))))))) ?_
 refine q01 (@q0d) [1000000] (hT) ?_
 refine q0a (@q0d) ?_
 refine retX Tryz.results160 ?_
 exact Frz.aggL (.cons (.c _) (.cons (.c _) (.cons (.c _) (.cons (.c _) (.cons (.nil 6) (.cons (.nil 1) .nil))))))
theorem z4y (s : ST) (B : List UInt8) (hB : B.length ≤ 1000000) (a : Nat) (nd : NT) (hnd : s.nodes[a]? = some nd) (hk : nd.kind = 10) (dep : Nat) (p : Nat) (hp : p ≤ B.length) : q5e s (a : Int) dep B p 0 := by
 have hnp : (s.nodes.map NT.cells)[a]? = some nd.cells := by rw [List.getElem?_map, hnd]; rfl
 have ha : a < s.nodes.length := (List.getElem?_eq_some_iff.1 hnd).1
 have g9 : decide (nd.kind ≥ 9) = true := by rw [hk]; rfl
 have g10 : (nd.kind != 10) = false := by rw [hk]; rfl
 have e2 : (nd.kind == 2) = false := by rw [hk]; rfl
 have e3 : (nd.kind == 3) = false := by rw [hk]; rfl
 have e4 : (nd.kind == 4) = false := by rw [hk]; rfl
 have e5 : (nd.kind == 5) = false := by rw [hk]; rfl
 have e6 : (nd.kind == 6) = false := by rw [hk]; rfl
 have e7 : (nd.kind == 7) = false := by rw [hk]; rfl
 have e8 : (nd.kind == 8) = false := by rw [hk]; rfl
 have e14 : (nd.kind == 14) = false := by rw [hk]; rfl
 have e10 : (nd.kind == 10) = true := by rw [hk]; rfl
 obtain ⟨n, q, e1, a1, hn, hT⟩ := z5h B hB p hp 0 nd.symbols.length
 refine ⟨.mk nd.kind (n : Int) 0 [] [] [], q, e1, a1, ?_⟩
 rw [VT.av_eq, q03, ST.av_eq, q0i]
 unfold rB at *
 refine VC.toldX q5g [] Tryz.func160 rfl Tryz.ntmps160 fun hb hbL => ?_
 clear hb hbL
 refine q0a (And.intro hnp (And.intro @q0d (And.intro @q1m (And.intro e2 (And.intro e3 (And.intro e4 (And.intro e5 (And.intro e6 (And.intro e7 (And.intro e8 (And.intro e14 (And.intro e10 (And.intro g9 g10))))))))))))) ?_
 refine q01 (@q0d) [1000000] (hT) ?_
 refine q0a (@q0d) ?_
 refine retX Tryz.results160 ?_
 exact Frz.aggL (.cons (.c _) (.cons (.c _) (.cons (.c _) (.cons (.nil 1) (.cons (.nil 6) (.cons (.nil 1) .nil))))))
theorem z40 (s : ST) (B : List UInt8) (hB : B.length ≤ 1000000) (a : Nat) (nd : NT) (hnd : s.nodes[a]? = some nd) (hk : nd.kind = 1) (dep : Nat) (p : Nat) (hp : p ≤ B.length) : q5e s (a : Int) dep B p 0 := by
 have hnp : (s.nodes.map NT.cells)[a]? = some nd.cells := by rw [List.getElem?_map, hnd]; rfl
 have ha : a < s.nodes.length := (List.getElem?_eq_some_iff.1 hnd).1
 have g9 : decide (nd.kind ≥ 9) = false := by rw [hk]; rfl
 have e2 : (nd.kind == 2) = false := by rw [hk]; rfl
 have e3 : (nd.kind == 3) = false := by rw [hk]; rfl
 have e4 : (nd.kind == 4) = false := by rw [hk]; rfl
 have e5 : (nd.kind == 5) = false := by rw [hk]; rfl
 have e6 : (nd.kind == 6) = false := by rw [hk]; rfl
 have e7 : (nd.kind == 7) = false := by rw [hk]; rfl
 have e8 : (nd.kind == 8) = false := by rw [hk]; rfl
 have e14 : (nd.kind == 14) = false := by rw [hk]; rfl
 have e10 : (nd.kind == 10) = false := by rw [hk]; rfl
 have e9 : (nd.kind == 9) = false := by rw [hk]; rfl
 have e11 : (nd.kind == 11) = false := by rw [hk]; rfl
 have e12 : (nd.kind == 12) = false := by rw [hk]; rfl
 have e13 : (nd.kind == 13) = false := by rw [hk]; rfl
 refine ⟨.mk nd.kind 0 0 [] [] [], p, 0, ⟨hp, Nat.le_refl _, fun h => absurd rfl h⟩, ?_⟩
 rw [VT.av_eq, q03, ST.av_eq, q0i]
 unfold rB at *
 refine VC.toldX q5g [] Tryz.func160 rfl Tryz.ntmps160 fun hb hbL => ?_
 clear hb hbL
 refine q0a (And.intro hnp (And.intro @q0d (And.intro @q1m (And.intro g9 (And.intro e2 (And.intro e3 (And.intro e4 (And.intro e5 (And.intro e6 (And.intro e7 (And.intro e8 (And.intro e14 (And.intro e10 (And.intro e9 (And.intro e11 (And.intro e12 e13)))))))))))))))) ?_
 refine retX Tryz.results160 ?_
 exact Frz.aggL (.cons (.c _) (.cons (.c _) (.cons (.c _) (.cons (.nil 1) (.cons (.nil 6) (.cons (.nil 1) .nil))))))
theorem z49 (s : ST) (B : List UInt8) (a : Nat) (nd : NT) (hnd : s.nodes[a]? = some nd) (hk : nd.kind < 9 ∨ nd.kind = 10 ∨ nd.kind = 14) (dep : Nat) (p : Nat) (hp : p ≤ B.length) (e : Int) (he : e ≠ 0) : q5e s (a : Int) dep B p e := by
 have hnp : (s.nodes.map NT.cells)[a]? = some nd.cells := by rw [List.getElem?_map, hnd]; rfl
 have ha : a < s.nodes.length := (List.getElem?_eq_some_iff.1 hnd).1
 have f1 : (e != 0) = true := by simpa using he
 refine ⟨.mk nd.kind 0 0 [] [] [], p, e, ⟨hp, Nat.le_refl _, fun _ => ⟨rfl, rfl⟩⟩, ?_⟩
 rw [VT.av_eq, q03, ST.av_eq, q0i]
 unfold rB at *
 rcases hk with hk | hk | hk
 · have g9 : decide (nd.kind ≥ 9) = false := by simp; omega
   refine VC.toldX q5g [] Tryz.func160 rfl Tryz.ntmps160 fun hb hbL => ?_
   clear hb hbL
   refine q0a (And.intro hnp (And.intro @q0d (And.intro @q1m (And.intro g9 f1)))) ?_
   refine retX Tryz.results160 ?_
   exact Frz.aggL (.cons (.c _) (.cons (.c _) (.cons (.c _) (.cons (.nil 1) (.cons (.nil 6) (.cons (.nil 1) .nil))))))
 · have g9 : decide (nd.kind ≥ 9) = true := by rw [hk]; rfl
   have g10 : (nd.kind != 10) = false := by rw [hk]; rfl
   refine VC.toldX q5g [] Tryz.func160 rfl Tryz.ntmps160 fun hb hbL => ?_
   clear hb hbL
   refine q0a (And.intro hnp (And.intro @q0d (And.intro @q1m (And.intro g9 (And.intro g10 f1))))) ?_
   refine retX Tryz.results160 ?_
   exact Frz.aggL (.cons (.c _) (.cons (.c _) (.cons (.c _) (.cons (.nil 1) (.cons (.nil 6) (.cons (.nil 1) .nil))))))
 · have g9 : decide (nd.kind ≥ 9) = true := by rw [hk]; rfl
   have g10 : (nd.kind != 10) = true := by rw [hk]; rfl
   have g14 : (nd.kind != 14) = false := by rw [hk]; rfl
   refine VC.toldX q5g [] Tryz.func160 rfl Tryz.ntmps160 fun hb hbL => ?_
   clear hb hbL
   refine q0a (And.intro hnp (And.intro @q0d (And.intro @q1m (And.intro g9 (And.intro g10 (And.intro g14 f1)))))) ?_
   refine retX Tryz.results160 ?_
   exact Frz.aggL (.cons (.c _) (.cons (.c _) (.cons (.c _) (.cons (.nil 1) (.cons (.nil 6) (.cons (.nil 1) .nil))))))
end
end Go.Proofs.YtepneflbhpidbaaGreatDoor
