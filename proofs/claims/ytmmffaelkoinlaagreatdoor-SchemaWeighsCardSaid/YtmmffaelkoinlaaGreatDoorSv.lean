/- How great a schema is, as a contract. -/
import Derived.Test.YtmmffaelkoinlaaGreatDoorSb
namespace Go.Proofs.YtmmffaelkoinlaaGreatDoor
open Go.RowKit
set_option linter.unusedVariables false
set_option linter.unusedSimpArgs false
attribute [local go_sem] opx opE ev okx gcond bnd okO AV.get AV.okb cAV upd_at putd_some putd_none wrs_nil wrs_cons look_nil look_cons st argT_at bpick_and bpick_or bpick_true bpick_false binV binI binS binVOk binOk isShift binSOk unV unVOk loadV loadP cellsA zeroA Blkd.len setE grown moreA moreR moreOk eqRes pv fillA fillE putSeg AV.cellish AV.pureL AV.pureB lentL_is ex_some AV.ren AV.renL renL_c Blkd.ren rho wrM renN lentOk rhoE keepM endOk tyA_2 tyA_3 tyA_4 tyA_5 tyA_6 tyA_7 tyA_8 tyA_9 tyA_10 tyA_11 tyA_12 tyA_13 tyA_14 tyA_15 tyA_16 tyA_17 tyA_18 tyA_19 tyA_21 tyA_22 tyA_23 tyA_24 tyA_28 tyA_29 tyA_30 tyA_31 tyA_32 tyA_34 tyA_35 tyA_36 tyA_37 tyA_38 tyA_42 tyA_47 tyA_48 tyA_49 tyA_50 tyA_51 tyA_81 tyA_85 tyA_89 tyA_90 tyA_91 tyA_98 tyA_110 tyA_111 tyA_112 tyA_113 tyA_114 tyA_119 tyA_130 tyA_160 tyA_163 tyA_165 tyA_171 tyA_181 tyA_185 tyA_187 tyA_191 tyA_192 tyA_193 tyA_194 tyA_195 tyA_197 tyA_198 tyA_200 tyA_201 tyA_202 tyA_205 Option.map_some Option.map_none Option.getD_some Option.getD_none Option.bind_some Option.bind_none List.getElem?_cons_zero List.getElem?_cons_succ List.getElem?_nil List.getElem?_toArray List.length_cons List.length_nil List.length_map List.forall_mem_map List.map_cons List.map_nil List.drop_zero List.drop_succ_cons List.drop_nil List.take_zero List.take_succ_cons List.take_nil List.mem_cons List.not_mem_nil or_false forall_eq_or_imp forall_eq List.set_cons_zero List.set_cons_succ List.cons_append List.nil_append List.append_nil List.foldl_cons List.foldl_nil List.replicate_succ List.replicate_zero List.all_cons List.all_nil if_true if_false Bool.false_eq_true ne_eq not_false_eq_true not_true_eq_false true_and and_true and_self true_implies imp_self implies_true forall_const beq_self_eq_true Bool.and_true Bool.true_and Bool.and_false Bool.false_and Bool.or_true Bool.true_or Bool.or_false Bool.false_or Bool.not_true Bool.not_false Bool.not_eq_eq_eq_not intKindOf Value.oneCell' Int.toNat_natCast beq_true beq_false Bool.not_eq_true false_implies false_or true_or or_true Nat.zero_add Nat.add_zero decide_true decide_false Int.cast_ofNat_Int Int.toNat_zero Int.toNat_one eq_self

theorem textsL_step {l : List (List UInt8)} {i n : Nat} {y : List UInt8} (hy : l[i]? = some y) (hn : n ≤ 2500) : textsL n (l.drop i) = if 2500 < y.length then 2501 else textsL (n + y.length) (l.drop (i + 1)) := by
  obtain ⟨hlt, rfl⟩ := List.getElem?_eq_some_iff.1 hy
  rw [List.drop_eq_getElem_cons hlt, textsL, if_pos hn]
theorem textsL_end {l : List (List UInt8)} {i n : Nat} (h : ¬ (i < l.length ∧ n ≤ 2500)) : textsL n (l.drop i) = n := by
  by_cases hlt : i < l.length
  · rw [List.drop_eq_getElem_cons hlt, textsL, if_neg (by omega)]
  · rw [List.drop_of_length_le (by omega), textsL]
set_option maxRecDepth 100000 in
set_option maxHeartbeats 800000 in
theorem texts_told (l : List (List UInt8)) : Told Tryz.prog 56 [.c (.sl 1 (l.map sPV)), .c (.v (.int .i64 2500))] (.c (.v (.int .i64 (textsB l)))) := by
  obtain ⟨V, hV⟩ : ∃ V, V = textsB l := ⟨_, rfl⟩
  rw [← hV]
  unfold textsB at hV
  have hw21 : IntKind.i64.wrap (2500 + 1) = 2501 := by rfl
  refine VC.told ent_56 Tryz.func56 rfl Tryz.ntmps56 (by simp) (by first | rfl | simp [AV.pureB, AV.pureL, pureL_c, pures]) (by first | rfl | simp [AV.pureB, AV.pureL, pureL_c, pures]) fun hb => ?_
  clear hb
  refine walkG ?_
  refine VC.cond (by rfl) (by trivial) (fun hc => ?_) (fun hc => ?_)
  · have hcc : 2500 < l.length := by simp at hc; omega
    rw [if_pos hcc] at hV
    subst hV
    refine walkGF (hw21) ?_
    refine ⟨by first | exact .inr rfl | exact .inl rfl, ?_⟩; rw [Tryz.results56]; simp only [resOk, resV, go_sem, Int.reduceBEq, Int.reduceLE, Int.reduceLT, Int.reduceNeg, Nat.reduceAdd, Nat.reduceEqDiff, Nat.reduceLT, Nat.reduceLeDiff, Nat.reduceMul, Nat.reduceSub, reduceCtorEq, ↓reduceIte]
    exact .c _
  have hcc : ¬ 2500 < l.length := by simp at hc; omega
  rw [if_neg hcc] at hV
  clear hc
  refine walkG ?_
  refine VC.loop (ι := {x : Nat × Nat // x.1 ≤ l.length ∧ x.2 ≤ 5000 ∧ textsL x.2 (l.drop x.1) = V}) (fun q => [(0, .c (.sl 1 (l.map sPV))), (1, .c (.v (.int .i64 2500))), (5, .c (.v (.int .i64 (q.1.2 : Int)))), (6, .c (.v (.int .i64 (q.1.1 : Int))))]) (fun _ => []) 800 (fun q => l.length - q.1.1)
    ⟨(0, l.length), Nat.zero_le _, by simp only []; omega, by rw [List.drop_zero]; exact hV.symm⟩ ?_ ?_
  · simp only [Weak, eq_self, used_is, sc_any, sc_c, sc_pp, sc_ref, sc_row, sc_agg, sc_fn, ScL, some_imp, List.forall_mem_map, go_sem, Int.reduceBEq, Int.reduceLE, Int.reduceLT, Int.reduceNeg, Nat.reduceAdd, Nat.reduceEqDiff, Nat.reduceLT, Nat.reduceLeDiff, Nat.reduceMul, Nat.reduceSub, reduceCtorEq, ↓reduceIte]
  clear hV
  rintro ⟨⟨i, n⟩, hi, hn, hV⟩
  simp only [] at hi hn hV ⊢
  refine walkG ?_
  refine VC.cond (by rfl) (by trivial) (fun hc => ?_) (fun hc => ?_)
  · have hcc : i < l.length ∧ n ≤ 2500 := by simp at hc; omega
    clear hc
    obtain ⟨y, hy⟩ : ∃ y, l[i]? = some y := ⟨l[i], List.getElem?_eq_getElem hcc.1⟩
    have hyp : (l.map sPV)[i]? = some (sPV y) := by rw [List.getElem?_map, hy]; rfl
    rw [textsL_step hy hcc.2] at hV
    have hw : IntKind.i64.wrap ((i : Int) + 1) = (i : Int) + 1 := wrap64_id (by omega) (by omega)
    refine walkGF (And.intro hyp (And.intro @sPV_eq @str_size)) ?_
    refine VC.cond (by rfl) (by trivial) (fun hc2 => ?_) (fun hc2 => ?_)
    · rw [if_pos (by simp at hc2; omega)] at hV
      subst hV
      refine walkGF (hw21) ?_
      refine ⟨by first | exact .inr rfl | exact .inl rfl, ?_⟩; rw [Tryz.results56]; simp only [resOk, resV, go_sem, Int.reduceBEq, Int.reduceLE, Int.reduceLT, Int.reduceNeg, Nat.reduceAdd, Nat.reduceEqDiff, Nat.reduceLT, Nat.reduceLeDiff, Nat.reduceMul, Nat.reduceSub, reduceCtorEq, ↓reduceIte]
      exact .c _
    · have hyl : y.length ≤ 2500 := by simp at hc2; omega
      rw [if_neg (by omega)] at hV
      have hw2 : IntKind.i64.wrap ((n : Int) + (y.length : Int)) = ((n + y.length : Nat) : Int) := by rw [wrap64_id (by omega) (by omega)]; rfl
      refine walkGF (And.intro hyp (And.intro @sPV_eq (And.intro @str_size (And.intro hw hw2)))) ?_
      refine .next ⟨(i + 1, n + y.length), by simp only []; omega, by simp only []; omega, hV⟩ ?_ (by simp only []; omega)
      simp only [Weak, eq_self, used_is, sc_any, sc_c, sc_pp, sc_ref, sc_row, sc_agg, sc_fn, ScL, some_imp, List.forall_mem_map, go_sem, Int.reduceBEq, Int.reduceLE, Int.reduceLT, Int.reduceNeg, Nat.reduceAdd, Nat.reduceEqDiff, Nat.reduceLT, Nat.reduceLeDiff, Nat.reduceMul, Nat.reduceSub, reduceCtorEq, ↓reduceIte]
      try exact cI (by omega)
  · have hcc : ¬ (i < l.length ∧ n ≤ 2500) := by simp at hc; omega
    rw [textsL_end hcc] at hV
    subst hV
    refine walkG ?_
    refine ⟨by first | exact .inr rfl | exact .inl rfl, ?_⟩; rw [Tryz.results56]; simp only [resOk, resV, go_sem, Int.reduceBEq, Int.reduceLE, Int.reduceLT, Int.reduceNeg, Nat.reduceAdd, Nat.reduceEqDiff, Nat.reduceLT, Nat.reduceLeDiff, Nat.reduceMul, Nat.reduceSub, reduceCtorEq, ↓reduceIte]
    exact .c _
theorem fieldsB_step {l : List FT} {i n : Nat} {f : FT} (hf : l[i]? = some f) (hn : n ≤ 2500) : fieldsB n (l.drop i) = if 2500 < f.name.length then none else fieldsB (n + f.name.length + textsB f.aliases + tbulk5 0 f.dflt) (l.drop (i + 1)) := by
  obtain ⟨hlt, rfl⟩ := List.getElem?_eq_some_iff.1 hf
  rw [List.drop_eq_getElem_cons hlt, fieldsB, if_pos hn]
theorem fieldsB_end {l : List FT} {i n : Nat} (h : ¬ (i < l.length ∧ n ≤ 2500)) : fieldsB n (l.drop i) = some n := by
  by_cases hlt : i < l.length
  · rw [List.drop_eq_getElem_cons hlt, fieldsB, if_neg (by omega)]
  · rw [List.drop_of_length_le (by omega), fieldsB]
theorem nodesB_end {l : List NT} {i n : Nat} (h : ¬ (i < l.length ∧ n ≤ 2500)) : nodesB n (l.drop i) = n := by
  by_cases hlt : i < l.length
  · rw [List.drop_eq_getElem_cons hlt, nodesB, if_neg (by omega)]
  · rw [List.drop_of_length_le (by omega), nodesB]
theorem nodesB_step {l : List NT} {i n : Nat} {x : NT} (hx : l[i]? = some x) (hn : n ≤ 2500) : nodesB n (l.drop i) = if 2500 < x.name.length ∨ 2500 < x.fields.length ∨ 2500 < x.branches.length ∨ 2500 < x.dflt.length then 2501 else
      match fieldsB (n + x.name.length + x.fields.length + x.branches.length + x.dflt.length + textsB x.aliases + textsB x.symbols) x.fields with | none => 2501 | some m => nodesB m (l.drop (i + 1)) := by
  obtain ⟨hlt, rfl⟩ := List.getElem?_eq_some_iff.1 hx
  rw [List.drop_eq_getElem_cons hlt, nodesB, if_pos hn]
  generalize fieldsB _ _ = F
  cases F <;> rfl
set_option maxRecDepth 100000 in
set_option maxHeartbeats 1600000 in
theorem sbulk_told (s : ST) : Told Tryz.prog 23 [s.av, .c (.v (.int .i64 2500))] (.c (.v (.int .i64 (sbulk s)))) := by
  obtain ⟨V, hV⟩ : ∃ V, V = sbulk s := ⟨_, rfl⟩
  rw [← hV]
  unfold sbulk at hV
  have hw21 : IntKind.i64.wrap (2500 + 1) = 2501 := by rfl
  rw [ST.av_eq, scells_mk]
  refine VC.told ent_23 Tryz.func23 rfl Tryz.ntmps23 (by simp) (by first | rfl | simp [AV.pureB, AV.pureL, pureL_c, pures]) (by first | rfl | simp [AV.pureB, AV.pureL, pureL_c, pures]) fun hb => ?_
  clear hb
  refine walkG ?_
  refine VC.cond (by rfl) (by trivial) (fun hc => ?_) (fun hc => ?_)
  · have hcc : 2500 < s.nodes.length := by simp at hc; omega
    rw [if_pos hcc] at hV
    subst hV
    refine walkGF (hw21) ?_
    refine ⟨by first | exact .inr rfl | exact .inl rfl, ?_⟩; rw [Tryz.results23]; simp only [resOk, resV, go_sem, Int.reduceBEq, Int.reduceLE, Int.reduceLT, Int.reduceNeg, Nat.reduceAdd, Nat.reduceEqDiff, Nat.reduceLT, Nat.reduceLeDiff, Nat.reduceMul, Nat.reduceSub, reduceCtorEq, ↓reduceIte]
    exact .c _
  have hcc : ¬ 2500 < s.nodes.length := by simp at hc; omega
  rw [if_neg hcc] at hV
  clear hc
  refine walkG ?_
  refine VC.loop (ι := {x : Nat × Nat // x.1 ≤ s.nodes.length ∧ x.2 ≤ 300000 ∧ nodesB x.2 (s.nodes.drop x.1) = V}) (fun q => [(1, .c (.v (.int .i64 2500))), (2, .ref 0 1 0 0), (5, .c (.v (.int .i64 (q.1.2 : Int)))), (6, .c (.v (.int .i64 (q.1.1 : Int))))])
    (fun q => [(0, ⟨false, 24, 2, [[.c (.sl 10 (s.nodes.map NT.cells)), .c (.v (.int .i64 s.root))]]⟩)]) 800 (fun q => s.nodes.length - q.1.1)
    ⟨(0, s.nodes.length), Nat.zero_le _, by simp only []; omega, by rw [List.drop_zero]; exact hV.symm⟩ ?_ ?_
  · simp only [Weak, eq_self, used_is, sc_any, sc_c, sc_pp, sc_ref, sc_row, sc_agg, sc_fn, ScL, some_imp, List.forall_mem_map, go_sem, Int.reduceBEq, Int.reduceLE, Int.reduceLT, Int.reduceNeg, Nat.reduceAdd, Nat.reduceEqDiff, Nat.reduceLT, Nat.reduceLeDiff, Nat.reduceMul, Nat.reduceSub, reduceCtorEq, ↓reduceIte]
  clear hV
  rintro ⟨⟨i, b⟩, hi, hb, hV⟩
  simp only [] at hi hb hV ⊢
  refine walkG ?_
  refine VC.cond (by rfl) (by trivial) (fun hc => ?_) (fun hc => ?_)
  · have hcc2 : i < s.nodes.length ∧ b ≤ 2500 := by simp at hc; omega
    clear hc
    obtain ⟨x, hx⟩ : ∃ x, s.nodes[i]? = some x := ⟨s.nodes[i], List.getElem?_eq_getElem hcc2.1⟩
    have hxp : (s.nodes.map NT.cells)[i]? = some x.cells := by rw [List.getElem?_map, hx]; rfl
    rw [nodesB_step hx hcc2.2] at hV
    have hw : IntKind.i64.wrap ((i : Int) + 1) = (i : Int) + 1 := wrap64_id (by omega) (by omega)
    refine walkGF (And.intro hxp (And.intro @ncells_mk @str_size)) ?_
    refine VC.cond (by rfl) (by trivial) (fun hc2 => ?_) (fun hc2 => ?_)
    · rw [if_pos (by simp at hc2; omega)] at hV
      subst hV
      refine walkGF (hw21) ?_
      refine ⟨by first | exact .inr rfl | exact .inl rfl, ?_⟩; rw [Tryz.results23]; simp only [resOk, resV, go_sem, Int.reduceBEq, Int.reduceLE, Int.reduceLT, Int.reduceNeg, Nat.reduceAdd, Nat.reduceEqDiff, Nat.reduceLT, Nat.reduceLeDiff, Nat.reduceMul, Nat.reduceSub, reduceCtorEq, ↓reduceIte]
      exact .c _
    have hsm : ¬ (2500 < x.name.length ∨ 2500 < x.fields.length ∨ 2500 < x.branches.length ∨ 2500 < x.dflt.length) := by simp at hc2; omega
    rw [if_neg hsm] at hV
    clear hc2
    have hT1 := texts_told x.aliases
    have hT2 := texts_told x.symbols
    have ht1 := textsB_le x.aliases
    have ht2 := textsB_le x.symbols
    generalize textsB x.aliases = t1 at hT1 ht1 hV
    generalize textsB x.symbols = t2 at hT2 ht2 hV
    have w1 : IntKind.i64.wrap ((b : Int) + (x.name.length : Int)) = (b : Int) + (x.name.length : Int) := wrap64_id (by omega) (by omega)
    have w2 : IntKind.i64.wrap ((b : Int) + (x.name.length : Int) + (x.fields.length : Int)) = (b : Int) + (x.name.length : Int) + (x.fields.length : Int) := wrap64_id (by omega) (by omega)
    have w3 : IntKind.i64.wrap ((b : Int) + (x.name.length : Int) + (x.fields.length : Int) + (x.branches.length : Int)) = (b : Int) + (x.name.length : Int) + (x.fields.length : Int) + (x.branches.length : Int) := wrap64_id (by omega) (by omega)
    have w4 : IntKind.i64.wrap ((b : Int) + (x.name.length : Int) + (x.fields.length : Int) + (x.branches.length : Int) + (x.dflt.length : Int)) = (b : Int) + (x.name.length : Int) + (x.fields.length : Int) + (x.branches.length : Int) + (x.dflt.length : Int) := wrap64_id (by omega) (by omega)
    have w5 : IntKind.i64.wrap ((b : Int) + (x.name.length : Int) + (x.fields.length : Int) + (x.branches.length : Int) + (x.dflt.length : Int) + (t1 : Int)) = (b : Int) + (x.name.length : Int) + (x.fields.length : Int) + (x.branches.length : Int) + (x.dflt.length : Int) + (t1 : Int) := wrap64_id (by omega) (by omega)
    have w6 : IntKind.i64.wrap ((b : Int) + (x.name.length : Int) + (x.fields.length : Int) + (x.branches.length : Int) + (x.dflt.length : Int) + (t1 : Int) + (t2 : Int)) = ((b + x.name.length + x.fields.length + x.branches.length + x.dflt.length + t1 + t2 : Nat) : Int) := by rw [wrap64_id (by omega) (by omega)]; rfl
    obtain ⟨b0, hb0⟩ : ∃ b0, b0 = b + x.name.length + x.fields.length + x.branches.length + x.dflt.length + t1 + t2 := ⟨_, rfl⟩
    have hb0l : b0 ≤ 30000 := by omega
    rw [← hb0] at hV w6
    clear hb0
    refine walkGF (And.intro @str_size (And.intro w1 (And.intro w2 (And.intro w3 (And.intro w4 (And.intro w5 w6)))))) ?_
    refine walkC (hT1) ?_
    refine walkGF (w5) ?_
    refine walkC (hT2) ?_
    refine walkGF (w6) ?_
    clear hT1 hT2 w1 w2 w3 w4 w5 w6 ht1 ht2
    obtain ⟨F, hF⟩ : ∃ F, F = fieldsB b0 x.fields := ⟨_, rfl⟩
    rw [← hF] at hV
    have hFl : ∀ m, F = some m → m ≤ 300000 := fun m hm => fieldsB_le x.fields b0 m (by omega) (hF ▸ hm)
    refine VC.loop (ι := {y : Nat × Nat // y.1 ≤ x.fields.length ∧ y.2 ≤ 300000 ∧ fieldsB y.2 (x.fields.drop y.1) = F})
      (fun q => [(1, .c (.v (.int .i64 2500))), (2, .ref 0 1 0 0), (5, .c (.v (.int .i64 (q.1.2 : Int)))), (6, .c (.v (.int .i64 (i : Int)))), (7, .ref 920 1 0 0), (8, .c (.v (.int .i64 (q.1.1 : Int))))])
      (fun q => [(0, ⟨false, 24, 2, [[.c (.sl 10 (s.nodes.map NT.cells)), .c (.v (.int .i64 s.root))]]⟩), (920, ⟨false, 32, 10, [x.cells.map .c]⟩)]) 4000 (fun q => x.fields.length - q.1.1)
      ⟨(0, b0), Nat.zero_le _, by simp only []; omega, by rw [List.drop_zero]; exact hF.symm⟩ ?_ ?_
    · simp only [ncells_mk, Weak, eq_self, used_is, sc_any, sc_c, sc_pp, sc_ref, sc_row, sc_agg, sc_fn, ScL, some_imp, List.forall_mem_map, go_sem, Int.reduceBEq, Int.reduceLE, Int.reduceLT, Int.reduceNeg, Nat.reduceAdd, Nat.reduceEqDiff, Nat.reduceLT, Nat.reduceLeDiff, Nat.reduceMul, Nat.reduceSub, reduceCtorEq, ↓reduceIte]
    clear hF
    rintro ⟨⟨k, c⟩, hk, hc, hF⟩
    simp only [] at hk hc hF ⊢
    refine walkGF (@ncells_mk) ?_
    refine VC.cond (by rfl) (by trivial) (fun hc2 => ?_) (fun hc2 => ?_)
    · have hcc3 : k < x.fields.length ∧ c ≤ 2500 := by simp at hc2; omega
      clear hc2
      obtain ⟨f, hf⟩ : ∃ f, x.fields[k]? = some f := ⟨x.fields[k], List.getElem?_eq_getElem hcc3.1⟩
      have hfp : (x.fields.map FT.cells)[k]? = some f.cells := by rw [List.getElem?_map, hf]; rfl
      rw [fieldsB_step hf hcc3.2] at hF
      have hwk : IntKind.i64.wrap ((k : Int) + 1) = (k : Int) + 1 := wrap64_id (by omega) (by omega)
      refine walkGF (And.intro @ncells_mk (And.intro hfp (And.intro @fcells_mk @str_size))) ?_
      refine VC.cond (by rfl) (by trivial) (fun hc2 => ?_) (fun hc2 => ?_)
      · rw [if_pos (by simp at hc2; omega)] at hF
        subst hF
        simp only [] at hV
        subst hV
        refine walkGF (hw21) ?_
        refine ⟨by first | exact .inr rfl | exact .inl rfl, ?_⟩; rw [Tryz.results23]; simp only [resOk, resV, go_sem, Int.reduceBEq, Int.reduceLE, Int.reduceLT, Int.reduceNeg, Nat.reduceAdd, Nat.reduceEqDiff, Nat.reduceLT, Nat.reduceLeDiff, Nat.reduceMul, Nat.reduceSub, reduceCtorEq, ↓reduceIte]
        exact .c _
      have hnl : f.name.length ≤ 2500 := by simp at hc2; omega
      rw [if_neg (by omega)] at hF
      clear hc2
      have hT := texts_told f.aliases
      have ht := textsB_le f.aliases
      have hB := bulk_told5 _ f.dflt (Nat.le_refl _) 0 0 (by omega) rfl
      have hbt := tbulk5_top f.dflt
      generalize textsB f.aliases = t at hT ht hF
      generalize tbulk5 0 f.dflt = u at hB hbt hF
      simp only [JT.av_eq] at hB
      have w1 : IntKind.i64.wrap ((c : Int) + (f.name.length : Int)) = (c : Int) + (f.name.length : Int) := wrap64_id (by omega) (by omega)
      have w2 : IntKind.i64.wrap ((c : Int) + (f.name.length : Int) + (t : Int)) = (c : Int) + (f.name.length : Int) + (t : Int) := wrap64_id (by omega) (by omega)
      have w3 : IntKind.i64.wrap ((c : Int) + (f.name.length : Int) + (t : Int) + (u : Int)) = ((c + f.name.length + t + u : Nat) : Int) := by rw [wrap64_id (by omega) (by omega)]; rfl
      refine walkGF (And.intro @ncells_mk (And.intro hfp (And.intro @fcells_mk (And.intro @str_size w1)))) ?_
      refine walkC (hT) ?_
      refine walkGF (And.intro @ncells_mk (And.intro hfp (And.intro @fcells_mk (And.intro w2 (And.intro @len_cells (And.intro @take_cells @take_cellsC)))))) ?_
      refine walkCF (@pureL_c) (hB) ?_
      refine walkGF (And.intro w3 hwk) ?_
      refine .next ⟨(k + 1, c + f.name.length + t + u), by simp only []; omega, by simp only []; omega, hF⟩ ?_ (by simp only []; omega)
      simp only [ncells_mk, Weak, eq_self, used_is, sc_any, sc_c, sc_pp, sc_ref, sc_row, sc_agg, sc_fn, ScL, some_imp, List.forall_mem_map, go_sem, Int.reduceBEq, Int.reduceLE, Int.reduceLT, Int.reduceNeg, Nat.reduceAdd, Nat.reduceEqDiff, Nat.reduceLT, Nat.reduceLeDiff, Nat.reduceMul, Nat.reduceSub, reduceCtorEq, ↓reduceIte]
      try exact cI (by omega)
    · have hcc3 : ¬ (k < x.fields.length ∧ c ≤ 2500) := by simp at hc2; omega
      rw [fieldsB_end hcc3] at hF
      subst hF
      simp only [] at hV
      refine walkGF (hw) ?_
      refine .next ⟨(i + 1, c), by simp only []; omega, hc, hV⟩ ?_ (by simp only []; omega)
      simp only [Weak, eq_self, used_is, sc_any, sc_c, sc_pp, sc_ref, sc_row, sc_agg, sc_fn, ScL, some_imp, List.forall_mem_map, go_sem, Int.reduceBEq, Int.reduceLE, Int.reduceLT, Int.reduceNeg, Nat.reduceAdd, Nat.reduceEqDiff, Nat.reduceLT, Nat.reduceLeDiff, Nat.reduceMul, Nat.reduceSub, reduceCtorEq, ↓reduceIte]
      try exact cI (by omega)
  · have hcc2 : ¬ (i < s.nodes.length ∧ b ≤ 2500) := by simp at hc; omega
    rw [nodesB_end hcc2] at hV
    subst hV
    refine walkG ?_
    refine ⟨by first | exact .inr rfl | exact .inl rfl, ?_⟩; rw [Tryz.results23]; simp only [resOk, resV, go_sem, Int.reduceBEq, Int.reduceLE, Int.reduceLT, Int.reduceNeg, Nat.reduceAdd, Nat.reduceEqDiff, Nat.reduceLT, Nat.reduceLeDiff, Nat.reduceMul, Nat.reduceSub, reduceCtorEq, ↓reduceIte]
    exact .c _

set_option maxRecDepth 100000 in
set_option maxHeartbeats 400000 in
theorem sgreat_told (s : ST) : Told Tryz.prog 8 [s.av] (.c (.v (.bool (decide (2500 < (sbulk s : Int)))))) := by
  have hB := sbulk_told s
  simp only [ST.av_eq, scells_mk, List.map_cons, List.map_nil] at hB
  rw [ST.av_eq, scells_mk]
  refine VC.told ent_8 Tryz.func8 rfl Tryz.ntmps8 (by simp) (by first | rfl | simp [AV.pureB, AV.pureL, pureL_c, pures]) (by first | rfl | simp [AV.pureB, AV.pureL, pureL_c, pures]) fun hb => ?_
  clear hb
  refine walkG ?_
  refine walkC (hB) ?_
  refine walkG ?_
  refine ⟨by first | exact .inr rfl | exact .inl rfl, ?_⟩; rw [Tryz.results8]; simp only [resOk, resV, go_sem, Int.reduceBEq, Int.reduceLE, Int.reduceLT, Int.reduceNeg, Nat.reduceAdd, Nat.reduceEqDiff, Nat.reduceLT, Nat.reduceLeDiff, Nat.reduceMul, Nat.reduceSub, reduceCtorEq, ↓reduceIte]
  exact .c _

end Go.Proofs.YtmmffaelkoinlaaGreatDoor
