/- Texts that lead to the law DfltValues, joined. -/
import Derived.Test.YtkaogeogjjcdhaaGreatDoorPkDfltValuesE
import Derived.Test.YtkaogeogjjcdhaaGreatDoorPkDfltValuesB
import Derived.Test.YtkaogeogjjcdhaaGreatDoorPkDfltValuesD
import Derived.Test.YtkaogeogjjcdhaaGreatDoorPkDfltValuesXAbB
import Derived.ProofKit
import Derived.OpenShut
import Derived.ChangeOld
import Derived.Below
import Derived.Test.YtkaogeogjjcdhaaGreatDoorPkDfltValuesA
namespace Go.Proofs.YtkaogeogjjcdhaaGreatDoor
open Go.RowKit
set_option linter.unusedVariables false
set_option linter.unusedSimpArgs false
section
attribute [local go_sem] opx opE ev okx gcond bnd okO AV.get AV.okb cAV upd_at putd_some putd_none wrs_nil wrs_cons look_nil look_cons st argT_at bpick_and bpick_or bpick_true bpick_false binV binI binS binVOk binOk isShift binSOk unV unVOk loadV loadP cellsA zeroA Blkd.len setE grown moreA moreR moreOk eqRes pv fillA fillE putSeg AV.cellish AV.pureL AV.pureB lentL_is ex_some AV.ren AV.renL renL_c Blkd.ren rho wrM renN lentOk rhoE keepM endOk tyA_2 tyA_3 tyA_4 tyA_5 tyA_6 tyA_7 tyA_8 tyA_9 tyA_10 tyA_11 tyA_12 tyA_13 tyA_14 tyA_15 tyA_16 tyA_17 tyA_18 tyA_19 tyA_21 tyA_22 tyA_23 tyA_24 tyA_29 tyA_30 tyA_31 tyA_32 tyA_33 tyA_34 tyA_35 tyA_36 tyA_37 tyA_38 tyA_39 tyA_40 tyA_41 tyA_42 tyA_43 tyA_48 tyA_89 tyA_93 tyA_107 tyA_108 tyA_109 tyA_113 tyA_114 tyA_115 tyA_116 tyA_117 tyA_119 tyA_120 tyA_121 tyA_122 tyA_131 tyA_134 tyA_135 tyA_136 tyA_137 tyA_138 tyA_154 tyA_156 tyA_157 tyA_158 tyA_159 tyA_170 tyA_180 tyA_181 tyA_182 tyA_196 tyA_202 tyA_208 tyA_209 tyA_210 tyA_211 tyA_212 tyA_213 tyA_229 tyA_230 tyA_231 tyA_241 tyA_264 tyA_268 tyA_293 tyA_294 tyA_295 tyA_311 tyA_313 tyA_321 tyA_326 tyA_334 tyA_338 tyA_340 tyA_343 tyA_344 tyA_345 tyA_346 tyA_347 tyA_348 tyA_349 tyA_351 tyA_352 Option.map_some Option.map_none Option.getD_some Option.getD_none Option.bind_some Option.bind_none List.getElem?_cons_zero List.getElem?_cons_succ List.getElem?_nil List.getElem?_toArray List.length_cons List.length_nil List.length_map List.forall_mem_map List.map_cons List.map_nil List.drop_zero List.drop_succ_cons List.drop_nil List.take_zero List.take_succ_cons List.take_nil List.mem_cons List.not_mem_nil or_false forall_eq_or_imp forall_eq List.set_cons_zero List.set_cons_succ List.cons_append List.nil_append List.append_nil List.foldl_cons List.foldl_nil List.replicate_succ List.replicate_zero List.all_cons List.all_nil if_true if_false Bool.false_eq_true ne_eq not_false_eq_true not_true_eq_false true_and and_true and_self true_implies imp_self implies_true forall_const beq_self_eq_true Bool.and_true Bool.true_and Bool.and_false Bool.false_and Bool.or_true Bool.true_or Bool.or_false Bool.false_or Bool.not_true Bool.not_false Bool.not_eq_eq_eq_not intKindOf Value.oneCell' Int.toNat_natCast beq_true beq_false Bool.not_eq_true false_implies false_or true_or or_true Nat.zero_add Nat.add_zero decide_true decide_false Int.cast_ofNat_Int Int.toNat_zero Int.toNat_one eq_self

theorem frz_vi {K : Nat → Bool} {h : Nat → Option Blkd} (k : Int) (xs : List VT) : Frz K h (.agg [.c (.v (.int .i64 k)), .c (.v (.int .i64 0)), .c (.v (.int .u64 0)), .c (.v (.slice none 0 0)), .c (.sl 6 (xs.map VT.cells)), .c (.v (.slice none 0 0))]) (VT.mk k 0 0 [] xs []).av := by
  rw [VT.av_eq, vcells_mk]
  exact Frz.aggL (.cons (.c _) (.cons (.c _) (.cons (.c _) (.cons (.nil 1) (.cons (.c _) (.cons (.nil 1) .nil))))))
theorem frz_vk {K : Nat → Bool} {h : Nat → Option Blkd} (k : Int) (xs : List VT) (ks : List (List UInt8)) : Frz K h (.agg [.c (.v (.int .i64 k)), .c (.v (.int .i64 0)), .c (.v (.int .u64 0)), .c (.v (.slice none 0 0)), .c (.sl 6 (xs.map VT.cells)), .c (.sl 1 (ks.map sPV))]) (VT.mk k 0 0 [] xs ks).av := by
  rw [VT.av_eq, vcells_mk]
  exact Frz.aggL (.cons (.c _) (.cons (.c _) (.cons (.c _) (.cons (.nil 1) (.cons (.c _) (.cons (.c _) .nil))))))
set_option maxRecDepth 100000 in
set_option maxHeartbeats 3200000 in
theorem say_much (ns : List NT) (r : Int) (q : Nat) (n : NT) (hn : ns[q]? = some n) (j : JT) (c : Nat) (hc : c ≤ 1000) (dep : Int) (h : 1000 < c + 1) :
    ToldM Tryz.prog 77 [.ref 1000000 1 0 0, .c (.v (.int .i64 (q : Int))), j.av, .c (.v (.int .i64 dep))] [xSB ns r c] [some (xSB ns r (c + 1))] (.tup [(vz 0).av, .c (.v (.bool false))]) := by
  have hql := (List.getElem?_eq_some_iff.1 hn).1
  have hxp : (ns.map NT.cells)[q]? = some n.cells := by rw [List.getElem?_map, hn]; rfl
  have hw : IntKind.i64.wrap ((c : Int) + 1) = ((c + 1 : Nat) : Int) := by rw [wrap64_id (by omega) (by omega)]; rfl
  have hK := compK_told n.kind
  have e1 : decide (((c + 1 : Nat) : Int) > 1000) = true := by simp; omega
  obtain ⟨B, hB⟩ : ∃ B, B = compK n.kind := ⟨_, rfl⟩
  obtain ⟨D, hD⟩ : ∃ D, D = decide (dep ≥ 20) := ⟨_, rfl⟩
  rw [← hB] at hK
  rw [JT.av_eq, VT.av_eq]
  generalize c + 1 = c1 at *
  cases B <;> cases D
  all_goals
    unfold xSB
    refine VC.toldM ent_77 [] Tryz.func77 rfl Tryz.ntmps77 (by simp) (by simp only [ScM, zOk, inL, eq_self, used_is, sc_any, sc_c, sc_pp, sc_ref, sc_row, sc_agg, sc_tup, sc_fn, ScL, some_imp, List.forall_mem_map, Nat.le_refl, go_sem, simprocAttr]) (by simp only [ScM, zOk, inL, eq_self, used_is, sc_any, sc_c, sc_pp, sc_ref, sc_row, sc_agg, sc_tup, sc_fn, ScL, some_imp, List.forall_mem_map, Nat.le_refl, go_sem, simprocAttr]) (by simp only [ScM, zOk, inL, eq_self, used_is, sc_any, sc_c, sc_pp, sc_ref, sc_row, sc_agg, sc_tup, sc_fn, ScL, some_imp, List.forall_mem_map, Nat.le_refl, go_sem, simprocAttr]) (by simp only [ScM, zOk, inL, eq_self, used_is, sc_any, sc_c, sc_pp, sc_ref, sc_row, sc_agg, sc_tup, sc_fn, ScL, some_imp, List.forall_mem_map, Nat.le_refl, go_sem, simprocAttr]) (by simp) fun hb hbL => ?_
    clear hb hbL
    refine walkGF (And.intro hxp (And.intro @ncells_mk hw)) ?_
    refine walkC (hK) ?_
    refine walkBF (And.intro hxp (And.intro @ncells_mk (And.intro hw (And.intro e1 hD.symm)))) ?_
    refine ⟨by first | exact .inr rfl | exact .inl rfl, ?_⟩; rw [Tryz.results77]; simp only [resOk, resV, go_sem, Int.reduceBEq, Int.reduceLE, Int.reduceLT, Int.reduceNeg, Nat.reduceAdd, Nat.reduceEqDiff, Nat.reduceLT, Nat.reduceLeDiff, Nat.reduceMul, Nat.reduceSub, reduceCtorEq, ↓reduceIte]
    exact ⟨frz_v _ _ _, .c _⟩
set_option maxRecDepth 100000 in
set_option maxHeartbeats 3200000 in
theorem say_deep (ns : List NT) (r : Int) (q : Nat) (n : NT) (hn : ns[q]? = some n) (j : JT) (c : Nat) (hc : c ≤ 1000) (dep : Int) (hk : compK n.kind = true) (hd : 20 ≤ dep) :
    ToldM Tryz.prog 77 [.ref 1000000 1 0 0, .c (.v (.int .i64 (q : Int))), j.av, .c (.v (.int .i64 dep))] [xSB ns r c] [some (xSB ns r (c + 1))] (.tup [(vz 0).av, .c (.v (.bool false))]) := by
  have hql := (List.getElem?_eq_some_iff.1 hn).1
  have hxp : (ns.map NT.cells)[q]? = some n.cells := by rw [List.getElem?_map, hn]; rfl
  have hw : IntKind.i64.wrap ((c : Int) + 1) = ((c + 1 : Nat) : Int) := by rw [wrap64_id (by omega) (by omega)]; rfl
  have hK := compK_told n.kind
  rw [hk] at hK
  have hD : decide (dep ≥ 20) = true := by simpa using hd
  rw [JT.av_eq, VT.av_eq]
  generalize c + 1 = c1 at *
  unfold xSB
  refine VC.toldM ent_77 [] Tryz.func77 rfl Tryz.ntmps77 (by simp) (by simp only [ScM, zOk, inL, eq_self, used_is, sc_any, sc_c, sc_pp, sc_ref, sc_row, sc_agg, sc_tup, sc_fn, ScL, some_imp, List.forall_mem_map, Nat.le_refl, go_sem, simprocAttr]) (by simp only [ScM, zOk, inL, eq_self, used_is, sc_any, sc_c, sc_pp, sc_ref, sc_row, sc_agg, sc_tup, sc_fn, ScL, some_imp, List.forall_mem_map, Nat.le_refl, go_sem, simprocAttr]) (by simp only [ScM, zOk, inL, eq_self, used_is, sc_any, sc_c, sc_pp, sc_ref, sc_row, sc_agg, sc_tup, sc_fn, ScL, some_imp, List.forall_mem_map, Nat.le_refl, go_sem, simprocAttr]) (by simp only [ScM, zOk, inL, eq_self, used_is, sc_any, sc_c, sc_pp, sc_ref, sc_row, sc_agg, sc_tup, sc_fn, ScL, some_imp, List.forall_mem_map, Nat.le_refl, go_sem, simprocAttr]) (by simp) fun hb hbL => ?_
  clear hb hbL
  refine walkGF (And.intro hxp (And.intro @ncells_mk hw)) ?_
  refine walkC (hK) ?_
  refine walkBF (And.intro hxp (And.intro @ncells_mk (And.intro hw hD))) ?_
  refine ⟨by first | exact .inr rfl | exact .inl rfl, ?_⟩; rw [Tryz.results77]; simp only [resOk, resV, go_sem, Int.reduceBEq, Int.reduceLE, Int.reduceLT, Int.reduceNeg, Nat.reduceAdd, Nat.reduceEqDiff, Nat.reduceLT, Nat.reduceLeDiff, Nat.reduceMul, Nat.reduceSub, reduceCtorEq, ↓reduceIte]
  exact ⟨frz_v _ _ _, .c _⟩
set_option maxRecDepth 100000 in
set_option maxHeartbeats 3200000 in
theorem say_1 (ns : List NT) (r : Int) (q : Nat) (n : NT) (hn : ns[q]? = some n) (j : JT) (c : Nat) (hc : c ≤ 1000) (dep : Int) (hk : n.kind = 1) (h : ¬ 1000 < c + 1) :
    ToldM Tryz.prog 77 [.ref 1000000 1 0 0, .c (.v (.int .i64 (q : Int))), j.av, .c (.v (.int .i64 dep))] [xSB ns r c] [some (xSB ns r (c + 1))] (.tup [(vz 1).av, .c (.v (.bool (j.kd == 1)))]) := by
  have hql := (List.getElem?_eq_some_iff.1 hn).1
  have hxp : (ns.map NT.cells)[q]? = some n.cells := by rw [List.getElem?_map, hn]; rfl
  have hw : IntKind.i64.wrap ((c : Int) + 1) = ((c + 1 : Nat) : Int) := by rw [wrap64_id (by omega) (by omega)]; rfl
  have hK := compK_told 1
  rw [show compK 1 = false from rfl] at hK
  have e1 : decide (((c + 1 : Nat) : Int) > 1000) = false := by simp; omega
  generalize c + 1 = c1 at *
  rw [JT.av_eq, VT.av_eq]
  unfold xSB
  refine VC.toldM ent_77 [] Tryz.func77 rfl Tryz.ntmps77 (by simp) (by simp only [ScM, zOk, inL, eq_self, used_is, sc_any, sc_c, sc_pp, sc_ref, sc_row, sc_agg, sc_tup, sc_fn, ScL, some_imp, List.forall_mem_map, Nat.le_refl, go_sem, simprocAttr]) (by simp only [ScM, zOk, inL, eq_self, used_is, sc_any, sc_c, sc_pp, sc_ref, sc_row, sc_agg, sc_tup, sc_fn, ScL, some_imp, List.forall_mem_map, Nat.le_refl, go_sem, simprocAttr]) (by simp only [ScM, zOk, inL, eq_self, used_is, sc_any, sc_c, sc_pp, sc_ref, sc_row, sc_agg, sc_tup, sc_fn, ScL, some_imp, List.forall_mem_map, Nat.le_refl, go_sem, simprocAttr]) (by simp only [ScM, zOk, inL, eq_self, used_is, sc_any, sc_c, sc_pp, sc_ref, sc_row, sc_agg, sc_tup, sc_fn, ScL, some_imp, List.forall_mem_map, Nat.le_refl, go_sem, simprocAttr]) (by simp) fun hb hbL => ?_
  clear hb hbL
  refine walkGF (And.intro hxp (And.intro @ncells_mk (And.intro hw hk))) ?_
  refine walkC (hK) ?_
  refine walkBF (And.intro hxp (And.intro @ncells_mk (And.intro hw (And.intro hk (And.intro e1 @jcells_acc))))) ?_
  refine ⟨by first | exact .inr rfl | exact .inl rfl, ?_⟩; rw [Tryz.results77]; simp only [resOk, resV, go_sem, Int.reduceBEq, Int.reduceLE, Int.reduceLT, Int.reduceNeg, Nat.reduceAdd, Nat.reduceEqDiff, Nat.reduceLT, Nat.reduceLeDiff, Nat.reduceMul, Nat.reduceSub, reduceCtorEq, ↓reduceIte]
  exact ⟨frz_v _ _ _, .c _⟩
set_option maxRecDepth 100000 in
set_option maxHeartbeats 3200000 in
theorem say_2 (ns : List NT) (r : Int) (q : Nat) (n : NT) (hn : ns[q]? = some n) (j : JT) (c : Nat) (hc : c ≤ 1000) (dep : Int) (hk : n.kind = 2) (h : ¬ 1000 < c + 1) :
    ToldM Tryz.prog 77 [.ref 1000000 1 0 0, .c (.v (.int .i64 (q : Int))), j.av, .c (.v (.int .i64 dep))] [xSB ns r c] [some (xSB ns r (c + 1))] (.tup [(VT.mk 2 j.num 0 [] [] []).av, .c (.v (.bool (j.kd == 2)))]) := by
  have hql := (List.getElem?_eq_some_iff.1 hn).1
  have hxp : (ns.map NT.cells)[q]? = some n.cells := by rw [List.getElem?_map, hn]; rfl
  have hw : IntKind.i64.wrap ((c : Int) + 1) = ((c + 1 : Nat) : Int) := by rw [wrap64_id (by omega) (by omega)]; rfl
  have hK := compK_told 2
  rw [show compK 2 = false from rfl] at hK
  have e1 : decide (((c + 1 : Nat) : Int) > 1000) = false := by simp; omega
  generalize c + 1 = c1 at *
  rw [JT.av_eq, VT.av_eq]
  unfold xSB
  refine VC.toldM ent_77 [] Tryz.func77 rfl Tryz.ntmps77 (by simp) (by simp only [ScM, zOk, inL, eq_self, used_is, sc_any, sc_c, sc_pp, sc_ref, sc_row, sc_agg, sc_tup, sc_fn, ScL, some_imp, List.forall_mem_map, Nat.le_refl, go_sem, simprocAttr]) (by simp only [ScM, zOk, inL, eq_self, used_is, sc_any, sc_c, sc_pp, sc_ref, sc_row, sc_agg, sc_tup, sc_fn, ScL, some_imp, List.forall_mem_map, Nat.le_refl, go_sem, simprocAttr]) (by simp only [ScM, zOk, inL, eq_self, used_is, sc_any, sc_c, sc_pp, sc_ref, sc_row, sc_agg, sc_tup, sc_fn, ScL, some_imp, List.forall_mem_map, Nat.le_refl, go_sem, simprocAttr]) (by simp only [ScM, zOk, inL, eq_self, used_is, sc_any, sc_c, sc_pp, sc_ref, sc_row, sc_agg, sc_tup, sc_fn, ScL, some_imp, List.forall_mem_map, Nat.le_refl, go_sem, simprocAttr]) (by simp) fun hb hbL => ?_
  clear hb hbL
  refine walkGF (And.intro hxp (And.intro @ncells_mk (And.intro hw hk))) ?_
  refine walkC (hK) ?_
  refine walkBF (And.intro hxp (And.intro @ncells_mk (And.intro hw (And.intro hk (And.intro e1 @jcells_acc))))) ?_
  refine ⟨by first | exact .inr rfl | exact .inl rfl, ?_⟩; rw [Tryz.results77]; simp only [resOk, resV, go_sem, Int.reduceBEq, Int.reduceLE, Int.reduceLT, Int.reduceNeg, Nat.reduceAdd, Nat.reduceEqDiff, Nat.reduceLT, Nat.reduceLeDiff, Nat.reduceMul, Nat.reduceSub, reduceCtorEq, ↓reduceIte]
  exact ⟨frz_v _ _ _, .c _⟩
set_option maxRecDepth 100000 in
set_option maxHeartbeats 3200000 in
theorem say_3 (ns : List NT) (r : Int) (q : Nat) (n : NT) (hn : ns[q]? = some n) (j : JT) (c : Nat) (hc : c ≤ 1000) (dep : Int) (hk : n.kind = 3) (h : ¬ 1000 < c + 1) (hj : JOk j) :
    ToldM Tryz.prog 77 [.ref 1000000 1 0 0, .c (.v (.int .i64 (q : Int))), j.av, .c (.v (.int .i64 dep))] [xSB ns r c] [some (xSB ns r (c + 1))] (.tup [(numS 3 j).1.av, .c (.v (.bool (numS 3 j).2))]) := by
  have hql := (List.getElem?_eq_some_iff.1 hn).1
  have hxp : (ns.map NT.cells)[q]? = some n.cells := by rw [List.getElem?_map, hn]; rfl
  have hw : IntKind.i64.wrap ((c : Int) + 1) = ((c + 1 : Nat) : Int) := by rw [wrap64_id (by omega) (by omega)]; rfl
  have hK := compK_told 3
  rw [show compK 3 = false from rfl] at hK
  have e1 : decide (((c + 1 : Nat) : Int) > 1000) = false := by simp; omega
  generalize c + 1 = c1 at *
  have hNum := number13_told 3 (by decide) j hj.2.1 hj.1
  generalize (numS 3 j).1 = v at *
  generalize (numS 3 j).2 = b at *
  rw [JT.av_eq] at hNum ⊢
  rw [VT.av_eq] at hNum ⊢
  unfold xSB
  refine VC.toldM ent_77 [] Tryz.func77 rfl Tryz.ntmps77 (by simp) (by simp only [ScM, zOk, inL, eq_self, used_is, sc_any, sc_c, sc_pp, sc_ref, sc_row, sc_agg, sc_tup, sc_fn, ScL, some_imp, List.forall_mem_map, Nat.le_refl, go_sem, simprocAttr]) (by simp only [ScM, zOk, inL, eq_self, used_is, sc_any, sc_c, sc_pp, sc_ref, sc_row, sc_agg, sc_tup, sc_fn, ScL, some_imp, List.forall_mem_map, Nat.le_refl, go_sem, simprocAttr]) (by simp only [ScM, zOk, inL, eq_self, used_is, sc_any, sc_c, sc_pp, sc_ref, sc_row, sc_agg, sc_tup, sc_fn, ScL, some_imp, List.forall_mem_map, Nat.le_refl, go_sem, simprocAttr]) (by simp only [ScM, zOk, inL, eq_self, used_is, sc_any, sc_c, sc_pp, sc_ref, sc_row, sc_agg, sc_tup, sc_fn, ScL, some_imp, List.forall_mem_map, Nat.le_refl, go_sem, simprocAttr]) (by simp) fun hb hbL => ?_
  clear hb hbL
  refine walkGF (And.intro hxp (And.intro @ncells_mk (And.intro hw hk))) ?_
  refine walkC (hK) ?_
  refine walkBF (And.intro hxp (And.intro @ncells_mk (And.intro hw (And.intro hk (And.intro e1 (And.intro @len_cells (And.intro @take_cells @take_cellsC))))))) ?_
  refine walkCF (@pureL_c) (hNum) ?_
  refine walkBF (And.intro @len_vcells (And.intro @take_vcells @take_vcellsC)) ?_
  refine ⟨by first | exact .inr rfl | exact .inl rfl, ?_⟩; rw [Tryz.results77]; simp only [len_vcells, take_vcellsC, resOk, resV, go_sem, Int.reduceBEq, Int.reduceLE, Int.reduceLT, Int.reduceNeg, Nat.reduceAdd, Nat.reduceEqDiff, Nat.reduceLT, Nat.reduceLeDiff, Nat.reduceMul, Nat.reduceSub, reduceCtorEq, ↓reduceIte]
  exact ⟨Frz.cs _ _, .c _⟩
set_option maxRecDepth 100000 in
set_option maxHeartbeats 3200000 in
theorem say_4 (ns : List NT) (r : Int) (q : Nat) (n : NT) (hn : ns[q]? = some n) (j : JT) (c : Nat) (hc : c ≤ 1000) (dep : Int) (hk : n.kind = 4) (h : ¬ 1000 < c + 1) (hj : JOk j) :
    ToldM Tryz.prog 77 [.ref 1000000 1 0 0, .c (.v (.int .i64 (q : Int))), j.av, .c (.v (.int .i64 dep))] [xSB ns r c] [some (xSB ns r (c + 1))] (.tup [(numS 4 j).1.av, .c (.v (.bool (numS 4 j).2))]) := by
  have hql := (List.getElem?_eq_some_iff.1 hn).1
  have hxp : (ns.map NT.cells)[q]? = some n.cells := by rw [List.getElem?_map, hn]; rfl
  have hw : IntKind.i64.wrap ((c : Int) + 1) = ((c + 1 : Nat) : Int) := by rw [wrap64_id (by omega) (by omega)]; rfl
  have hK := compK_told 4
  rw [show compK 4 = false from rfl] at hK
  have e1 : decide (((c + 1 : Nat) : Int) > 1000) = false := by simp; omega
  generalize c + 1 = c1 at *
  have hNum := number13_told 4 (by decide) j hj.2.1 hj.1
  generalize (numS 4 j).1 = v at *
  generalize (numS 4 j).2 = b at *
  rw [JT.av_eq] at hNum ⊢
  rw [VT.av_eq] at hNum ⊢
  unfold xSB
  refine VC.toldM ent_77 [] Tryz.func77 rfl Tryz.ntmps77 (by simp) (by simp only [ScM, zOk, inL, eq_self, used_is, sc_any, sc_c, sc_pp, sc_ref, sc_row, sc_agg, sc_tup, sc_fn, ScL, some_imp, List.forall_mem_map, Nat.le_refl, go_sem, simprocAttr]) (by simp only [ScM, zOk, inL, eq_self, used_is, sc_any, sc_c, sc_pp, sc_ref, sc_row, sc_agg, sc_tup, sc_fn, ScL, some_imp, List.forall_mem_map, Nat.le_refl, go_sem, simprocAttr]) (by simp only [ScM, zOk, inL, eq_self, used_is, sc_any, sc_c, sc_pp, sc_ref, sc_row, sc_agg, sc_tup, sc_fn, ScL, some_imp, List.forall_mem_map, Nat.le_refl, go_sem, simprocAttr]) (by simp only [ScM, zOk, inL, eq_self, used_is, sc_any, sc_c, sc_pp, sc_ref, sc_row, sc_agg, sc_tup, sc_fn, ScL, some_imp, List.forall_mem_map, Nat.le_refl, go_sem, simprocAttr]) (by simp) fun hb hbL => ?_
  clear hb hbL
  refine walkGF (And.intro hxp (And.intro @ncells_mk (And.intro hw hk))) ?_
  refine walkC (hK) ?_
  refine walkBF (And.intro hxp (And.intro @ncells_mk (And.intro hw (And.intro hk (And.intro e1 (And.intro @len_cells (And.intro @take_cells @take_cellsC))))))) ?_
  refine walkCF (@pureL_c) (hNum) ?_
  refine walkBF (And.intro @len_vcells (And.intro @take_vcells @take_vcellsC)) ?_
  refine ⟨by first | exact .inr rfl | exact .inl rfl, ?_⟩; rw [Tryz.results77]; simp only [len_vcells, take_vcellsC, resOk, resV, go_sem, Int.reduceBEq, Int.reduceLE, Int.reduceLT, Int.reduceNeg, Nat.reduceAdd, Nat.reduceEqDiff, Nat.reduceLT, Nat.reduceLeDiff, Nat.reduceMul, Nat.reduceSub, reduceCtorEq, ↓reduceIte]
  exact ⟨Frz.cs _ _, .c _⟩
set_option maxRecDepth 100000 in
set_option maxHeartbeats 3200000 in
theorem say_5 (ns : List NT) (r : Int) (q : Nat) (n : NT) (hn : ns[q]? = some n) (j : JT) (c : Nat) (hc : c ≤ 1000) (dep : Int) (hk : n.kind = 5) (h : ¬ 1000 < c + 1) (hj : JOk j) :
    ToldM Tryz.prog 77 [.ref 1000000 1 0 0, .c (.v (.int .i64 (q : Int))), j.av, .c (.v (.int .i64 dep))] [xSB ns r c] [some (xSB ns r (c + 1))] (.tup [(numS 5 j).1.av, .c (.v (.bool (numS 5 j).2))]) := by
  have hql := (List.getElem?_eq_some_iff.1 hn).1
  have hxp : (ns.map NT.cells)[q]? = some n.cells := by rw [List.getElem?_map, hn]; rfl
  have hw : IntKind.i64.wrap ((c : Int) + 1) = ((c + 1 : Nat) : Int) := by rw [wrap64_id (by omega) (by omega)]; rfl
  have hK := compK_told 5
  rw [show compK 5 = false from rfl] at hK
  have e1 : decide (((c + 1 : Nat) : Int) > 1000) = false := by simp; omega
  generalize c + 1 = c1 at *
  have hNum := number13_told 5 (by decide) j hj.2.1 hj.1
  generalize (numS 5 j).1 = v at *
  generalize (numS 5 j).2 = b at *
  rw [JT.av_eq] at hNum ⊢
  rw [VT.av_eq] at hNum ⊢
  unfold xSB
  refine VC.toldM ent_77 [] Tryz.func77 rfl Tryz.ntmps77 (by simp) (by simp only [ScM, zOk, inL, eq_self, used_is, sc_any, sc_c, sc_pp, sc_ref, sc_row, sc_agg, sc_tup, sc_fn, ScL, some_imp, List.forall_mem_map, Nat.le_refl, go_sem, simprocAttr]) (by simp only [ScM, zOk, inL, eq_self, used_is, sc_any, sc_c, sc_pp, sc_ref, sc_row, sc_agg, sc_tup, sc_fn, ScL, some_imp, List.forall_mem_map, Nat.le_refl, go_sem, simprocAttr]) (by simp only [ScM, zOk, inL, eq_self, used_is, sc_any, sc_c, sc_pp, sc_ref, sc_row, sc_agg, sc_tup, sc_fn, ScL, some_imp, List.forall_mem_map, Nat.le_refl, go_sem, simprocAttr]) (by simp only [ScM, zOk, inL, eq_self, used_is, sc_any, sc_c, sc_pp, sc_ref, sc_row, sc_agg, sc_tup, sc_fn, ScL, some_imp, List.forall_mem_map, Nat.le_refl, go_sem, simprocAttr]) (by simp) fun hb hbL => ?_
  clear hb hbL
  refine walkGF (And.intro hxp (And.intro @ncells_mk (And.intro hw hk))) ?_
  refine walkC (hK) ?_
  refine walkBF (And.intro hxp (And.intro @ncells_mk (And.intro hw (And.intro hk (And.intro e1 (And.intro @len_cells (And.intro @take_cells @take_cellsC))))))) ?_
  refine walkCF (@pureL_c) (hNum) ?_
  refine walkBF (And.intro @len_vcells (And.intro @take_vcells @take_vcellsC)) ?_
  refine ⟨by first | exact .inr rfl | exact .inl rfl, ?_⟩; rw [Tryz.results77]; simp only [len_vcells, take_vcellsC, resOk, resV, go_sem, Int.reduceBEq, Int.reduceLE, Int.reduceLT, Int.reduceNeg, Nat.reduceAdd, Nat.reduceEqDiff, Nat.reduceLT, Nat.reduceLeDiff, Nat.reduceMul, Nat.reduceSub, reduceCtorEq, ↓reduceIte]
  exact ⟨Frz.cs _ _, .c _⟩
set_option maxRecDepth 100000 in
set_option maxHeartbeats 3200000 in
theorem say_6 (ns : List NT) (r : Int) (q : Nat) (n : NT) (hn : ns[q]? = some n) (j : JT) (c : Nat) (hc : c ≤ 1000) (dep : Int) (hk : n.kind = 6) (h : ¬ 1000 < c + 1) (hj : JOk j) :
    ToldM Tryz.prog 77 [.ref 1000000 1 0 0, .c (.v (.int .i64 (q : Int))), j.av, .c (.v (.int .i64 dep))] [xSB ns r c] [some (xSB ns r (c + 1))] (.tup [(numS 6 j).1.av, .c (.v (.bool (numS 6 j).2))]) := by
  have hql := (List.getElem?_eq_some_iff.1 hn).1
  have hxp : (ns.map NT.cells)[q]? = some n.cells := by rw [List.getElem?_map, hn]; rfl
  have hw : IntKind.i64.wrap ((c : Int) + 1) = ((c + 1 : Nat) : Int) := by rw [wrap64_id (by omega) (by omega)]; rfl
  have hK := compK_told 6
  rw [show compK 6 = false from rfl] at hK
  have e1 : decide (((c + 1 : Nat) : Int) > 1000) = false := by simp; omega
  generalize c + 1 = c1 at *
  have hNum := number13_told 6 (by decide) j hj.2.1 hj.1
  generalize (numS 6 j).1 = v at *
  generalize (numS 6 j).2 = b at *
  rw [JT.av_eq] at hNum ⊢
  rw [VT.av_eq] at hNum ⊢
  unfold xSB
  refine VC.toldM ent_77 [] Tryz.func77 rfl Tryz.ntmps77 (by simp) (by simp only [ScM, zOk, inL, eq_self, used_is, sc_any, sc_c, sc_pp, sc_ref, sc_row, sc_agg, sc_tup, sc_fn, ScL, some_imp, List.forall_mem_map, Nat.le_refl, go_sem, simprocAttr]) (by simp only [ScM, zOk, inL, eq_self, used_is, sc_any, sc_c, sc_pp, sc_ref, sc_row, sc_agg, sc_tup, sc_fn, ScL, some_imp, List.forall_mem_map, Nat.le_refl, go_sem, simprocAttr]) (by simp only [ScM, zOk, inL, eq_self, used_is, sc_any, sc_c, sc_pp, sc_ref, sc_row, sc_agg, sc_tup, sc_fn, ScL, some_imp, List.forall_mem_map, Nat.le_refl, go_sem, simprocAttr]) (by simp only [ScM, zOk, inL, eq_self, used_is, sc_any, sc_c, sc_pp, sc_ref, sc_row, sc_agg, sc_tup, sc_fn, ScL, some_imp, List.forall_mem_map, Nat.le_refl, go_sem, simprocAttr]) (by simp) fun hb hbL => ?_
  clear hb hbL
  refine walkGF (And.intro hxp (And.intro @ncells_mk (And.intro hw hk))) ?_
  refine walkC (hK) ?_
  refine walkBF (And.intro hxp (And.intro @ncells_mk (And.intro hw (And.intro hk (And.intro e1 (And.intro @len_cells (And.intro @take_cells @take_cellsC))))))) ?_
  refine walkCF (@pureL_c) (hNum) ?_
  refine walkBF (And.intro @len_vcells (And.intro @take_vcells @take_vcellsC)) ?_
  refine ⟨by first | exact .inr rfl | exact .inl rfl, ?_⟩; rw [Tryz.results77]; simp only [len_vcells, take_vcellsC, resOk, resV, go_sem, Int.reduceBEq, Int.reduceLE, Int.reduceLT, Int.reduceNeg, Nat.reduceAdd, Nat.reduceEqDiff, Nat.reduceLT, Nat.reduceLeDiff, Nat.reduceMul, Nat.reduceSub, reduceCtorEq, ↓reduceIte]
  exact ⟨Frz.cs _ _, .c _⟩
set_option maxRecDepth 100000 in
set_option maxHeartbeats 3200000 in
theorem say_10 (ns : List NT) (r : Int) (q : Nat) (n : NT) (hn : ns[q]? = some n) (j : JT) (c : Nat) (hc : c ≤ 1000) (dep : Int) (hk : n.kind = 10) (h : ¬ 1000 < c + 1) :
    ToldM Tryz.prog 77 [.ref 1000000 1 0 0, .c (.v (.int .i64 (q : Int))), j.av, .c (.v (.int .i64 dep))] [xSB ns r c] [some (xSB ns r (c + 1))] (.tup [(VT.mk 10 (idxS j.txt n.symbols) 0 [] [] []).av, .c (.v (.bool (j.kd == 4 && decide (0 ≤ idxS j.txt n.symbols))))]) := by
  have hql := (List.getElem?_eq_some_iff.1 hn).1
  have hxp : (ns.map NT.cells)[q]? = some n.cells := by rw [List.getElem?_map, hn]; rfl
  have hw : IntKind.i64.wrap ((c : Int) + 1) = ((c + 1 : Nat) : Int) := by rw [wrap64_id (by omega) (by omega)]; rfl
  have hK := compK_told 10
  rw [show compK 10 = false from rfl] at hK
  have e1 : decide (((c + 1 : Nat) : Int) > 1000) = false := by simp; omega
  generalize c + 1 = c1 at *
  have hI := sindex_told n.symbols j.txt
  rw [JT.av_eq, VT.av_eq]
  obtain ⟨b1, h1⟩ : ∃ b : Bool, b = (j.kd == 4) := ⟨_, rfl⟩
  obtain ⟨b2, h2⟩ : ∃ b : Bool, b = decide (idxS j.txt n.symbols ≥ 0) := ⟨_, rfl⟩
  rw [show decide (0 ≤ idxS j.txt n.symbols) = decide (idxS j.txt n.symbols ≥ 0) from rfl, ← h1, ← h2]
  generalize idxS j.txt n.symbols = ix at *
  cases b1 <;> cases b2
  all_goals
    unfold xSB
    refine VC.toldM ent_77 [] Tryz.func77 rfl Tryz.ntmps77 (by simp) (by simp only [ScM, zOk, inL, eq_self, used_is, sc_any, sc_c, sc_pp, sc_ref, sc_row, sc_agg, sc_tup, sc_fn, ScL, some_imp, List.forall_mem_map, Nat.le_refl, go_sem, simprocAttr]) (by simp only [ScM, zOk, inL, eq_self, used_is, sc_any, sc_c, sc_pp, sc_ref, sc_row, sc_agg, sc_tup, sc_fn, ScL, some_imp, List.forall_mem_map, Nat.le_refl, go_sem, simprocAttr]) (by simp only [ScM, zOk, inL, eq_self, used_is, sc_any, sc_c, sc_pp, sc_ref, sc_row, sc_agg, sc_tup, sc_fn, ScL, some_imp, List.forall_mem_map, Nat.le_refl, go_sem, simprocAttr]) (by simp only [ScM, zOk, inL, eq_self, used_is, sc_any, sc_c, sc_pp, sc_ref, sc_row, sc_agg, sc_tup, sc_fn, ScL, some_imp, List.forall_mem_map, Nat.le_refl, go_sem, simprocAttr]) (by simp) fun hb hbL => ?_
    clear hb hbL
    refine walkGF (And.intro hxp (And.intro @ncells_mk (And.intro hw hk))) ?_
    refine walkC (hK) ?_
    refine walkBF (And.intro hxp (And.intro @ncells_mk (And.intro hw (And.intro hk (And.intro e1 @jcells_acc))))) ?_
    refine walkC (hI) ?_
    refine walkBF (And.intro h1.symm (And.intro h2.symm @jcells_acc)) ?_
    refine ⟨by first | exact .inr rfl | exact .inl rfl, ?_⟩; rw [Tryz.results77]; simp only [resOk, resV, go_sem, Int.reduceBEq, Int.reduceLE, Int.reduceLT, Int.reduceNeg, Nat.reduceAdd, Nat.reduceEqDiff, Nat.reduceLT, Nat.reduceLeDiff, Nat.reduceMul, Nat.reduceSub, reduceCtorEq, ↓reduceIte]
    exact ⟨frz_v _ _ _, .c _⟩
set_option maxRecDepth 100000 in
set_option maxHeartbeats 3200000 in
theorem say_7 (ns : List NT) (r : Int) (q : Nat) (n : NT) (hn : ns[q]? = some n) (j : JT) (c : Nat) (hc : c ≤ 1000) (dep : Int) (hk : n.kind = 7) (h : ¬ 1000 < c + 1) (ht : j.txt.length ≤ 1000000) :
    ToldM Tryz.prog 77 [.ref 1000000 1 0 0, .c (.v (.int .i64 (q : Int))), j.av, .c (.v (.int .i64 dep))] [xSB ns r c] [some (xSB ns r (c + 1))] (.tup [(textS n j).1.av, .c (.v (.bool (textS n j).2))]) := by
  have hql := (List.getElem?_eq_some_iff.1 hn).1
  have hxp : (ns.map NT.cells)[q]? = some n.cells := by rw [List.getElem?_map, hn]; rfl
  have hw : IntKind.i64.wrap ((c : Int) + 1) = ((c + 1 : Nat) : Int) := by rw [wrap64_id (by omega) (by omega)]; rfl
  have hK := compK_told 7
  rw [show compK 7 = false from rfl] at hK
  have e1 : decide (((c + 1 : Nat) : Int) > 1000) = false := by simp; omega
  generalize c + 1 = c1 at *
  have hT := text13_told n (by omega) j ht
  generalize (textS n j).1 = v at *
  generalize (textS n j).2 = b at *
  rw [JT.av_eq] at hT ⊢
  rw [VT.av_eq] at hT ⊢
  rw [NT.av_eq, ncells_mk, hk] at hT
  unfold xSB
  refine VC.toldM ent_77 [] Tryz.func77 rfl Tryz.ntmps77 (by simp) (by simp only [ScM, zOk, inL, eq_self, used_is, sc_any, sc_c, sc_pp, sc_ref, sc_row, sc_agg, sc_tup, sc_fn, ScL, some_imp, List.forall_mem_map, Nat.le_refl, go_sem, simprocAttr]) (by simp only [ScM, zOk, inL, eq_self, used_is, sc_any, sc_c, sc_pp, sc_ref, sc_row, sc_agg, sc_tup, sc_fn, ScL, some_imp, List.forall_mem_map, Nat.le_refl, go_sem, simprocAttr]) (by simp only [ScM, zOk, inL, eq_self, used_is, sc_any, sc_c, sc_pp, sc_ref, sc_row, sc_agg, sc_tup, sc_fn, ScL, some_imp, List.forall_mem_map, Nat.le_refl, go_sem, simprocAttr]) (by simp only [ScM, zOk, inL, eq_self, used_is, sc_any, sc_c, sc_pp, sc_ref, sc_row, sc_agg, sc_tup, sc_fn, ScL, some_imp, List.forall_mem_map, Nat.le_refl, go_sem, simprocAttr]) (by simp) fun hb hbL => ?_
  clear hb hbL
  refine walkGF (And.intro hxp (And.intro @ncells_mk (And.intro hw hk))) ?_
  refine walkC (hK) ?_
  refine walkBF (And.intro hxp (And.intro @ncells_mk (And.intro hw (And.intro hk (And.intro e1 (And.intro @len_cells (And.intro @take_cells @take_cellsC))))))) ?_
  refine walkCF (@pureL_c) (hT) ?_
  refine walkBF (And.intro @len_vcells (And.intro @take_vcells @take_vcellsC)) ?_
  refine ⟨by first | exact .inr rfl | exact .inl rfl, ?_⟩; rw [Tryz.results77]; simp only [len_vcells, take_vcellsC, resOk, resV, go_sem, Int.reduceBEq, Int.reduceLE, Int.reduceLT, Int.reduceNeg, Nat.reduceAdd, Nat.reduceEqDiff, Nat.reduceLT, Nat.reduceLeDiff, Nat.reduceMul, Nat.reduceSub, reduceCtorEq, ↓reduceIte]
  exact ⟨Frz.cs _ _, .c _⟩
set_option maxRecDepth 100000 in
set_option maxHeartbeats 3200000 in
theorem say_8 (ns : List NT) (r : Int) (q : Nat) (n : NT) (hn : ns[q]? = some n) (j : JT) (c : Nat) (hc : c ≤ 1000) (dep : Int) (hk : n.kind = 8) (h : ¬ 1000 < c + 1) (ht : j.txt.length ≤ 1000000) :
    ToldM Tryz.prog 77 [.ref 1000000 1 0 0, .c (.v (.int .i64 (q : Int))), j.av, .c (.v (.int .i64 dep))] [xSB ns r c] [some (xSB ns r (c + 1))] (.tup [(textS n j).1.av, .c (.v (.bool (textS n j).2))]) := by
  have hql := (List.getElem?_eq_some_iff.1 hn).1
  have hxp : (ns.map NT.cells)[q]? = some n.cells := by rw [List.getElem?_map, hn]; rfl
  have hw : IntKind.i64.wrap ((c : Int) + 1) = ((c + 1 : Nat) : Int) := by rw [wrap64_id (by omega) (by omega)]; rfl
  have hK := compK_told 8
  rw [show compK 8 = false from rfl] at hK
  have e1 : decide (((c + 1 : Nat) : Int) > 1000) = false := by simp; omega
  generalize c + 1 = c1 at *
  have hT := text13_told n (by omega) j ht
  generalize (textS n j).1 = v at *
  generalize (textS n j).2 = b at *
  rw [JT.av_eq] at hT ⊢
  rw [VT.av_eq] at hT ⊢
  rw [NT.av_eq, ncells_mk, hk] at hT
  unfold xSB
  refine VC.toldM ent_77 [] Tryz.func77 rfl Tryz.ntmps77 (by simp) (by simp only [ScM, zOk, inL, eq_self, used_is, sc_any, sc_c, sc_pp, sc_ref, sc_row, sc_agg, sc_tup, sc_fn, ScL, some_imp, List.forall_mem_map, Nat.le_refl, go_sem, simprocAttr]) (by simp only [ScM, zOk, inL, eq_self, used_is, sc_any, sc_c, sc_pp, sc_ref, sc_row, sc_agg, sc_tup, sc_fn, ScL, some_imp, List.forall_mem_map, Nat.le_refl, go_sem, simprocAttr]) (by simp only [ScM, zOk, inL, eq_self, used_is, sc_any, sc_c, sc_pp, sc_ref, sc_row, sc_agg, sc_tup, sc_fn, ScL, some_imp, List.forall_mem_map, Nat.le_refl, go_sem, simprocAttr]) (by simp only [ScM, zOk, inL, eq_self, used_is, sc_any, sc_c, sc_pp, sc_ref, sc_row, sc_agg, sc_tup, sc_fn, ScL, some_imp, List.forall_mem_map, Nat.le_refl, go_sem, simprocAttr]) (by simp) fun hb hbL => ?_
  clear hb hbL
  refine walkGF (And.intro hxp (And.intro @ncells_mk (And.intro hw hk))) ?_
  refine walkC (hK) ?_
  refine walkBF (And.intro hxp (And.intro @ncells_mk (And.intro hw (And.intro hk (And.intro e1 (And.intro @len_cells (And.intro @take_cells @take_cellsC))))))) ?_
  refine walkCF (@pureL_c) (hT) ?_
  refine walkBF (And.intro @len_vcells (And.intro @take_vcells @take_vcellsC)) ?_
  refine ⟨by first | exact .inr rfl | exact .inl rfl, ?_⟩; rw [Tryz.results77]; simp only [len_vcells, take_vcellsC, resOk, resV, go_sem, Int.reduceBEq, Int.reduceLE, Int.reduceLT, Int.reduceNeg, Nat.reduceAdd, Nat.reduceEqDiff, Nat.reduceLT, Nat.reduceLeDiff, Nat.reduceMul, Nat.reduceSub, reduceCtorEq, ↓reduceIte]
  exact ⟨Frz.cs _ _, .c _⟩
set_option maxRecDepth 100000 in
set_option maxHeartbeats 3200000 in
theorem say_14 (ns : List NT) (r : Int) (q : Nat) (n : NT) (hn : ns[q]? = some n) (j : JT) (c : Nat) (hc : c ≤ 1000) (dep : Int) (hk : n.kind = 14) (h : ¬ 1000 < c + 1) (ht : j.txt.length ≤ 1000000) :
    ToldM Tryz.prog 77 [.ref 1000000 1 0 0, .c (.v (.int .i64 (q : Int))), j.av, .c (.v (.int .i64 dep))] [xSB ns r c] [some (xSB ns r (c + 1))] (.tup [(textS n j).1.av, .c (.v (.bool (textS n j).2))]) := by
  have hql := (List.getElem?_eq_some_iff.1 hn).1
  have hxp : (ns.map NT.cells)[q]? = some n.cells := by rw [List.getElem?_map, hn]; rfl
  have hw : IntKind.i64.wrap ((c : Int) + 1) = ((c + 1 : Nat) : Int) := by rw [wrap64_id (by omega) (by omega)]; rfl
  have hK := compK_told 14
  rw [show compK 14 = false from rfl] at hK
  have e1 : decide (((c + 1 : Nat) : Int) > 1000) = false := by simp; omega
  generalize c + 1 = c1 at *
  have hT := text13_told n (by omega) j ht
  generalize (textS n j).1 = v at *
  generalize (textS n j).2 = b at *
  rw [JT.av_eq] at hT ⊢
  rw [VT.av_eq] at hT ⊢
  rw [NT.av_eq, ncells_mk, hk] at hT
  unfold xSB
  refine VC.toldM ent_77 [] Tryz.func77 rfl Tryz.ntmps77 (by simp) (by simp only [ScM, zOk, inL, eq_self, used_is, sc_any, sc_c, sc_pp, sc_ref, sc_row, sc_agg, sc_tup, sc_fn, ScL, some_imp, List.forall_mem_map, Nat.le_refl, go_sem, simprocAttr]) (by simp only [ScM, zOk, inL, eq_self, used_is, sc_any, sc_c, sc_pp, sc_ref, sc_row, sc_agg, sc_tup, sc_fn, ScL, some_imp, List.forall_mem_map, Nat.le_refl, go_sem, simprocAttr]) (by simp only [ScM, zOk, inL, eq_self, used_is, sc_any, sc_c, sc_pp, sc_ref, sc_row, sc_agg, sc_tup, sc_fn, ScL, some_imp, List.forall_mem_map, Nat.le_refl, go_sem, simprocAttr]) (by simp only [ScM, zOk, inL, eq_self, used_is, sc_any, sc_c, sc_pp, sc_ref, sc_row, sc_agg, sc_tup, sc_fn, ScL, some_imp, List.forall_mem_map, Nat.le_refl, go_sem, simprocAttr]) (by simp) fun hb hbL => ?_
  clear hb hbL
  refine walkGF (And.intro hxp (And.intro @ncells_mk (And.intro hw hk))) ?_
  refine walkC (hK) ?_
  refine walkBF (And.intro hxp (And.intro @ncells_mk (And.intro hw (And.intro hk (And.intro e1 (And.intro @len_cells (And.intro @take_cells @take_cellsC))))))) ?_
  refine walkCF (@pureL_c) (hT) ?_
  refine walkBF (And.intro @len_vcells (And.intro @take_vcells @take_vcellsC)) ?_
  refine ⟨by first | exact .inr rfl | exact .inl rfl, ?_⟩; rw [Tryz.results77]; simp only [len_vcells, take_vcellsC, resOk, resV, go_sem, Int.reduceBEq, Int.reduceLE, Int.reduceLT, Int.reduceNeg, Nat.reduceAdd, Nat.reduceEqDiff, Nat.reduceLT, Nat.reduceLeDiff, Nat.reduceMul, Nat.reduceSub, reduceCtorEq, ↓reduceIte]
  exact ⟨Frz.cs _ _, .c _⟩
set_option maxRecDepth 100000 in
set_option maxHeartbeats 3200000 in
theorem say_9 (ns : List NT) (r : Int) (q : Nat) (n : NT) (hn : ns[q]? = some n) (j : JT) (c : Nat) (hc : c ≤ 1000) (dep : Int) (hk : n.kind = 9) (h : ¬ 1000 < c + 1) (hd : dep < 20) (hd0 : 0 ≤ dep) (f : Say) (hT : SayT ns r f (dep + 1)) (hC : SayC f) (hj : JOk j) (hns : n.sm 1000000) (hkid : ∀ fd ∈ n.fields, 0 ≤ fd.type ∧ fd.type < (ns.length : Int)) (hdf : ∀ fd ∈ n.fields, fd.has = true → JOk fd.dflt) :
    ToldM Tryz.prog 77 [.ref 1000000 1 0 0, .c (.v (.int .i64 (q : Int))), j.av, .c (.v (.int .i64 dep))] [xSB ns r c] [some (xSB ns r (recF f j n.fields (c + 1)).2)] (.tup [(VT.mk 9 0 0 [] ((recF f j n.fields (c + 1)).1.getD []) []).av, .c (.v (.bool ((recF f j n.fields (c + 1)).1.isSome && j.kd == 6)))]) := by
  have hql := (List.getElem?_eq_some_iff.1 hn).1
  have hxp : (ns.map NT.cells)[q]? = some n.cells := by rw [List.getElem?_map, hn]; rfl
  have hw : IntKind.i64.wrap ((c : Int) + 1) = ((c + 1 : Nat) : Int) := by rw [wrap64_id (by omega) (by omega)]; rfl
  have hK := compK_told 9
  rw [show compK 9 = true from rfl] at hK
  have e1 : decide (((c + 1 : Nat) : Int) > 1000) = false := by simp; omega
  have hD : decide (dep ≥ 20) = false := by simp; omega
  have hw2 : IntKind.i64.wrap (dep + 1) = dep + 1 := wrap64_id (by omega) (by omega)
  have hc1 : c + 1 ≤ 1000 := by omega
  have hR := record13_told ns r f (dep + 1) hT hC n hns hkid hdf j hj (c + 1) hc1
  generalize (recF f j n.fields (c + 1)).1.getD [] = vs at *
  generalize ((recF f j n.fields (c + 1)).1.isSome && j.kd == 6) = b at *
  generalize (recF f j n.fields (c + 1)).2 = c2 at *
  generalize c + 1 = c1 at *
  rw [JT.av_eq] at hR ⊢
  rw [NT.av_eq, ncells_mk, hk] at hR
  rw [VT.av_eq]
  unfold xSB at hR
  unfold xSB
  refine VC.toldM ent_77 [] Tryz.func77 rfl Tryz.ntmps77 (by simp) (by simp only [ScM, zOk, inL, eq_self, used_is, sc_any, sc_c, sc_pp, sc_ref, sc_row, sc_agg, sc_tup, sc_fn, ScL, some_imp, List.forall_mem_map, Nat.le_refl, go_sem, simprocAttr]) (by simp only [ScM, zOk, inL, eq_self, used_is, sc_any, sc_c, sc_pp, sc_ref, sc_row, sc_agg, sc_tup, sc_fn, ScL, some_imp, List.forall_mem_map, Nat.le_refl, go_sem, simprocAttr]) (by simp only [ScM, zOk, inL, eq_self, used_is, sc_any, sc_c, sc_pp, sc_ref, sc_row, sc_agg, sc_tup, sc_fn, ScL, some_imp, List.forall_mem_map, Nat.le_refl, go_sem, simprocAttr]) (by simp only [ScM, zOk, inL, eq_self, used_is, sc_any, sc_c, sc_pp, sc_ref, sc_row, sc_agg, sc_tup, sc_fn, ScL, some_imp, List.forall_mem_map, Nat.le_refl, go_sem, simprocAttr]) (by simp) fun hb hbL => ?_
  clear hb hbL
  refine walkGF (And.intro hxp (And.intro @ncells_mk (And.intro hw hk))) ?_
  refine walkC (hK) ?_
  refine walkBF (And.intro hxp (And.intro @ncells_mk (And.intro hw (And.intro hk (And.intro hD (And.intro e1 (And.intro hw2 (And.intro @len_cells (And.intro @take_cells @take_cellsC))))))))) ?_
  ((refine AO.step fun K hK => ?_; simp only [go_sem, Int.reduceBEq, Int.reduceLE, Int.reduceLT, Int.reduceNeg, Nat.reduceAdd, Nat.reduceEqDiff, Nat.reduceLT, Nat.reduceLeDiff, Nat.reduceMul, Nat.reduceSub, reduceCtorEq, ↓reduceIte, hw2, ncells_mk, hk, len_cells, take_cells, take_cellsC]; (first | refine gsel_go ?_ | skip)); refine .inr (.inr (.inl ⟨?vy1, [1000000], ?va1, ?vl1, ?vm1, ?cond1, ?cont1⟩)); (case cond1 => ((repeat' apply And.intro) <;> (try ((with_reducible show ToldM _ _ _ _ _ _); exact hR))); (all_goals first | trivial | (simp only [hw2, ncells_mk, hk, len_cells, take_cells, take_cellsC, go_sem, simprocAttr]; done) | (simp; done) | rfl)); (first | refine hK _ _ _ ?_ | (simp only [hw2, ncells_mk, hk, len_cells, take_cells, take_cellsC, go_sem, simprocAttr]; first | refine hK _ _ _ ?_ | refine ⟨rfl, hK _ _ _ ?_⟩)); clear hK K)
  refine walkBF (And.intro @len_cells (And.intro @take_cells @take_cellsC)) ?_
  refine ⟨by first | exact .inr rfl | exact .inl rfl, ?_⟩; rw [Tryz.results77]; simp only [resOk, resV, go_sem, Int.reduceBEq, Int.reduceLE, Int.reduceLT, Int.reduceNeg, Nat.reduceAdd, Nat.reduceEqDiff, Nat.reduceLT, Nat.reduceLeDiff, Nat.reduceMul, Nat.reduceSub, reduceCtorEq, ↓reduceIte]
  exact ⟨frz_vi _ _, .c _⟩
set_option maxRecDepth 100000 in
set_option maxHeartbeats 3200000 in
theorem say_11 (ns : List NT) (r : Int) (q : Nat) (n : NT) (hn : ns[q]? = some n) (j : JT) (c : Nat) (hc : c ≤ 1000) (dep : Int) (hk : n.kind = 11) (h : ¬ 1000 < c + 1) (hd : dep < 20) (hd0 : 0 ≤ dep) (f : Say) (hT : SayT ns r f (dep + 1)) (hC : SayC f) (hj : JOk j) (hi0 : 0 ≤ n.items) (hi1 : n.items < (ns.length : Int)) :
    ToldM Tryz.prog 77 [.ref 1000000 1 0 0, .c (.v (.int .i64 (q : Int))), j.av, .c (.v (.int .i64 dep))] [xSB ns r c] [some (xSB ns r (itemsF f n.items j (c + 1)).2)] (.tup [(VT.mk 11 0 0 [] ((itemsF f n.items j (c + 1)).1.getD []) []).av, .c (.v (.bool ((itemsF f n.items j (c + 1)).1.isSome && j.kd == 5)))]) := by
  have hql := (List.getElem?_eq_some_iff.1 hn).1
  have hxp : (ns.map NT.cells)[q]? = some n.cells := by rw [List.getElem?_map, hn]; rfl
  have hw : IntKind.i64.wrap ((c : Int) + 1) = ((c + 1 : Nat) : Int) := by rw [wrap64_id (by omega) (by omega)]; rfl
  have hK := compK_told 11
  rw [show compK 11 = true from rfl] at hK
  have e1 : decide (((c + 1 : Nat) : Int) > 1000) = false := by simp; omega
  have hD : decide (dep ≥ 20) = false := by simp; omega
  have hw2 : IntKind.i64.wrap (dep + 1) = dep + 1 := wrap64_id (by omega) (by omega)
  have hc1 : c + 1 ≤ 1000 := by omega
  have hR := items13_told ns r f (dep + 1) hT hC n hi0 hi1 j hj (c + 1) hc1
  generalize (itemsF f n.items j (c + 1)).1.getD [] = vs at *
  generalize (itemsF f n.items j (c + 1)).1.isSome = b at *
  generalize (itemsF f n.items j (c + 1)).2 = c2 at *
  generalize c + 1 = c1 at *
  obtain ⟨b2, h2⟩ : ∃ b : Bool, b = (j.kd == 5) := ⟨_, rfl⟩
  rw [← h2]
  rw [JT.av_eq] at hR ⊢
  rw [NT.av_eq, ncells_mk, hk] at hR
  rw [VT.av_eq]
  unfold xSB at hR
  cases b with
  | false =>
    unfold xSB
    refine VC.toldM ent_77 [] Tryz.func77 rfl Tryz.ntmps77 (by simp) (by simp only [ScM, zOk, inL, eq_self, used_is, sc_any, sc_c, sc_pp, sc_ref, sc_row, sc_agg, sc_tup, sc_fn, ScL, some_imp, List.forall_mem_map, Nat.le_refl, go_sem, simprocAttr]) (by simp only [ScM, zOk, inL, eq_self, used_is, sc_any, sc_c, sc_pp, sc_ref, sc_row, sc_agg, sc_tup, sc_fn, ScL, some_imp, List.forall_mem_map, Nat.le_refl, go_sem, simprocAttr]) (by simp only [ScM, zOk, inL, eq_self, used_is, sc_any, sc_c, sc_pp, sc_ref, sc_row, sc_agg, sc_tup, sc_fn, ScL, some_imp, List.forall_mem_map, Nat.le_refl, go_sem, simprocAttr]) (by simp only [ScM, zOk, inL, eq_self, used_is, sc_any, sc_c, sc_pp, sc_ref, sc_row, sc_agg, sc_tup, sc_fn, ScL, some_imp, List.forall_mem_map, Nat.le_refl, go_sem, simprocAttr]) (by simp) fun hb hbL => ?_
    clear hb hbL
    refine walkGF (And.intro hxp (And.intro @ncells_mk (And.intro hw hk))) ?_
    refine walkC (hK) ?_
    refine walkBF (And.intro hxp (And.intro @ncells_mk (And.intro hw (And.intro hk (And.intro hD (And.intro e1 (And.intro hw2 (And.intro @len_cells (And.intro @take_cells @take_cellsC))))))))) ?_
    ((refine AO.step fun K hK => ?_; simp only [go_sem, Int.reduceBEq, Int.reduceLE, Int.reduceLT, Int.reduceNeg, Nat.reduceAdd, Nat.reduceEqDiff, Nat.reduceLT, Nat.reduceLeDiff, Nat.reduceMul, Nat.reduceSub, reduceCtorEq, ↓reduceIte, hw2, ncells_mk, hk, len_cells, take_cells, take_cellsC]; (first | refine gsel_go ?_ | skip)); refine .inr (.inr (.inl ⟨?vy2, [1000000], ?va2, ?vl2, ?vm2, ?cond2, ?cont2⟩)); (case cond2 => ((repeat' apply And.intro) <;> (try ((with_reducible show ToldM _ _ _ _ _ _); exact hR))); (all_goals first | trivial | (simp only [hw2, ncells_mk, hk, len_cells, take_cells, take_cellsC, go_sem, simprocAttr]; done) | (simp; done) | rfl)); (first | refine hK _ _ _ ?_ | (simp only [hw2, ncells_mk, hk, len_cells, take_cells, take_cellsC, go_sem, simprocAttr]; first | refine hK _ _ _ ?_ | refine ⟨rfl, hK _ _ _ ?_⟩)); clear hK K)
    refine walkBF (And.intro @jcells_acc h2.symm) ?_
    refine ⟨by first | exact .inr rfl | exact .inl rfl, ?_⟩; rw [Tryz.results77]; simp only [resOk, resV, go_sem, Int.reduceBEq, Int.reduceLE, Int.reduceLT, Int.reduceNeg, Nat.reduceAdd, Nat.reduceEqDiff, Nat.reduceLT, Nat.reduceLeDiff, Nat.reduceMul, Nat.reduceSub, reduceCtorEq, ↓reduceIte]
    exact ⟨frz_vi _ _, .c _⟩
  | true =>
    unfold xSB
    refine VC.toldM ent_77 [] Tryz.func77 rfl Tryz.ntmps77 (by simp) (by simp only [ScM, zOk, inL, eq_self, used_is, sc_any, sc_c, sc_pp, sc_ref, sc_row, sc_agg, sc_tup, sc_fn, ScL, some_imp, List.forall_mem_map, Nat.le_refl, go_sem, simprocAttr]) (by simp only [ScM, zOk, inL, eq_self, used_is, sc_any, sc_c, sc_pp, sc_ref, sc_row, sc_agg, sc_tup, sc_fn, ScL, some_imp, List.forall_mem_map, Nat.le_refl, go_sem, simprocAttr]) (by simp only [ScM, zOk, inL, eq_self, used_is, sc_any, sc_c, sc_pp, sc_ref, sc_row, sc_agg, sc_tup, sc_fn, ScL, some_imp, List.forall_mem_map, Nat.le_refl, go_sem, simprocAttr]) (by simp only [ScM, zOk, inL, eq_self, used_is, sc_any, sc_c, sc_pp, sc_ref, sc_row, sc_agg, sc_tup, sc_fn, ScL, some_imp, List.forall_mem_map, Nat.le_refl, go_sem, simprocAttr]) (by simp) fun hb hbL => ?_
    clear hb hbL
    refine walkGF (And.intro hxp (And.intro @ncells_mk (And.intro hw hk))) ?_
    refine walkC (hK) ?_
    refine walkBF (And.intro hxp (And.intro @ncells_mk (And.intro hw (And.intro hk (And.intro hD (And.intro e1 (And.intro hw2 (And.intro @len_cells (And.intro @take_cells @take_cellsC))))))))) ?_
    ((refine AO.step fun K hK => ?_; simp only [go_sem, Int.reduceBEq, Int.reduceLE, Int.reduceLT, Int.reduceNeg, Nat.reduceAdd, Nat.reduceEqDiff, Nat.reduceLT, Nat.reduceLeDiff, Nat.reduceMul, Nat.reduceSub, reduceCtorEq, ↓reduceIte, hw2, ncells_mk, hk, len_cells, take_cells, take_cellsC]; (first | refine gsel_go ?_ | skip)); refine .inr (.inr (.inl ⟨?vy3, [1000000], ?va3, ?vl3, ?vm3, ?cond3, ?cont3⟩)); (case cond3 => ((repeat' apply And.intro) <;> (try ((with_reducible show ToldM _ _ _ _ _ _); exact hR))); (all_goals first | trivial | (simp only [hw2, ncells_mk, hk, len_cells, take_cells, take_cellsC, go_sem, simprocAttr]; done) | (simp; done) | rfl)); (first | refine hK _ _ _ ?_ | (simp only [hw2, ncells_mk, hk, len_cells, take_cells, take_cellsC, go_sem, simprocAttr]; first | refine hK _ _ _ ?_ | refine ⟨rfl, hK _ _ _ ?_⟩)); clear hK K)
    refine walkBF (And.intro @jcells_acc h2.symm) ?_
    refine ⟨by first | exact .inr rfl | exact .inl rfl, ?_⟩; rw [Tryz.results77]; simp only [resOk, resV, go_sem, Int.reduceBEq, Int.reduceLE, Int.reduceLT, Int.reduceNeg, Nat.reduceAdd, Nat.reduceEqDiff, Nat.reduceLT, Nat.reduceLeDiff, Nat.reduceMul, Nat.reduceSub, reduceCtorEq, ↓reduceIte]
    exact ⟨frz_vi _ _, .c _⟩
set_option maxRecDepth 100000 in
set_option maxHeartbeats 3200000 in
theorem say_12 (ns : List NT) (r : Int) (q : Nat) (n : NT) (hn : ns[q]? = some n) (j : JT) (c : Nat) (hc : c ≤ 1000) (dep : Int) (hk : n.kind = 12) (h : ¬ 1000 < c + 1) (hd : dep < 20) (hd0 : 0 ≤ dep) (f : Say) (hT : SayT ns r f (dep + 1)) (hC : SayC f) (hj : JOk j) (hi0 : 0 ≤ n.items) (hi1 : n.items < (ns.length : Int)) :
    ToldM Tryz.prog 77 [.ref 1000000 1 0 0, .c (.v (.int .i64 (q : Int))), j.av, .c (.v (.int .i64 dep))] [xSB ns r c] [some (xSB ns r (itemsF f n.items j (c + 1)).2)] (.tup [(VT.mk 12 0 0 [] ((itemsF f n.items j (c + 1)).1.getD []) j.keys).av, .c (.v (.bool ((itemsF f n.items j (c + 1)).1.isSome && j.kd == 6)))]) := by
  have hql := (List.getElem?_eq_some_iff.1 hn).1
  have hxp : (ns.map NT.cells)[q]? = some n.cells := by rw [List.getElem?_map, hn]; rfl
  have hw : IntKind.i64.wrap ((c : Int) + 1) = ((c + 1 : Nat) : Int) := by rw [wrap64_id (by omega) (by omega)]; rfl
  have hK := compK_told 12
  rw [show compK 12 = true from rfl] at hK
  have e1 : decide (((c + 1 : Nat) : Int) > 1000) = false := by simp; omega
  have hD : decide (dep ≥ 20) = false := by simp; omega
  have hw2 : IntKind.i64.wrap (dep + 1) = dep + 1 := wrap64_id (by omega) (by omega)
  have hc1 : c + 1 ≤ 1000 := by omega
  have hR := items13_told ns r f (dep + 1) hT hC n hi0 hi1 j hj (c + 1) hc1
  have hks : j.keys.length ≤ 1000000 := by
    cases j with
    | mk k m s ks xs =>
      have h3 := hj.2.2
      simp only [JT.sm] at h3
      exact h3.2.1
  have hCl := cloneS_told j.keys hks
  generalize (itemsF f n.items j (c + 1)).1.getD [] = vs at *
  generalize (itemsF f n.items j (c + 1)).1.isSome = b at *
  generalize (itemsF f n.items j (c + 1)).2 = c2 at *
  generalize c + 1 = c1 at *
  obtain ⟨b2, h2⟩ : ∃ b : Bool, b = (j.kd == 6) := ⟨_, rfl⟩
  rw [← h2]
  rw [JT.av_eq] at hR ⊢
  rw [NT.av_eq, ncells_mk, hk] at hR
  rw [VT.av_eq]
  unfold xSB at hR
  cases b with
  | false =>
    unfold xSB
    refine VC.toldM ent_77 [] Tryz.func77 rfl Tryz.ntmps77 (by simp) (by simp only [ScM, zOk, inL, eq_self, used_is, sc_any, sc_c, sc_pp, sc_ref, sc_row, sc_agg, sc_tup, sc_fn, ScL, some_imp, List.forall_mem_map, Nat.le_refl, go_sem, simprocAttr]) (by simp only [ScM, zOk, inL, eq_self, used_is, sc_any, sc_c, sc_pp, sc_ref, sc_row, sc_agg, sc_tup, sc_fn, ScL, some_imp, List.forall_mem_map, Nat.le_refl, go_sem, simprocAttr]) (by simp only [ScM, zOk, inL, eq_self, used_is, sc_any, sc_c, sc_pp, sc_ref, sc_row, sc_agg, sc_tup, sc_fn, ScL, some_imp, List.forall_mem_map, Nat.le_refl, go_sem, simprocAttr]) (by simp only [ScM, zOk, inL, eq_self, used_is, sc_any, sc_c, sc_pp, sc_ref, sc_row, sc_agg, sc_tup, sc_fn, ScL, some_imp, List.forall_mem_map, Nat.le_refl, go_sem, simprocAttr]) (by simp) fun hb hbL => ?_
    clear hb hbL
    refine walkGF (And.intro hxp (And.intro @ncells_mk (And.intro hw hk))) ?_
    refine walkC (hK) ?_
    refine walkBF (And.intro hxp (And.intro @ncells_mk (And.intro hw (And.intro hk (And.intro hD (And.intro e1 @jcells_acc)))))) ?_
    refine walkC (hCl) ?_
    refine walkBF (And.intro hw2 (And.intro @ncells_mk (And.intro hk (And.intro @len_cells (And.intro @take_cells @take_cellsC))))) ?_
    ((refine AO.step fun K hK => ?_; simp only [go_sem, Int.reduceBEq, Int.reduceLE, Int.reduceLT, Int.reduceNeg, Nat.reduceAdd, Nat.reduceEqDiff, Nat.reduceLT, Nat.reduceLeDiff, Nat.reduceMul, Nat.reduceSub, reduceCtorEq, ↓reduceIte, hw2, ncells_mk, hk, len_cells, take_cells, take_cellsC]; (first | refine gsel_go ?_ | skip)); refine .inr (.inr (.inl ⟨?vy4, [1000000], ?va4, ?vl4, ?vm4, ?cond4, ?cont4⟩)); (case cond4 => ((repeat' apply And.intro) <;> (try ((with_reducible show ToldM _ _ _ _ _ _); exact hR))); (all_goals first | trivial | (simp only [hw2, ncells_mk, hk, len_cells, take_cells, take_cellsC, go_sem, simprocAttr]; done) | (simp; done) | rfl)); (first | refine hK _ _ _ ?_ | (simp only [hw2, ncells_mk, hk, len_cells, take_cells, take_cellsC, go_sem, simprocAttr]; first | refine hK _ _ _ ?_ | refine ⟨rfl, hK _ _ _ ?_⟩)); clear hK K)
    refine walkBF (And.intro @jcells_acc h2.symm) ?_
    refine ⟨by first | exact .inr rfl | exact .inl rfl, ?_⟩; rw [Tryz.results77]; simp only [resOk, resV, go_sem, Int.reduceBEq, Int.reduceLE, Int.reduceLT, Int.reduceNeg, Nat.reduceAdd, Nat.reduceEqDiff, Nat.reduceLT, Nat.reduceLeDiff, Nat.reduceMul, Nat.reduceSub, reduceCtorEq, ↓reduceIte]
    exact ⟨frz_vk _ _ _, .c _⟩
  | true =>
    unfold xSB
    refine VC.toldM ent_77 [] Tryz.func77 rfl Tryz.ntmps77 (by simp) (by simp only [ScM, zOk, inL, eq_self, used_is, sc_any, sc_c, sc_pp, sc_ref, sc_row, sc_agg, sc_tup, sc_fn, ScL, some_imp, List.forall_mem_map, Nat.le_refl, go_sem, simprocAttr]) (by simp only [ScM, zOk, inL, eq_self, used_is, sc_any, sc_c, sc_pp, sc_ref, sc_row, sc_agg, sc_tup, sc_fn, ScL, some_imp, List.forall_mem_map, Nat.le_refl, go_sem, simprocAttr]) (by simp only [ScM, zOk, inL, eq_self, used_is, sc_any, sc_c, sc_pp, sc_ref, sc_row, sc_agg, sc_tup, sc_fn, ScL, some_imp, List.forall_mem_map, Nat.le_refl, go_sem, simprocAttr]) (by simp only [ScM, zOk, inL, eq_self, used_is, sc_any, sc_c, sc_pp, sc_ref, sc_row, sc_agg, sc_tup, sc_fn, ScL, some_imp, List.forall_mem_map, Nat.le_refl, go_sem, simprocAttr]) (by simp) fun hb hbL => ?_
    clear hb hbL
    refine walkGF (And.intro hxp (And.intro @ncells_mk (And.intro hw hk))) ?_
    refine walkC (hK) ?_
    refine walkBF (And.intro hxp (And.intro @ncells_mk (And.intro hw (And.intro hk (And.intro hD (And.intro e1 @jcells_acc)))))) ?_
    refine walkC (hCl) ?_
    refine walkBF (And.intro hw2 (And.intro @ncells_mk (And.intro hk (And.intro @len_cells (And.intro @take_cells @take_cellsC))))) ?_
    ((refine AO.step fun K hK => ?_; simp only [go_sem, Int.reduceBEq, Int.reduceLE, Int.reduceLT, Int.reduceNeg, Nat.reduceAdd, Nat.reduceEqDiff, Nat.reduceLT, Nat.reduceLeDiff, Nat.reduceMul, Nat.reduceSub, reduceCtorEq, ↓reduceIte, hw2, ncells_mk, hk, len_cells, take_cells, take_cellsC]; (first | refine gsel_go ?_ | skip)); refine .inr (.inr (.inl ⟨?vy5, [1000000], ?va5, ?vl5, ?vm5, ?cond5, ?cont5⟩)); (case cond5 => ((repeat' apply And.intro) <;> (try ((with_reducible show ToldM _ _ _ _ _ _); exact hR))); (all_goals first | trivial | (simp only [hw2, ncells_mk, hk, len_cells, take_cells, take_cellsC, go_sem, simprocAttr]; done) | (simp; done) | rfl)); (first | refine hK _ _ _ ?_ | (simp only [hw2, ncells_mk, hk, len_cells, take_cells, take_cellsC, go_sem, simprocAttr]; first | refine hK _ _ _ ?_ | refine ⟨rfl, hK _ _ _ ?_⟩)); clear hK K)
    refine walkBF (And.intro @jcells_acc h2.symm) ?_
    refine ⟨by first | exact .inr rfl | exact .inl rfl, ?_⟩; rw [Tryz.results77]; simp only [resOk, resV, go_sem, Int.reduceBEq, Int.reduceLE, Int.reduceLT, Int.reduceNeg, Nat.reduceAdd, Nat.reduceEqDiff, Nat.reduceLT, Nat.reduceLeDiff, Nat.reduceMul, Nat.reduceSub, reduceCtorEq, ↓reduceIte]
    exact ⟨frz_vk _ _ _, .c _⟩
set_option maxRecDepth 100000 in
set_option maxHeartbeats 3200000 in
theorem say_13 (ns : List NT) (r : Int) (q : Nat) (n : NT) (hn : ns[q]? = some n) (j : JT) (c : Nat) (hc : c ≤ 1000) (dep : Int) (hk : n.kind = 13) (h : ¬ 1000 < c + 1) (hd : dep < 20) (hd0 : 0 ≤ dep) (f : Say) (hT : SayT ns r f (dep + 1)) (hC : SayC f) (hj : JOk j) (b : Int) (hb0 : n.branches[0]? = some b) (hi0 : 0 ≤ b) (hi1 : b < (ns.length : Int)) :
    ToldM Tryz.prog 77 [.ref 1000000 1 0 0, .c (.v (.int .i64 (q : Int))), j.av, .c (.v (.int .i64 dep))] [xSB ns r c] [some (xSB ns r (f b j (c + 1)).2.2)] (.tup [(VT.mk 13 0 0 [] [(f b j (c + 1)).1] []).av, .c (.v (.bool (f b j (c + 1)).2.1))]) := by
  have hql := (List.getElem?_eq_some_iff.1 hn).1
  have hxp : (ns.map NT.cells)[q]? = some n.cells := by rw [List.getElem?_map, hn]; rfl
  have hw : IntKind.i64.wrap ((c : Int) + 1) = ((c + 1 : Nat) : Int) := by rw [wrap64_id (by omega) (by omega)]; rfl
  have hK := compK_told 13
  rw [show compK 13 = true from rfl] at hK
  have e1 : decide (((c + 1 : Nat) : Int) > 1000) = false := by simp; omega
  have hD : decide (dep ≥ 20) = false := by simp; omega
  have hw2 : IntKind.i64.wrap (dep + 1) = dep + 1 := wrap64_id (by omega) (by omega)
  have hc1 : c + 1 ≤ 1000 := by omega
  have hS := hT b j (c + 1) hi0 hi1 hj hc1
  have hbp : (n.branches.map iPV)[0]? = some (iPV b) := by rw [List.getElem?_map, hb0]; rfl
  have hbl : 0 < n.branches.length := (List.getElem?_eq_some_iff.1 hb0).1
  generalize (f b j (c + 1)).2.2 = c2 at *
  generalize (f b j (c + 1)).2.1 = ok at *
  generalize (f b j (c + 1)).1 = v at *
  generalize c + 1 = c1 at *
  rw [JT.av_eq] at hS ⊢
  rw [VT.av_eq] at hS ⊢
  unfold xSB at hS
  unfold xSB
  refine VC.toldM ent_77 [] Tryz.func77 rfl Tryz.ntmps77 (by simp) (by simp only [ScM, zOk, inL, eq_self, used_is, sc_any, sc_c, sc_pp, sc_ref, sc_row, sc_agg, sc_tup, sc_fn, ScL, some_imp, List.forall_mem_map, Nat.le_refl, go_sem, simprocAttr]) (by simp only [ScM, zOk, inL, eq_self, used_is, sc_any, sc_c, sc_pp, sc_ref, sc_row, sc_agg, sc_tup, sc_fn, ScL, some_imp, List.forall_mem_map, Nat.le_refl, go_sem, simprocAttr]) (by simp only [ScM, zOk, inL, eq_self, used_is, sc_any, sc_c, sc_pp, sc_ref, sc_row, sc_agg, sc_tup, sc_fn, ScL, some_imp, List.forall_mem_map, Nat.le_refl, go_sem, simprocAttr]) (by simp only [ScM, zOk, inL, eq_self, used_is, sc_any, sc_c, sc_pp, sc_ref, sc_row, sc_agg, sc_tup, sc_fn, ScL, some_imp, List.forall_mem_map, Nat.le_refl, go_sem, simprocAttr]) (by simp) fun hb hbL => ?_
  clear hb hbL
  refine walkGF (And.intro hxp (And.intro @ncells_mk (And.intro hw hk))) ?_
  refine walkC (hK) ?_
  refine walkBF (And.intro hxp (And.intro @ncells_mk (And.intro hw (And.intro hk (And.intro hD (And.intro e1 (And.intro hw2 (And.intro hbp (And.intro @iPV_eq (And.intro @len_cells (And.intro @take_cells @take_cellsC))))))))))) ?_
  ((refine AO.step fun K hK => ?_; simp only [go_sem, Int.reduceBEq, Int.reduceLE, Int.reduceLT, Int.reduceNeg, Nat.reduceAdd, Nat.reduceEqDiff, Nat.reduceLT, Nat.reduceLeDiff, Nat.reduceMul, Nat.reduceSub, reduceCtorEq, ↓reduceIte, hw2, len_cells, take_cells, take_cellsC]; (first | refine gsel_go ?_ | skip)); refine .inr (.inr (.inl ⟨?vy6, [1000000], ?va6, ?vl6, ?vm6, ?cond6, ?cont6⟩)); (case cond6 => ((repeat' apply And.intro) <;> (try ((with_reducible show ToldM _ _ _ _ _ _); exact hS))); (all_goals first | trivial | (simp only [hw2, len_cells, take_cells, take_cellsC, go_sem, simprocAttr]; done) | (simp; done) | rfl)); (first | refine hK _ _ _ ?_ | (simp only [hw2, len_cells, take_cells, take_cellsC, go_sem, simprocAttr]; first | refine hK _ _ _ ?_ | refine ⟨rfl, hK _ _ _ ?_⟩)); clear hK K)
  refine walkBF (And.intro @len_vcells (And.intro @take_vcells @take_vcellsC)) ?_
  refine ⟨by first | exact .inr rfl | exact .inl rfl, ?_⟩; rw [Tryz.results77]; simp only [rA_len, resOk, resV, go_sem, Int.reduceBEq, Int.reduceLE, Int.reduceLT, Int.reduceNeg, Nat.reduceAdd, Nat.reduceEqDiff, Nat.reduceLT, Nat.reduceLeDiff, Nat.reduceMul, Nat.reduceSub, reduceCtorEq, ↓reduceIte]
  refine ⟨?_, .c _⟩
  rw [vcells_mk]
  exact Frz.aggL (.cons (.c _) (.cons (.c _) (.cons (.c _) (.cons (.nil 1) (.cons (frz_rA (f := VT.cells) (l := [v]) (T := 43) rfl rfl rfl fun x _ => len_vcells x) (.cons (.nil 1) .nil))))))
end

def SayOk (ns : List NT) : Prop := ns.length ≤ 1000000 ∧ ∀ n ∈ ns, n.sm 1000000 ∧ (1 ≤ n.kind ∧ n.kind ≤ 14) ∧ (∀ k ∈ kidsN n, 0 ≤ k ∧ k < (ns.length : Int)) ∧ (n.kind = 9 → ∀ fd ∈ n.fields, fd.has = true → JOk fd.dflt) ∧ (n.kind = 13 → ∃ b, n.branches[0]? = some b)
theorem sayM_cnt (ns : List NT) : ∀ d, SayC (sayM ns d) := by
  have hcomp : ∀ (f : Say), SayC f → ∀ (n : NT) (j : JT) (c : Nat), c ≤ 1000 → (compS f n j c).2.1 = true → (compS f n j c).2.2 ≤ 1000 := by
    intro f hf n j c hc h
    have hrec : ∀ (fs : List FT) (c : Nat), c ≤ 1000 → (recF f j fs c).1.isSome = true → (recF f j fs c).2 ≤ 1000 := by
      intro fs
      induction fs with
      | nil => intro c hc _; exact hc
      | cons x xs ih =>
        intro c hc hs
        rw [recF] at hs ⊢
        cases hx : fieldJ j x with
        | none => rw [hx] at hs; simp at hs
        | some i =>
          rw [hx] at hs
          simp only [] at hs ⊢
          by_cases hok : (f x.type i c).2.1 = true
          · rw [if_pos hok] at hs ⊢
            exact ih _ (hf _ _ _ hok) (by simpa using hs)
          · rw [if_neg hok] at hs
            simp at hs
    have hits : ∀ (a : Int) (js : List JT) (c : Nat), c ≤ 1000 → (itsF f a js c).1.isSome = true → (itsF f a js c).2 ≤ 1000 := by
      intro a js
      induction js with
      | nil => intro c hc _; exact hc
      | cons x xs ih =>
        intro c hc hs
        rw [itsF] at hs ⊢
        by_cases hok : (f a x c).2.1 = true
        · rw [if_pos hok] at hs ⊢
          exact ih _ (hf _ _ _ hok) (by simpa using hs)
        · rw [if_neg hok] at hs
          simp at hs
    have hitm : ∀ (a : Int) (c : Nat), c ≤ 1000 → (itemsF f a j c).1.isSome = true → (itemsF f a j c).2 ≤ 1000 := by
      intro a c hc hs
      unfold itemsF at hs ⊢
      split
      · exact hc
      · rename_i hn
        rw [if_neg hn] at hs
        exact hits a j.its c hc hs
    unfold compS at h ⊢
    by_cases h9 : n.kind = 9
    · rw [if_pos h9] at h ⊢
      simp only [Bool.and_eq_true] at h
      exact hrec _ _ hc h.1
    rw [if_neg h9] at h ⊢
    by_cases h11 : n.kind = 11
    · rw [if_pos h11] at h ⊢
      simp only [Bool.and_eq_true] at h
      exact hitm _ _ hc h.1
    rw [if_neg h11] at h ⊢
    by_cases h12 : n.kind = 12
    · rw [if_pos h12] at h ⊢
      simp only [Bool.and_eq_true] at h
      exact hitm _ _ hc h.1
    rw [if_neg h12] at h ⊢
    cases hb : n.branches[0]? with
    | none => rw [hb] at h; simp at h
    | some b =>
      rw [hb] at h
      exact hf _ _ _ h
  intro d
  induction d with
  | zero =>
    intro a j c h
    rw [sayM] at h ⊢
    simp only [] at h ⊢
    cases hn : ns[a.toNat]? with
    | none => rw [hn] at h; simp at h
    | some n =>
      rw [hn] at h
      simp only [] at h ⊢
      split at h
      · simp at h
      · rename_i hc
        rw [if_neg hc]
        simp only []
        omega
  | succ d ih =>
    intro a j c h
    rw [sayM] at h ⊢
    simp only [] at h ⊢
    cases hn : ns[a.toNat]? with
    | none => rw [hn] at h; simp at h
    | some n =>
      rw [hn] at h
      simp only [] at h ⊢
      split at h
      · simp at h
      · rename_i hc
        rw [if_neg hc]
        split at h
        · rename_i hk
          rw [if_pos hk]
          exact hcomp _ ih n j (c + 1) (by omega) h
        · rename_i hk
          rw [if_neg hk]
          simp only []
          omega
theorem say_leaf (ns : List NT) (r : Int) (q : Nat) (n : NT) (hn : ns[q]? = some n) (hk1 : 1 ≤ n.kind) (hk2 : n.kind ≤ 14) (hcm : ¬ compK n.kind = true) (j : JT) (hj : JOk j) (c : Nat) (hc : c ≤ 1000) (dep : Int) (h : ¬ 1000 < c + 1) :
    ToldM Tryz.prog 77 [.ref 1000000 1 0 0, .c (.v (.int .i64 (q : Int))), j.av, .c (.v (.int .i64 dep))] [xSB ns r c] [some (xSB ns r (c + 1))] (.tup [(leafS n j).1.av, .c (.v (.bool (leafS n j).2))]) := by
  have ht : j.txt.length ≤ 1000000 := by
    cases j with
    | mk k m s ks xs =>
      have h3 := hj.2.2
      simp only [JT.sm] at h3
      exact h3.1
  unfold compK at hcm
  simp only [Bool.or_eq_true, beq_iff_eq, not_or] at hcm
  unfold leafS
  by_cases g1 : n.kind = 1
  · rw [if_pos g1]; exact say_1 ns r q n hn j c hc dep g1 h
  rw [if_neg g1]
  by_cases g2 : n.kind = 2
  · rw [if_pos g2]; exact say_2 ns r q n hn j c hc dep g2 h
  rw [if_neg g2]
  by_cases g3 : n.kind = 3 ∨ n.kind = 4 ∨ n.kind = 5 ∨ n.kind = 6
  · rw [if_pos g3]
    rcases g3 with g | g | g | g
    · rw [g]; exact say_3 ns r q n hn j c hc dep g h hj
    · rw [g]; exact say_4 ns r q n hn j c hc dep g h hj
    · rw [g]; exact say_5 ns r q n hn j c hc dep g h hj
    · rw [g]; exact say_6 ns r q n hn j c hc dep g h hj
  rw [if_neg g3]
  by_cases g10 : n.kind = 10
  · rw [if_pos g10]; exact say_10 ns r q n hn j c hc dep g10 h
  rw [if_neg g10]
  have : n.kind = 7 ∨ n.kind = 8 ∨ n.kind = 14 := by omega
  rcases this with g | g | g
  · exact say_7 ns r q n hn j c hc dep g h ht
  · exact say_8 ns r q n hn j c hc dep g h ht
  · exact say_14 ns r q n hn j c hc dep g h ht
theorem say13_told (ns : List NT) (r : Int) (hok : SayOk ns) : ∀ d : Nat, d ≤ 20 → SayT ns r (sayM ns d) (20 - (d : Int)) := by
  intro d
  induction d with
  | zero =>
    intro _ a j c ha0 ha1 hj hc
    obtain ⟨q, rfl⟩ : ∃ q : Nat, a = (q : Int) := ⟨a.toNat, by omega⟩
    have hql : q < ns.length := by omega
    obtain ⟨n, hn⟩ : ∃ n, ns[q]? = some n := ⟨ns[q], List.getElem?_eq_getElem hql⟩
    obtain ⟨_, ⟨k1, k2⟩, _⟩ := hok.2 n (List.mem_of_getElem? hn)
    rw [sayM]
    simp only [Int.toNat_natCast, hn]
    by_cases h : compK n.kind = true ∨ 1000 < c + 1
    · rw [if_pos h]
      by_cases hm : 1000 < c + 1
      · exact say_much ns r q n hn j c hc _ hm
      · exact say_deep ns r q n hn j c hc _ (h.resolve_right hm) (by omega)
    · rw [if_neg h]
      exact say_leaf ns r q n hn k1 k2 (fun e => h (.inl e)) j hj c hc _ fun e => h (.inr e)
  | succ d ih =>
    intro hd a j c ha0 ha1 hj hc
    obtain ⟨q, rfl⟩ : ∃ q : Nat, a = (q : Int) := ⟨a.toNat, by omega⟩
    have hql : q < ns.length := by omega
    obtain ⟨n, hn⟩ : ∃ n, ns[q]? = some n := ⟨ns[q], List.getElem?_eq_getElem hql⟩
    obtain ⟨hsm, ⟨k1, k2⟩, hkids, hdf, hbr⟩ := hok.2 n (List.mem_of_getElem? hn)
    have ihT : SayT ns r (sayM ns d) ((20 - ((d + 1 : Nat) : Int)) + 1) := by
      have := ih (by omega)
      rw [show (20 - ((d + 1 : Nat) : Int)) + 1 = 20 - (d : Int) by omega]
      exact this
    have hcnt := sayM_cnt ns d
    rw [sayM]
    simp only [Int.toNat_natCast, hn]
    by_cases hm : 1000 < c + 1
    · rw [if_pos hm]
      exact say_much ns r q n hn j c hc _ hm
    rw [if_neg hm]
    by_cases hcm : compK n.kind = true
    rotate_left
    · rw [if_neg hcm]
      exact say_leaf ns r q n hn k1 k2 hcm j hj c hc _ hm
    rw [if_pos hcm]
    have hcat : n.kind = 9 ∨ n.kind = 11 ∨ n.kind = 12 ∨ n.kind = 13 := by
      unfold compK at hcm
      simp only [Bool.or_eq_true, beq_iff_eq] at hcm
      omega
    have hd20 : 20 - ((d + 1 : Nat) : Int) < 20 := by omega
    have hd0 : 0 ≤ 20 - ((d + 1 : Nat) : Int) := by omega
    unfold compS
    by_cases h9 : n.kind = 9
    · rw [if_pos h9]
      refine say_9 ns r q n hn j c hc _ h9 hm hd20 hd0 _ ihT hcnt hj hsm (fun fd hfd => hkids fd.type ?_) (hdf h9)
      unfold kidsN
      rw [if_pos h9]
      exact List.mem_map.2 ⟨fd, hfd, rfl⟩
    rw [if_neg h9]
    have hit : n.kind = 11 ∨ n.kind = 12 → 0 ≤ n.items ∧ n.items < (ns.length : Int) := fun e => hkids n.items (by
      unfold kidsN
      rw [if_neg h9, if_pos e]
      simp)
    by_cases h11 : n.kind = 11
    · rw [if_pos h11]
      exact say_11 ns r q n hn j c hc _ h11 hm hd20 hd0 _ ihT hcnt hj (hit (.inl h11)).1 (hit (.inl h11)).2
    rw [if_neg h11]
    by_cases h12 : n.kind = 12
    · rw [if_pos h12]
      exact say_12 ns r q n hn j c hc _ h12 hm hd20 hd0 _ ihT hcnt hj (hit (.inr h12)).1 (hit (.inr h12)).2
    rw [if_neg h12]
    have h13 : n.kind = 13 := by omega
    obtain ⟨b, hb⟩ := hbr h13
    have hbk := hkids b (by
      unfold kidsN
      rw [if_neg h9, if_neg (by omega), if_pos h13]
      exact List.mem_of_getElem? hb)
    rw [hb]
    exact say_13 ns r q n hn j c hc _ h13 hm hd20 hd0 _ ihT hcnt hj b hb hbk.1 hbk.2
/-! Of. -/
noncomputable def ofM (s : ST) (a : Int) (j : JT) : VT × Int :=
  if 0 ≤ a ∧ a < (s.nodes.length : Int) ∧ rightM s = true ∧ jR j = true then
    (if (sayM s.nodes 20 a j 0).2.1 = true then ((sayM s.nodes 20 a j 0).1, 0) else (vz 0, 35)) else (vz 0, 2)
section
attribute [local go_sem] opx opE ev okx gcond bnd okO AV.get AV.okb cAV upd_at putd_some putd_none wrs_nil wrs_cons look_nil look_cons st argT_at bpick_and bpick_or bpick_true bpick_false binV binI binS binVOk binOk isShift binSOk unV unVOk loadV loadP cellsA zeroA Blkd.len setE grown moreA moreR moreOk eqRes pv fillA fillE putSeg AV.cellish AV.pureL AV.pureB lentL_is ex_some AV.ren AV.renL renL_c Blkd.ren rho wrM renN lentOk rhoE keepM endOk tyA_2 tyA_3 tyA_4 tyA_5 tyA_6 tyA_7 tyA_8 tyA_9 tyA_10 tyA_11 tyA_12 tyA_13 tyA_14 tyA_15 tyA_16 tyA_17 tyA_18 tyA_19 tyA_21 tyA_22 tyA_23 tyA_24 tyA_29 tyA_30 tyA_31 tyA_32 tyA_33 tyA_34 tyA_35 tyA_36 tyA_37 tyA_38 tyA_39 tyA_40 tyA_41 tyA_42 tyA_43 tyA_48 tyA_89 tyA_93 tyA_107 tyA_108 tyA_109 tyA_113 tyA_114 tyA_115 tyA_116 tyA_117 tyA_119 tyA_120 tyA_121 tyA_122 tyA_131 tyA_134 tyA_135 tyA_136 tyA_137 tyA_138 tyA_154 tyA_156 tyA_157 tyA_158 tyA_159 tyA_170 tyA_180 tyA_181 tyA_182 tyA_196 tyA_202 tyA_208 tyA_209 tyA_210 tyA_211 tyA_212 tyA_213 tyA_229 tyA_230 tyA_231 tyA_241 tyA_264 tyA_268 tyA_293 tyA_294 tyA_295 tyA_311 tyA_313 tyA_321 tyA_326 tyA_334 tyA_338 tyA_340 tyA_343 tyA_344 tyA_345 tyA_346 tyA_347 tyA_348 tyA_349 tyA_351 tyA_352 Option.map_some Option.map_none Option.getD_some Option.getD_none Option.bind_some Option.bind_none List.getElem?_cons_zero List.getElem?_cons_succ List.getElem?_nil List.getElem?_toArray List.length_cons List.length_nil List.length_map List.forall_mem_map List.map_cons List.map_nil List.drop_zero List.drop_succ_cons List.drop_nil List.take_zero List.take_succ_cons List.take_nil List.mem_cons List.not_mem_nil or_false forall_eq_or_imp forall_eq List.set_cons_zero List.set_cons_succ List.cons_append List.nil_append List.append_nil List.foldl_cons List.foldl_nil List.replicate_succ List.replicate_zero List.all_cons List.all_nil if_true if_false Bool.false_eq_true ne_eq not_false_eq_true not_true_eq_false true_and and_true and_self true_implies imp_self implies_true forall_const beq_self_eq_true Bool.and_true Bool.true_and Bool.and_false Bool.false_and Bool.or_true Bool.true_or Bool.or_false Bool.false_or Bool.not_true Bool.not_false Bool.not_eq_eq_eq_not intKindOf Value.oneCell' Int.toNat_natCast beq_true beq_false Bool.not_eq_true false_implies false_or true_or or_true Nat.zero_add Nat.add_zero decide_true decide_false Int.cast_ofNat_Int Int.toNat_zero Int.toNat_one eq_self

theorem say13_top (s : ST) (hok : SayOk s.nodes) (a : Int) (h0 : 0 ≤ a) (h1 : a < (s.nodes.length : Int)) (j : JT) (hj : JOk j) :
    ToldM Tryz.prog 77 [.ref 1000000 1 0 0, .c (.v (.int .i64 a)), j.av, .c (.v (.int .i64 0))] [xSB s.nodes s.root 0] [some (xSB s.nodes s.root (sayM s.nodes 20 a j 0).2.2)] (.tup [(sayM s.nodes 20 a j 0).1.av, .c (.v (.bool (sayM s.nodes 20 a j 0).2.1))]) := by
  have := say13_told s.nodes s.root hok 20 (Nat.le_refl _) a j 0 h0 h1 hj (Nat.zero_le _)
  exact this
set_option maxRecDepth 100000 in
set_option maxHeartbeats 3200000 in
theorem of13_told (s : ST) (hs : s.sm 1000000) (hok : rightM s = true → SayOk s.nodes) (a : Int) (j : JT) (hj1 : j.sm 1000000) (hj2 : j.inr) :
    Told Tryz.prog 30 [s.av, .c (.v (.int .i64 a)), j.av] (.tup [(ofM s a j).1.av, .c (.v (.int .i64 (ofM s a j).2))]) := by
  have hR := sRight_told s hs
  have hJ := jRight_told j (sm_le (by omega) _ hj1)
  have hS := fun (h1 : rightM s = true) (h2 : jR j = true) (h3 : 0 ≤ a) (h4 : a < (s.nodes.length : Int)) => say13_top s (hok h1) a h3 h4 j ⟨by rw [jR_shape, Bool.and_eq_true] at h2; exact h2.2, hj2, hj1⟩
  unfold ofM
  generalize rightM s = R at *
  generalize jR j = J at *
  rw [JT.av_eq] at hJ hS ⊢
  rw [ST.av_eq, scells_mk] at hR ⊢
  by_cases h0 : a < 0
  · have e0 : decide (a < 0) = true := by simpa using h0
    rw [if_neg (by omega), VT.av_eq]
    refine VC.told ent_30 Tryz.func30 rfl Tryz.ntmps30 (by simp) (by first | rfl | simp [AV.pureB, AV.pureL, pureL_c, pures]) (by first | rfl | simp [AV.pureB, AV.pureL, pureL_c, pures]) fun hb => ?_
    clear hb
    refine walkBF (And.intro e0 (And.intro @len_cells (And.intro @take_cells @take_cellsC))) ?_
    refine ⟨by first | exact .inr rfl | exact .inl rfl, ?_⟩; rw [Tryz.results30]; simp only [resOk, resV, go_sem, Int.reduceBEq, Int.reduceLE, Int.reduceLT, Int.reduceNeg, Nat.reduceAdd, Nat.reduceEqDiff, Nat.reduceLT, Nat.reduceLeDiff, Nat.reduceMul, Nat.reduceSub, reduceCtorEq, ↓reduceIte]
    exact ⟨frz_v _ _ _, .c _⟩
  have e0 : decide (a < 0) = false := by simpa using h0
  by_cases h1 : a < (s.nodes.length : Int)
  rotate_left
  · have e1 : decide (a ≥ (s.nodes.length : Int)) = true := by simp; omega
    rw [if_neg (by omega), VT.av_eq]
    refine VC.told ent_30 Tryz.func30 rfl Tryz.ntmps30 (by simp) (by first | rfl | simp [AV.pureB, AV.pureL, pureL_c, pures]) (by first | rfl | simp [AV.pureB, AV.pureL, pureL_c, pures]) fun hb => ?_
    clear hb
    refine walkBF (And.intro e0 (And.intro e1 (And.intro @len_cells (And.intro @take_cells @take_cellsC)))) ?_
    refine ⟨by first | exact .inr rfl | exact .inl rfl, ?_⟩; rw [Tryz.results30]; simp only [resOk, resV, go_sem, Int.reduceBEq, Int.reduceLE, Int.reduceLT, Int.reduceNeg, Nat.reduceAdd, Nat.reduceEqDiff, Nat.reduceLT, Nat.reduceLeDiff, Nat.reduceMul, Nat.reduceSub, reduceCtorEq, ↓reduceIte]
    exact ⟨frz_v _ _ _, .c _⟩
  have e1 : decide (a ≥ (s.nodes.length : Int)) = false := by simp; omega
  cases R with
  | false =>
    rw [if_neg (by simp), VT.av_eq]
    refine VC.told ent_30 Tryz.func30 rfl Tryz.ntmps30 (by simp) (by first | rfl | simp [AV.pureB, AV.pureL, pureL_c, pures]) (by first | rfl | simp [AV.pureB, AV.pureL, pureL_c, pures]) fun hb => ?_
    clear hb
    refine walkGF (And.intro e0 (And.intro e1 (And.intro @len_cells (And.intro @take_cells @take_cellsC)))) ?_
    refine walkC (hR) ?_
    refine walkBF (And.intro @len_cells (And.intro @take_cells @take_cellsC)) ?_
    refine ⟨by first | exact .inr rfl | exact .inl rfl, ?_⟩; rw [Tryz.results30]; simp only [resOk, resV, go_sem, Int.reduceBEq, Int.reduceLE, Int.reduceLT, Int.reduceNeg, Nat.reduceAdd, Nat.reduceEqDiff, Nat.reduceLT, Nat.reduceLeDiff, Nat.reduceMul, Nat.reduceSub, reduceCtorEq, ↓reduceIte]
    exact ⟨frz_v _ _ _, .c _⟩
  | true =>
  cases J with
  | false =>
    rw [if_neg (by simp), VT.av_eq]
    refine VC.told ent_30 Tryz.func30 rfl Tryz.ntmps30 (by simp) (by first | rfl | simp [AV.pureB, AV.pureL, pureL_c, pures]) (by first | rfl | simp [AV.pureB, AV.pureL, pureL_c, pures]) fun hb => ?_
    clear hb
    refine walkGF (And.intro e0 (And.intro e1 (And.intro @len_cells (And.intro @take_cells @take_cellsC)))) ?_
    refine walkC (hR) ?_
    refine walkGF (And.intro @len_cells (And.intro @take_cells @take_cellsC)) ?_
    refine walkCF (@pureL_c) (hJ) ?_
    refine walkBF (And.intro @len_cells (And.intro @take_cells @take_cellsC)) ?_
    refine ⟨by first | exact .inr rfl | exact .inl rfl, ?_⟩; rw [Tryz.results30]; simp only [resOk, resV, go_sem, Int.reduceBEq, Int.reduceLE, Int.reduceLT, Int.reduceNeg, Nat.reduceAdd, Nat.reduceEqDiff, Nat.reduceLT, Nat.reduceLeDiff, Nat.reduceMul, Nat.reduceSub, reduceCtorEq, ↓reduceIte]
    exact ⟨frz_v _ _ _, .c _⟩
  | true =>
  rw [if_pos ⟨by omega, h1, rfl, rfl⟩]
  have hS := hS rfl rfl (by omega) h1
  generalize (sayM s.nodes 20 a j 0).2.2 = c2 at *
  generalize (sayM s.nodes 20 a j 0).1 = v at *
  rw [VT.av_eq] at hS
  unfold xSB at hS
  cases hb' : (sayM s.nodes 20 a j 0).2.1 with
  | true =>
    rw [hb'] at hS
    rw [if_pos rfl, VT.av_eq]
    refine VC.told ent_30 Tryz.func30 rfl Tryz.ntmps30 (by simp) (by first | rfl | simp [AV.pureB, AV.pureL, pureL_c, pures]) (by first | rfl | simp [AV.pureB, AV.pureL, pureL_c, pures]) fun hb => ?_
    clear hb
    refine walkGF (And.intro e0 (And.intro e1 (And.intro @len_cells (And.intro @take_cells @take_cellsC)))) ?_
    refine walkC (hR) ?_
    refine walkGF (And.intro @len_cells (And.intro @take_cells @take_cellsC)) ?_
    refine walkCF (@pureL_c) (hJ) ?_
    refine walkBF (And.intro @len_cells (And.intro @take_cells @take_cellsC)) ?_
    ((refine AO.step fun K hK => ?_; simp only [go_sem, Int.reduceBEq, Int.reduceLE, Int.reduceLT, Int.reduceNeg, Nat.reduceAdd, Nat.reduceEqDiff, Nat.reduceLT, Nat.reduceLeDiff, Nat.reduceMul, Nat.reduceSub, reduceCtorEq, ↓reduceIte, len_cells, take_cells, take_cellsC]; (first | refine gsel_go ?_ | skip)); refine .inr (.inr (.inl ⟨?vy1, [200], ?va1, ?vl1, ?vm1, ?cond1, ?cont1⟩)); (case cond1 => ((repeat' apply And.intro) <;> (try ((with_reducible show ToldM _ _ _ _ _ _); exact hS))); (all_goals first | trivial | (simp only [len_cells, take_cells, take_cellsC, go_sem, simprocAttr]; done) | (simp; done) | rfl)); (first | refine hK _ _ _ ?_ | (simp only [len_cells, take_cells, take_cellsC, go_sem, simprocAttr]; first | refine hK _ _ _ ?_ | refine ⟨rfl, hK _ _ _ ?_⟩)); clear hK K)
    refine walkBF (And.intro @len_vcells (And.intro @take_vcells @take_vcellsC)) ?_
    refine ⟨by first | exact .inr rfl | exact .inl rfl, ?_⟩; rw [Tryz.results30]; simp only [resOk, resV, go_sem, Int.reduceBEq, Int.reduceLE, Int.reduceLT, Int.reduceNeg, Nat.reduceAdd, Nat.reduceEqDiff, Nat.reduceLT, Nat.reduceLeDiff, Nat.reduceMul, Nat.reduceSub, reduceCtorEq, ↓reduceIte]
    exact ⟨⟨by rw [len_vcells]; exact Nat.le_refl _, by rw [take_vcellsC]; exact Frz.cs _ _⟩, .c _⟩
  | false =>
    rw [hb'] at hS
    rw [if_neg (by decide), VT.av_eq]
    refine VC.told ent_30 Tryz.func30 rfl Tryz.ntmps30 (by simp) (by first | rfl | simp [AV.pureB, AV.pureL, pureL_c, pures]) (by first | rfl | simp [AV.pureB, AV.pureL, pureL_c, pures]) fun hb => ?_
    clear hb
    refine walkGF (And.intro e0 (And.intro e1 (And.intro @len_cells (And.intro @take_cells @take_cellsC)))) ?_
    refine walkC (hR) ?_
    refine walkGF (And.intro @len_cells (And.intro @take_cells @take_cellsC)) ?_
    refine walkCF (@pureL_c) (hJ) ?_
    refine walkBF (And.intro @len_cells (And.intro @take_cells @take_cellsC)) ?_
    ((refine AO.step fun K hK => ?_; simp only [go_sem, Int.reduceBEq, Int.reduceLE, Int.reduceLT, Int.reduceNeg, Nat.reduceAdd, Nat.reduceEqDiff, Nat.reduceLT, Nat.reduceLeDiff, Nat.reduceMul, Nat.reduceSub, reduceCtorEq, ↓reduceIte, len_cells, take_cells, take_cellsC]; (first | refine gsel_go ?_ | skip)); refine .inr (.inr (.inl ⟨?vy2, [200], ?va2, ?vl2, ?vm2, ?cond2, ?cont2⟩)); (case cond2 => ((repeat' apply And.intro) <;> (try ((with_reducible show ToldM _ _ _ _ _ _); exact hS))); (all_goals first | trivial | (simp only [len_cells, take_cells, take_cellsC, go_sem, simprocAttr]; done) | (simp; done) | rfl)); (first | refine hK _ _ _ ?_ | (simp only [len_cells, take_cells, take_cellsC, go_sem, simprocAttr]; first | refine hK _ _ _ ?_ | refine ⟨rfl, hK _ _ _ ?_⟩)); clear hK K)
    refine walkBF (And.intro @len_vcells (And.intro @take_vcells @take_vcellsC)) ?_
    refine ⟨by first | exact .inr rfl | exact .inl rfl, ?_⟩; rw [Tryz.results30]; simp only [resOk, resV, go_sem, Int.reduceBEq, Int.reduceLE, Int.reduceLT, Int.reduceNeg, Nat.reduceAdd, Nat.reduceEqDiff, Nat.reduceLT, Nat.reduceLeDiff, Nat.reduceMul, Nat.reduceSub, reduceCtorEq, ↓reduceIte]
    exact ⟨frz_v _ _ _, .c _⟩
noncomputable def fldM (s : ST) (fd : FT) : VT × Int := if fd.has = true then ofM s fd.type fd.dflt else (vz 0, 60)
set_option maxRecDepth 100000 in
set_option maxHeartbeats 1600000 in
theorem field13_told (s : ST) (hs : s.sm 1000000) (hr : rightM s = true) (hok : SayOk s.nodes) (i k : Nat) (n : NT) (hn : s.nodes[i]? = some n) (h9 : n.kind = 9) (fd : FT) (hfd : n.fields[k]? = some fd) :
    Told Tryz.prog 32 [s.av, .c (.v (.int .i64 (i : Int))), .c (.v (.int .i64 (k : Int)))] (.tup [(fldM s fd).1.av, .c (.v (.int .i64 (fldM s fd).2))]) := by
  have hR := sRight_told s hs
  rw [hr] at hR
  have hil := (List.getElem?_eq_some_iff.1 hn).1
  have hkl := (List.getElem?_eq_some_iff.1 hfd).1
  have hxp : (s.nodes.map NT.cells)[i]? = some n.cells := by rw [List.getElem?_map, hn]; rfl
  have hxq : (n.fields.map FT.cells)[k]? = some fd.cells := by rw [List.getElem?_map, hfd]; rfl
  have e0 : decide ((i : Int) < 0) = false := by simp
  have e1 : decide ((i : Int) ≥ (s.nodes.length : Int)) = false := by simp; omega
  have e2 : (n.kind != 9) = false := by simpa using h9
  have e3 : decide ((k : Int) < 0) = false := by simp
  have e4 : decide ((k : Int) ≥ (n.fields.length : Int)) = false := by simp; omega
  have hO := fun (h : fd.has = true) => of13_told s hs (fun _ => hok) fd.type fd.dflt ((hok.2 n (List.mem_of_getElem? hn)).2.2.2.1 h9 fd (List.mem_of_getElem? hfd) h).2.2 ((hok.2 n (List.mem_of_getElem? hn)).2.2.2.1 h9 fd (List.mem_of_getElem? hfd) h).2.1
  unfold fldM
  generalize ofM s fd.type fd.dflt = V at *
  rw [ST.av_eq, scells_mk] at hR ⊢
  cases hh : fd.has with
  | false =>
    rw [if_neg (by decide), VT.av_eq]
    refine VC.told ent_32 Tryz.func32 rfl Tryz.ntmps32 (by simp) (by first | rfl | simp [AV.pureB, AV.pureL, pureL_c, pures]) (by first | rfl | simp [AV.pureB, AV.pureL, pureL_c, pures]) fun hb => ?_
    clear hb
    refine walkGF (And.intro e0 (And.intro e1 (And.intro e2 (And.intro e3 (And.intro e4 (And.intro hxp @ncells_mk)))))) ?_
    refine walkC (hR) ?_
    refine walkBF (And.intro hxp (And.intro @ncells_mk (And.intro hxq (And.intro @fcells_mk (And.intro @len_fcells (And.intro @take_fcells (And.intro @take_fcellsC (And.intro @len_cells (And.intro @take_cells (And.intro @take_cellsC hh)))))))))) ?_
    refine ⟨by first | exact .inr rfl | exact .inl rfl, ?_⟩; rw [Tryz.results32]; simp only [resOk, resV, go_sem, Int.reduceBEq, Int.reduceLE, Int.reduceLT, Int.reduceNeg, Nat.reduceAdd, Nat.reduceEqDiff, Nat.reduceLT, Nat.reduceLeDiff, Nat.reduceMul, Nat.reduceSub, reduceCtorEq, ↓reduceIte]
    exact ⟨frz_v _ _ _, .c _⟩
  | true =>
    rw [if_pos rfl]
    have hO := hO hh
    rw [JT.av_eq, ST.av_eq, scells_mk, VT.av_eq] at hO
    rw [VT.av_eq]
    refine VC.told ent_32 Tryz.func32 rfl Tryz.ntmps32 (by simp) (by first | rfl | simp [AV.pureB, AV.pureL, pureL_c, pures]) (by first | rfl | simp [AV.pureB, AV.pureL, pureL_c, pures]) fun hb => ?_
    clear hb
    refine walkGF (And.intro e0 (And.intro e1 (And.intro e2 (And.intro e3 (And.intro e4 (And.intro hxp @ncells_mk)))))) ?_
    refine walkC (hR) ?_
    refine walkBF (And.intro hxp (And.intro @ncells_mk (And.intro hxq (And.intro @fcells_mk (And.intro @len_fcells (And.intro @take_fcells (And.intro @take_fcellsC (And.intro @len_cells (And.intro @take_cells (And.intro @take_cellsC hh)))))))))) ?_
    refine walkCF (@pureL_c) (hO) ?_
    refine walkBF (And.intro @len_vcells (And.intro @take_vcells @take_vcellsC)) ?_
    refine ⟨by first | exact .inr rfl | exact .inl rfl, ?_⟩; rw [Tryz.results32]; simp only [resOk, resV, go_sem, Int.reduceBEq, Int.reduceLE, Int.reduceLT, Int.reduceNeg, Nat.reduceAdd, Nat.reduceEqDiff, Nat.reduceLT, Nat.reduceLeDiff, Nat.reduceMul, Nat.reduceSub, reduceCtorEq, ↓reduceIte]
    exact ⟨⟨by rw [len_vcells]; exact Nat.le_refl _, by rw [take_vcellsC]; exact Frz.cs _ _⟩, .c _⟩
noncomputable def badF (s : ST) (fs : List FT) : Bool := fs.any fun fd => fd.has && (fldM s fd).2 != 0
noncomputable def badN (s : ST) (ns : List NT) : Bool := ns.any fun n => badF s n.fields
noncomputable def checkM (s : ST) : Int := if rightM s = true then (if badN s s.nodes = true then 35 else 0) else 2
theorem any_at {α : Type} (p : α → Bool) : ∀ {l : List α} {i : Nat} {x : α}, l[i]? = some x → p x = true → l.any p = true := fun h hp => List.any_eq_true.2 ⟨_, List.mem_of_getElem? h, hp⟩
theorem any_take {α : Type} (p : α → Bool) {l : List α} {i : Nat} {x : α} (h : l[i]? = some x) (h0 : (l.take i).any p = false) (hp : p x = false) : (l.take (i + 1)).any p = false := by
  rw [List.take_add_one, h, List.any_append, h0]
  simp [hp]
theorem bare_fields {n : NT} (h : bareM n = true) {k : Nat} {fd : FT} (hfd : n.fields[k]? = some fd) : n.kind = 9 := by
  unfold bareM at h
  simp only [Bool.and_eq_true, Bool.or_eq_true, beq_iff_eq, List.isEmpty_iff] at h
  rcases h.2.1 with h | h
  · exact h
  · rw [h] at hfd
    simp at hfd
theorem right_kind {s : ST} (hr : rightM s = true) {n : NT} (hn : n ∈ s.nodes) {k : Nat} {fd : FT} (hfd : n.fields[k]? = some fd) : n.kind = 9 := by
  have := right_nodes hr n hn
  unfold nodeM at this
  simp only [Bool.and_eq_true] at this
  exact bare_fields this.1.2.2 hfd
set_option maxRecDepth 100000 in
set_option maxHeartbeats 3200000 in
theorem check13_told (s : ST) (hs : s.sm 1000000) (hok : rightM s = true → SayOk s.nodes) : Told Tryz.prog 34 [s.av] (.c (.v (.int .i64 (checkM s)))) := by
  have hR := sRight_told s hs
  unfold checkM
  cases hr : rightM s with
  | false =>
    rw [hr] at hR
    rw [if_neg (by decide)]
    rw [ST.av_eq, scells_mk] at hR ⊢
    refine VC.told ent_34 Tryz.func34 rfl Tryz.ntmps34 (by simp) (by first | rfl | simp [AV.pureB, AV.pureL, pureL_c, pures]) (by first | rfl | simp [AV.pureB, AV.pureL, pureL_c, pures]) fun hb => ?_
    clear hb
    refine walkG ?_
    refine walkC (hR) ?_
    refine walkB ?_
    refine ⟨by first | exact .inr rfl | exact .inl rfl, ?_⟩; rw [Tryz.results34]; simp only [resOk, resV, go_sem, Int.reduceBEq, Int.reduceLE, Int.reduceLT, Int.reduceNeg, Nat.reduceAdd, Nat.reduceEqDiff, Nat.reduceLT, Nat.reduceLeDiff, Nat.reduceMul, Nat.reduceSub, reduceCtorEq, ↓reduceIte]
    exact .c _
  | true =>
  rw [hr] at hR
  have hok := hok hr
  rw [if_pos rfl]
  obtain ⟨V, hV⟩ : ∃ V : Int, V = if badN s s.nodes = true then 35 else 0 := ⟨_, rfl⟩
  rw [← hV]
  have hF := fun (i k : Nat) (n : NT) (hn : s.nodes[i]? = some n) (fd : FT) (hfd : n.fields[k]? = some fd) => field13_told s hs hr hok i k n hn (right_kind hr (List.mem_of_getElem? hn) hfd) fd hfd
  simp only [ST.av_eq, scells_mk] at hR hF ⊢
  have hsl := hs.1
  refine VC.told ent_34 Tryz.func34 rfl Tryz.ntmps34 (by simp) (by first | rfl | simp [AV.pureB, AV.pureL, pureL_c, pures]) (by first | rfl | simp [AV.pureB, AV.pureL, pureL_c, pures]) fun hb => ?_
  clear hb
  refine walkG ?_
  refine walkC (hR) ?_
  refine walkB ?_
  refine VC.loop (ι := {i : Nat // i ≤ s.nodes.length ∧ badN s (s.nodes.take i) = false}) (fun q => [(1, .ref 0 1 0 0), (13, .c (.sl 10 (s.nodes.map NT.cells))), (14, .c (.v (.int .i64 (s.nodes.length : Int)))), (15, .c (.v (.int .i64 (q.1 : Int))))])
    (fun _ => [(0, ⟨false, 24, 2, [[.c (.sl 10 (s.nodes.map NT.cells)), .c (.v (.int .i64 s.root))]]⟩)]) 800 (fun q => s.nodes.length - q.1) ⟨0, Nat.zero_le _, rfl⟩ ?_ ?_
  · simp only [Weak, eq_self, used_is, sc_any, sc_c, sc_pp, sc_ref, sc_row, sc_agg, sc_fn, ScL, some_imp, List.forall_mem_map, go_sem, Int.reduceBEq, Int.reduceLE, Int.reduceLT, Int.reduceNeg, Nat.reduceAdd, Nat.reduceEqDiff, Nat.reduceLT, Nat.reduceLeDiff, Nat.reduceMul, Nat.reduceSub, reduceCtorEq, ↓reduceIte]
    all_goals rfl
  rintro ⟨i, hi, hbi⟩
  simp only []
  refine walkG ?_
  refine VC.cond (by rfl) (by trivial) (fun h1 => ?_) (fun h1 => ?_)
  rotate_left
  · obtain rfl : i = s.nodes.length := by simp at h1; omega
    rw [List.take_length] at hbi
    have hV0 : V = 0 := by rw [hV, hbi]; rfl
    refine walkG ?_
    refine ⟨by first | exact .inr rfl | exact .inl rfl, ?_⟩; rw [Tryz.results34]; simp only [resOk, resV, go_sem, Int.reduceBEq, Int.reduceLE, Int.reduceLT, Int.reduceNeg, Nat.reduceAdd, Nat.reduceEqDiff, Nat.reduceLT, Nat.reduceLeDiff, Nat.reduceMul, Nat.reduceSub, reduceCtorEq, ↓reduceIte]
    rw [hV0]
    exact .c _
  have hlt : i < s.nodes.length := by simp at h1; omega
  obtain ⟨n, hn⟩ : ∃ n, s.nodes[i]? = some n := ⟨s.nodes[i], List.getElem?_eq_getElem hlt⟩
  have hxp : (s.nodes.map NT.cells)[i]? = some n.cells := by rw [List.getElem?_map, hn]; rfl
  have hw : IntKind.i64.wrap ((i : Int) + 1) = (i : Int) + 1 := wrap64_id (by omega) (by omega)
  have hfl := (hs.2 n (List.mem_of_getElem? hn)).2.2.2.2.2.1
  refine walkGF (And.intro hxp @ncells_mk) ?_
  refine VC.loop (ι := {k : Nat // k ≤ n.fields.length ∧ badF s (n.fields.take k) = false}) (fun q => [(1, .ref 0 1 0 0), (3, .c (.v (.int .i64 (i : Int)))), (13, .c (.sl 10 (s.nodes.map NT.cells))), (14, .c (.v (.int .i64 (s.nodes.length : Int)))), (15, .c (.v (.int .i64 (i : Int)))), (21, .c (.sl 9 (n.fields.map FT.cells))), (22, .c (.v (.int .i64 (n.fields.length : Int)))), (23, .c (.v (.int .i64 (q.1 : Int))))])
    (fun _ => [(0, ⟨false, 24, 2, [[.c (.sl 10 (s.nodes.map NT.cells)), .c (.v (.int .i64 s.root))]]⟩)]) 4000 (fun q => n.fields.length - q.1) ⟨0, Nat.zero_le _, rfl⟩ ?_ ?_
  · simp only [Weak, eq_self, used_is, sc_any, sc_c, sc_pp, sc_ref, sc_row, sc_agg, sc_fn, ScL, some_imp, List.forall_mem_map, go_sem, Int.reduceBEq, Int.reduceLE, Int.reduceLT, Int.reduceNeg, Nat.reduceAdd, Nat.reduceEqDiff, Nat.reduceLT, Nat.reduceLeDiff, Nat.reduceMul, Nat.reduceSub, reduceCtorEq, ↓reduceIte]
    all_goals rfl
  rintro ⟨k, hk, hbk⟩
  simp only []
  refine walkG ?_
  refine VC.cond (by rfl) (by trivial) (fun h2 => ?_) (fun h2 => ?_)
  rotate_left
  · obtain rfl : k = n.fields.length := by simp at h2; omega
    rw [List.take_length] at hbk
    refine walkGF (hw) ?_
    refine .next ⟨i + 1, by omega, any_take _ hn hbi hbk⟩ ?_ (by simp only []; omega)
    simp only [Weak, eq_self, used_is, sc_any, sc_c, sc_pp, sc_ref, sc_row, sc_agg, sc_fn, ScL, some_imp, List.forall_mem_map, go_sem, Int.reduceBEq, Int.reduceLE, Int.reduceLT, Int.reduceNeg, Nat.reduceAdd, Nat.reduceEqDiff, Nat.reduceLT, Nat.reduceLeDiff, Nat.reduceMul, Nat.reduceSub, reduceCtorEq, ↓reduceIte]
    exact cI (by omega)
  have hlt2 : k < n.fields.length := by simp at h2; omega
  obtain ⟨fd, hfd⟩ : ∃ fd, n.fields[k]? = some fd := ⟨n.fields[k], List.getElem?_eq_getElem hlt2⟩
  have hxq : (n.fields.map FT.cells)[k]? = some fd.cells := by rw [List.getElem?_map, hfd]; rfl
  have hw2 : IntKind.i64.wrap ((k : Int) + 1) = (k : Int) + 1 := wrap64_id (by omega) (by omega)
  have hFk := hF i k n hn fd hfd
  have hbad : (fd.has && (fldM s fd).2 != 0) = true → V = 35 := fun h => by
    have : badN s s.nodes = true := any_at _ hn (any_at _ hfd h)
    rw [hV, if_pos this]
  have hgood : (fd.has && (fldM s fd).2 != 0) = false → badF s (n.fields.take (k + 1)) = false := fun h => any_take _ hfd hbk h
  clear hF hV
  generalize fldM s fd = Y at *
  rw [VT.av_eq] at hFk
  obtain ⟨b1, e1⟩ : ∃ b : Bool, b = fd.has := ⟨_, rfl⟩
  obtain ⟨b2, e2⟩ : ∃ b : Bool, b = (Y.2 != 0) := ⟨_, rfl⟩
  rw [← e1, ← e2] at hbad hgood
  cases b1 with
  | false =>
    refine walkGF (And.intro hxq (And.intro @fcells_mk (And.intro @len_fcells (And.intro @take_fcells (And.intro @take_fcellsC (And.intro @len_cells (And.intro @take_cells @take_cellsC))))))) ?_
    refine walkCF (@pureL_c) (hFk) ?_
    refine walkBF (And.intro @fcells_mk (And.intro @len_cells (And.intro @take_cells (And.intro @take_cellsC (And.intro e1.symm (And.intro hw2 (And.intro @len_vcells (And.intro @take_vcells @take_vcellsC)))))))) ?_
    refine .next ⟨k + 1, by omega, hgood rfl⟩ ?_ (by simp only []; omega)
    simp only [Weak, eq_self, used_is, sc_any, sc_c, sc_pp, sc_ref, sc_row, sc_agg, sc_fn, ScL, some_imp, List.forall_mem_map, go_sem, Int.reduceBEq, Int.reduceLE, Int.reduceLT, Int.reduceNeg, Nat.reduceAdd, Nat.reduceEqDiff, Nat.reduceLT, Nat.reduceLeDiff, Nat.reduceMul, Nat.reduceSub, reduceCtorEq, ↓reduceIte]
    exact cI (by omega)
  | true =>
  cases b2 with
  | false =>
    refine walkGF (And.intro hxq (And.intro @fcells_mk (And.intro @len_fcells (And.intro @take_fcells (And.intro @take_fcellsC (And.intro @len_cells (And.intro @take_cells @take_cellsC))))))) ?_
    refine walkCF (@pureL_c) (hFk) ?_
    refine walkBF (And.intro @fcells_mk (And.intro @len_cells (And.intro @take_cells (And.intro @take_cellsC (And.intro e1.symm (And.intro e2.symm (And.intro hw2 (And.intro @len_vcells (And.intro @take_vcells @take_vcellsC))))))))) ?_
    refine .next ⟨k + 1, by omega, hgood rfl⟩ ?_ (by simp only []; omega)
    simp only [Weak, eq_self, used_is, sc_any, sc_c, sc_pp, sc_ref, sc_row, sc_agg, sc_fn, ScL, some_imp, List.forall_mem_map, go_sem, Int.reduceBEq, Int.reduceLE, Int.reduceLT, Int.reduceNeg, Nat.reduceAdd, Nat.reduceEqDiff, Nat.reduceLT, Nat.reduceLeDiff, Nat.reduceMul, Nat.reduceSub, reduceCtorEq, ↓reduceIte]
    exact cI (by omega)
  | true =>
    refine walkGF (And.intro hxq (And.intro @fcells_mk (And.intro @len_fcells (And.intro @take_fcells (And.intro @take_fcellsC (And.intro @len_cells (And.intro @take_cells @take_cellsC))))))) ?_
    refine walkCF (@pureL_c) (hFk) ?_
    refine walkBF (And.intro @fcells_mk (And.intro @len_cells (And.intro @take_cells (And.intro @take_cellsC (And.intro e1.symm (And.intro e2.symm (And.intro hw2 (And.intro @len_vcells (And.intro @take_vcells @take_vcellsC))))))))) ?_
    refine ⟨by first | exact .inr rfl | exact .inl rfl, ?_⟩; rw [Tryz.results34]; simp only [resOk, resV, go_sem, Int.reduceBEq, Int.reduceLE, Int.reduceLT, Int.reduceNeg, Nat.reduceAdd, Nat.reduceEqDiff, Nat.reduceLT, Nat.reduceLeDiff, Nat.reduceMul, Nat.reduceSub, reduceCtorEq, ↓reduceIte]
    rw [hbad rfl]
    exact .c _
end
section
open Go.RowKit Go.ChangeShapes Go.WideShapes Go.ChangeAt
inductive TyPV (P : Program) : TypeId → List PV → Prop
  | bool {t : TypeId} {b : Bool} (ht : P.underlying t = some .bool) : TyPV P t [.v (.bool b)]
  | int {t : TypeId} {k : IntKind} {n : Int} (ht : P.underlying t = some (.int k)) (hw : (Lit.int k n).wf = true) : TyPV P t [.v (.int k n)]
  | str {t : TypeId} {s : ByteArray} (ht : P.underlying t = some .string) (hs : s.size ≤ maxLen) : TyPV P t [.v (.string s)]
  | sl {t e : TypeId} {es : List (List PV)} (ht : P.underlying t = some (.slice e)) (hx : ∀ q ∈ es, TyPV P e q) : TyPV P t [.sl (P.cellsOf e) es]
  | struct {t : TypeId} {fs : Array Field} {ps : List PV} (ht : P.underlying t = some (.struct fs)) (hl : ps.length = P.cellsOf t)
      (hx : ∀ (i : Nat) (f : Field), fs[i]? = some f → TyPV P f.type ((ps.drop f.offset).take (P.cellsOf f.type))) : TyPV P t ps
def tiles (P : Program) : List Field → Nat → Nat → Bool
  | [], o, n => o == n
  | f :: fs, o, n => f.offset == o && tiles P fs (o + P.cellsOf f.type) n
def plainB (P : Program) (l : List TypeId) : Bool := l.all fun t => match P.underlying t with
  | some .bool => P.cellsOf t == 1 | some (.int _) => P.cellsOf t == 1 | some .string => P.cellsOf t == 1
  | some (.slice e) => l.contains e && decide (0 < P.cellsOf e) && (P.cellsOf t == 1)
  | some (.struct fs) => tiles P fs.toList 0 (P.cellsOf t) && fs.toList.all fun f => l.contains f.type
  | _ => false
theorem list_of {α : Type} {p : Nat → α → Prop} : ∀ (n : Nat), (∀ i, i < n → ∃ y, p i y) → ∃ l : List α, l.length = n ∧ ∀ (i : Nat) (y : α), l[i]? = some y → p i y
  | 0, _ => ⟨[], rfl, fun i y h => by simp at h⟩
  | n + 1, h => by
    obtain ⟨l, h1, h2⟩ := list_of n fun i hi => h i (by omega)
    obtain ⟨y, hy⟩ := h n (by omega)
    refine ⟨l ++ [y], by simp [h1], fun i z hz => ?_⟩
    by_cases hi : i < l.length
    · rw [List.getElem?_append_left hi] at hz
      exact h2 i z hz
    · rw [List.getElem?_append_right (by omega)] at hz
      cases hj : i - l.length with
      | zero =>
        rw [hj] at hz
        simp at hz
        subst hz
        rw [show i = n by omega]
        exact hy
      | succ j => rw [hj] at hz; simp at hz
section
variable {P : Program} {w : World}
theorem PRepL.cons_app {ro : Nat → Prop} {p q : List PV} {v u : List Value} (h : PRepL w ro p v) (h' : PRepL w ro q u) : PRepL w ro (p ++ q) (v ++ u) := by
  refine ⟨by simp [h.1, h'.1], fun j x y h1 h2 => ?_⟩
  by_cases hj : j < p.length
  · rw [List.getElem?_append_left hj] at h1
    rw [List.getElem?_append_left (by rw [h.1]; exact hj)] at h2
    exact h.2 j x y h1 h2
  · rw [List.getElem?_append_right (by omega)] at h1
    rw [List.getElem?_append_right (by rw [h.1]; omega), h.1] at h2
    exact h'.2 _ x y h1 h2
theorem tile_rep {ro : Nat → Prop} {cs : List Value} {n : Nat} (hn : cs.length = n) : ∀ (fs : List Field) (o : Nat), o ≤ n → tiles P fs o n = true →
    (∀ f ∈ fs, ∃ q, PRepL w ro q ((cs.drop f.offset).take (P.cellsOf f.type)) ∧ q.length = P.cellsOf f.type ∧ TyPV P f.type q) →
    ∃ ps, PRepL w ro ps (cs.drop o) ∧ ps.length = n - o ∧ ∀ (i : Nat) (f : Field), fs[i]? = some f → o ≤ f.offset ∧ TyPV P f.type ((ps.drop (f.offset - o)).take (P.cellsOf f.type)) := by
  intro fs
  induction fs with
  | nil =>
    intro o ho ht _
    simp [tiles] at ht
    subst ht
    exact ⟨[], ⟨by simp [← hn], by simp⟩, by simp, by simp⟩
  | cons f fs ih =>
    intro o ho ht hf
    simp only [tiles, Bool.and_eq_true, beq_iff_eq] at ht
    obtain ⟨h1, h2⟩ := ht
    obtain ⟨q, hq1, hq2, hq3⟩ := hf f (by simp)
    have hle : o + P.cellsOf f.type ≤ n := by
      have := hq1.1
      rw [hq2, List.length_take, List.length_drop, h1, hn] at this
      omega
    obtain ⟨ps, hp1, hp2, hp3⟩ := ih _ hle h2 fun g hg => hf g (by simp [hg])
    have hsp : cs.drop o = (cs.drop o).take (P.cellsOf f.type) ++ cs.drop (o + P.cellsOf f.type) := by
      rw [← List.drop_drop, List.take_append_drop]
    refine ⟨q ++ ps, ?_, by simp [hq2, hp2]; omega, fun i g hg => ?_⟩
    · rw [hsp]
      rw [h1] at hq1
      exact hq1.cons_app hp1
    · cases i with
      | zero =>
        simp at hg
        subst hg
        refine ⟨by omega, ?_⟩
        rw [h1, Nat.sub_self, List.drop_zero, ← hq2, List.take_left]
        exact hq3
      | succ i =>
        simp at hg
        obtain ⟨h3, h4⟩ := hp3 i g hg
        refine ⟨by omega, ?_⟩
        rw [show g.offset - o = q.length + (g.offset - (o + P.cellsOf f.type)) by omega, List.drop_append, List.drop_of_length_le (by omega), List.nil_append, Nat.add_sub_cancel_left]
        exact h4
variable {H : Type} {enc : TypeId × Value → H} {sp : Nat → Bool} {held : Bool}
theorem lit_prep {W : World} {ro : Nat → Prop} {v : Value} (hv : v.oneCell' = true) : PRepL W ro [.v v] [v] := ⟨rfl, fun j p u h1 h2 => by
  cases j with
  | zero => simp at h1 h2; subst h1 h2; exact .v hv
  | succ j => simp at h1⟩
theorem open_pv {l : List TypeId} (hl : plainB P l = true) : ∀ (fuel : Nat) (t : TypeId) (cs : List Value) (x : DataW H × List MemPlace), t ∈ l → DataW.trod enc P w 0 sp held fuel t cs = some x →
    ∃ ps, PRepL w (fun b => b < w.heap.size) ps cs ∧ ps.length = P.cellsOf t ∧ TyPV P t ps := by
  intro fuel
  induction fuel using Nat.strongRecOn with
  | ind fuel ih =>
  intro t cs x ht h
  have hk := List.all_eq_true.1 hl t ht
  split at hk
  · rename_i hu
    obtain ⟨b, rfl, _⟩ := DataW.trod_bool hu h
    exact ⟨_, lit_prep rfl, (by simpa using hk : P.cellsOf t = 1).symm, .bool hu⟩
  · rename_i k hu
    obtain ⟨n, rfl, _, hw⟩ := DataW.trod_int hu h
    exact ⟨_, lit_prep rfl, (by simpa using hk : P.cellsOf t = 1).symm, .int hu hw⟩
  · rename_i hu
    obtain ⟨s, rfl, _, hs⟩ := DataW.trod_string hu h
    exact ⟨_, lit_prep rfl, (by simpa using hk : P.cellsOf t = 1).symm, .str hu hs⟩
  · rename_i e hu
    simp only [Bool.and_eq_true, List.contains_iff_mem, decide_eq_true_eq, beq_iff_eq] at hk
    obtain ⟨⟨he, hz⟩, hone⟩ := hk
    rcases DataW.trod_slice hu h with ⟨rfl, _⟩ | ⟨a, len, cap, elems, rest, n, rfl, rfl, _, hb, h1, h2, h3, h4, _, _⟩
    · exact ⟨[.sl (P.cellsOf e) []], ⟨rfl, fun j p u g1 g2 => by
        cases j with
        | zero => simp at g1 g2; subst g1 g2; exact PRep.nil _ _ _
        | succ j => simp at g1⟩, hone.symm, .sl hu (by simp)⟩
    · have hex : ∀ i, i < len → ∃ y : List Value × List PV, w.cells? 0 (a.add (i * P.cellsOf e)) (P.cellsOf e) = some y.1 ∧ PRepL w (fun b => b < w.heap.size) y.2 y.1 ∧ y.2.length = P.cellsOf e ∧ TyPV P e y.2 := by
        intro i hi
        have h5 := h4 i hi
        rw [List.getElem?_eq_getElem (show i < elems.length by omega), Option.bind_eq_some_iff] at h5
        obtain ⟨vs, h6, h7⟩ := h5
        obtain ⟨q, h8, h9, h10⟩ := ih n (by omega) e vs _ he h7
        exact ⟨(vs, q), h6, h8, h9, h10⟩
      obtain ⟨L, hL, hLx⟩ := list_of len hex
      have hcell : ∀ (i : Nat) (y : List Value × List PV), L[i]? = some y → y.1.length = P.cellsOf e ∧ ∀ j, j < P.cellsOf e → w.cell? ((a.add (i * P.cellsOf e)).add j) = y.1[j]? := fun i y hy => (World.cells?_some (hLx i y hy).1).2
      have hlen : len = (L.map (·.2)).length := by simp [hL]
      refine ⟨[.sl (P.cellsOf e) (L.map (·.2))], ⟨rfl, fun j p u g1 g2 => ?_⟩, hone.symm, .sl hu fun q hq => ?_⟩
      · cases j with
        | succ j => simp at g1
        | zero =>
        simp at g1 g2
        subst g1 g2
        rw [hlen]
        refine .sl (vss := L.map (·.1)) (by omega) (by unfold maxLen at h2; omega) (fun hn => by simp at hn) (fun hne => ?_) (by simp) (fun i q hq => ?_) (fun i vs hvs => ?_) (fun i j q vs p u hq hvs hp hv => ?_)
        · have hpos : 0 < L.length := List.length_pos_iff.2 (by intro e; apply hne; simp [e])
          obtain ⟨y0, hy0⟩ : ∃ y, L[0]? = some y := ⟨L[0], List.getElem?_eq_getElem hpos⟩
          obtain ⟨c1, c2⟩ := hcell 0 y0 hy0
          have c3 := c2 0 hz
          rw [List.getElem?_eq_getElem (show 0 < y0.1.length by omega)] at c3
          simp only [Nat.zero_mul] at c3
          have hspot := World.cell?_spot c3
          have hlt : a.block < w.heap.size := by
            unfold World.cell? at c3
            have : (a.add 0).add 0 = a := by simp [Addr.add]
            rw [this] at c3
            split at c3
            · rename_i hh
              exact (Array.getElem?_eq_some_iff.1 hh).1
            · simp at c3
          have ha : a = ⟨a.block, a.off, none⟩ := by
            cases a
            simp [Addr.add] at hspot
            simp [hspot]
          refine ⟨a.block, a.off, by rw [← ha], hlt, fun i vs hvs j hj => ?_⟩
          rw [List.getElem?_map] at hvs
          cases hq : L[i]? with
          | none => rw [hq] at hvs; simp at hvs
          | some y =>
            rw [hq] at hvs
            obtain rfl := Option.some.inj hvs
            obtain ⟨d1, d2⟩ := hcell i y hq
            have hj' : j < y.1.length := hj
            rw [← d2 j (by omega), ha, addr_add, addr_add]
        · rw [List.getElem?_map] at hq
          cases hy : L[i]? with
          | none => rw [hy] at hq; simp at hq
          | some y =>
            rw [hy] at hq
            obtain rfl := Option.some.inj hq
            exact (hLx i y hy).2.2.1
        · rw [List.getElem?_map] at hvs
          cases hy : L[i]? with
          | none => rw [hy] at hvs; simp at hvs
          | some y =>
            rw [hy] at hvs
            obtain rfl := Option.some.inj hvs
            exact (hcell i y hy).1
        · rw [List.getElem?_map] at hq hvs
          cases hy : L[i]? with
          | none => rw [hy] at hq; simp at hq
          | some y =>
            rw [hy] at hq hvs
            obtain rfl := Option.some.inj hq
            obtain rfl := Option.some.inj hvs
            exact (hLx i y hy).2.1.2 j p u hp hv
      · obtain ⟨y, hy, rfl⟩ := List.mem_map.1 hq
        obtain ⟨i, hi⟩ := List.mem_iff_getElem?.1 hy
        exact (hLx i y hi).2.2.2
  · rename_i fs hu
    simp only [Bool.and_eq_true] at hk
    obtain ⟨htl, hin⟩ := hk
    obtain ⟨xs, n, rfl, _, h1, h2, h3⟩ := DataW.trod_struct hu h
    obtain ⟨ps, hp1, hp2, hp3⟩ := tile_rep (P := P) (w := w) (ro := fun b => b < w.heap.size) (cs := cs) h1 fs.toList 0 (Nat.zero_le _) htl fun f hf => by
      obtain ⟨i, hi⟩ := List.mem_iff_getElem?.1 hf
      have hi' : fs[i]? = some f := by simpa using hi
      have hlt := (Array.getElem?_eq_some_iff.1 hi').1
      have h4 := h3 i f hi'
      rw [List.getElem?_eq_getElem (show i < xs.length by omega)] at h4
      have hm : f.type ∈ l := by simpa using List.all_eq_true.1 hin f hf
      obtain ⟨q, h5, h6, h7⟩ := ih n (by omega) f.type _ _ hm h4
      exact ⟨q, h5, h6, h7⟩
    refine ⟨ps, by simpa using hp1, by rw [hp2]; simp, .struct hu (by rw [hp2]; simp) fun i f hf => ?_⟩
    simpa using (hp3 i f (by simpa using hf)).2
  · simp at hk
def TyAV (P : Program) (t : TypeId) (x : AV) : Prop := ∃ ps, TyPV P t ps ∧ (((∃ fs, P.underlying t = some (.struct fs)) ∧ x = .agg (ps.map .c)) ∨ ((∀ fs, P.underlying t ≠ some (.struct fs)) ∧ ∃ q, ps = [q] ∧ x = .c q))
theorem prepL_rep {W : World} {ro : Nat → Prop} {φ : Nat → Value} {h : Nat → Option Blkd} {ps : List PV} {cs : List Value} (hp : PRepL W ro ps cs) : Rep W ro φ h (.agg (ps.map .c)) (.agg cs.toArray) := by
  refine .agg (by simp [hp.1]) fun j x v h1 h2 => ?_
  rw [List.getElem?_map] at h1
  cases hq : ps[j]? with
  | none => rw [hq] at h1; simp at h1
  | some p =>
    rw [hq] at h1
    obtain rfl := Option.some.inj h1
    exact .c (hp.2 j p v hq h2)
theorem prepL_one {W : World} {ro : Nat → Prop} {φ : Nat → Value} {h : Nat → Option Blkd} {ps : List PV} {v : Value} (hp : PRepL W ro ps [v]) : ∃ q, ps = [q] ∧ Rep W ro φ h (.c q) v := by
  have := hp.1
  match ps, this with
  | [q], _ => exact ⟨q, rfl, .c (hp.2 0 q v rfl rfl)⟩
theorem open_arg {l : List TypeId} (hl : plainB P l = true) {t : TypeId} (ht : t ∈ l) {r : Reach} {base : Nat} {v : Value} {d : DataW H} {p : List MemPlace} (hval : Value.okWide P w r base t v) (h : DataW.Trod enc P w 0 sp held t v d p) :
    ∃ x, TyAV P t x ∧ Rep w (fun b => b < w.heap.size) φ0 h0 x v := by
  obtain ⟨fuel, hf⟩ := h
  obtain ⟨ps, h1, _, h3⟩ := open_pv hl fuel t _ _ ht hf
  have hk := List.all_eq_true.1 hl t ht
  have key : (∀ fs, P.underlying t ≠ some (.struct fs)) → v.cells.toList = [v] → ∃ x, TyAV P t x ∧ Rep w (fun b => b < w.heap.size) φ0 h0 x v := by
    intro hn hc
    rw [hc] at h1
    obtain ⟨q, rfl, hr⟩ := prepL_one (φ := φ0) (h := h0) h1
    exact ⟨_, ⟨_, h3, .inr ⟨hn, q, rfl, rfl⟩⟩, hr⟩
  split at hk
  · rename_i hu
    obtain ⟨b, rfl⟩ := okWide_bool hu hval
    exact key (by simp [hu]) rfl
  · rename_i k hu
    obtain ⟨n, rfl⟩ := okWide_int hu hval
    exact key (by simp [hu]) rfl
  · rename_i hu
    obtain ⟨s, rfl⟩ := okWide_string hu hval
    exact key (by simp [hu]) rfl
  · rename_i e hu
    obtain ⟨a, len, cap, rfl⟩ := okWide_slice hu hval
    exact key (by simp [hu]) rfl
  · rename_i fs hu
    obtain ⟨cs, rfl, _⟩ := okWide_struct hu hval
    exact ⟨_, ⟨_, h3, .inl ⟨⟨fs, hu⟩, rfl⟩⟩, by simpa [Value.cells] using prepL_rep h1⟩
  · simp at hk
theorem reps_nil {W : World} {ro : Nat → Prop} {φ : Nat → Value} {h : Nat → Option Blkd} : ∀ (j : Nat) (x : AV) (v : Value), ([] : List AV)[j]? = some x → ([] : List Value)[j]? = some v → Rep W ro φ h x v := fun j x v h1 => by simp at h1
theorem reps_cons {W : World} {ro : Nat → Prop} {φ : Nat → Value} {h : Nat → Option Blkd} {y : AV} {u : Value} {l : List AV} {vs : List Value} (hy : Rep W ro φ h y u) (hs : ∀ (j : Nat) (x : AV) (v : Value), l[j]? = some x → vs[j]? = some v → Rep W ro φ h x v) :
    ∀ (j : Nat) (x : AV) (v : Value), (y :: l)[j]? = some x → (u :: vs)[j]? = some v → Rep W ro φ h x v := fun j x v h1 h2 => by
  cases j with
  | zero => simp at h1 h2; subst h1 h2; exact hy
  | succ j => exact hs j x v (by simpa using h1) (by simpa using h2)
end
end
section

section
variable {P : Program}
theorem ty_int {t : TypeId} {k : IntKind} {ps : List PV} (h : TyPV P t ps) (hu : P.underlying t = some (.int k)) : ∃ n, ps = [.v (.int k n)] ∧ (Lit.int k n).wf = true := by
  cases h with
  | int ht hw => obtain rfl := TypeDesc.int.inj (Option.some.inj (ht.symm.trans hu)); exact ⟨_, rfl, hw⟩
  | bool ht => simp [ht] at hu
  | str ht hs => simp [ht] at hu
  | sl ht hx => simp [ht] at hu
  | struct ht hl hx => simp [ht] at hu
theorem ty_bool {t : TypeId} {ps : List PV} (h : TyPV P t ps) (hu : P.underlying t = some .bool) : ∃ b, ps = [.v (.bool b)] := by
  cases h with
  | bool ht => exact ⟨_, rfl⟩
  | int ht hw => simp [ht] at hu
  | str ht hs => simp [ht] at hu
  | sl ht hx => simp [ht] at hu
  | struct ht hl hx => simp [ht] at hu
theorem ty_str {t : TypeId} {ps : List PV} (h : TyPV P t ps) (hu : P.underlying t = some .string) : ∃ s : List UInt8, ps = [.v (.string (str s))] ∧ s.length ≤ maxLen := by
  cases h with
  | @str _ s ht hs => exact ⟨s.data.toList, by rw [str_of], by rw [← str_size, str_of]; exact hs⟩
  | bool ht => simp [ht] at hu
  | int ht hw => simp [ht] at hu
  | sl ht hx => simp [ht] at hu
  | struct ht hl hx => simp [ht] at hu
theorem ty_sl {t e : TypeId} {ps : List PV} (h : TyPV P t ps) (hu : P.underlying t = some (.slice e)) : ∃ es, ps = [.sl (P.cellsOf e) es] ∧ ∀ q ∈ es, TyPV P e q := by
  cases h with
  | sl ht hx => obtain rfl := TypeDesc.slice.inj (Option.some.inj (ht.symm.trans hu)); exact ⟨_, rfl, hx⟩
  | bool ht => simp [ht] at hu
  | int ht hw => simp [ht] at hu
  | str ht hs => simp [ht] at hu
  | struct ht hl hx => simp [ht] at hu
theorem list_map {α β : Type} {f : α → β} : ∀ {l : List β}, (∀ y ∈ l, ∃ x, y = f x) → ∃ m : List α, l = m.map f
  | [], _ => ⟨[], rfl⟩
  | y :: l, h => by
    obtain ⟨x, rfl⟩ := h y (by simp)
    obtain ⟨m, rfl⟩ := list_map (l := l) fun z hz => h z (by simp [hz])
    exact ⟨x :: m, rfl⟩
theorem list_mapP {α β : Type} {f : α → β} {p : α → Prop} : ∀ {l : List β}, (∀ y ∈ l, ∃ x, p x ∧ y = f x) → ∃ m : List α, (∀ x ∈ m, p x) ∧ l = m.map f
  | [], _ => ⟨[], by simp, rfl⟩
  | y :: l, h => by
    obtain ⟨x, hx, rfl⟩ := h y (by simp)
    obtain ⟨m, hm, rfl⟩ := list_mapP (l := l) fun z hz => h z (by simp [hz])
    exact ⟨x :: m, fun z hz => by rcases List.mem_cons.1 hz with rfl | hz; exact hx; exact hm z hz, rfl⟩
theorem wf64 {n : Int} (h : (Lit.int .i64 n).wf = true) : -9223372036854775808 ≤ n ∧ n ≤ 9223372036854775807 := by
  simp [Lit.wf, IntKind.min, IntKind.max, IntKind.signed, IntKind.bits] at h
  omega
theorem split5 {α : Type} {l : List α} (h : l.length = 5) : ∃ a b c d e, l = [a, b, c, d, e] := by
  match l, h with
  | [a, b, c, d, e], _ => exact ⟨a, b, c, d, e, rfl⟩
end
theorem fld_of {P : Program} {t : TypeId} {T : TyA} {fs : Array Field} (hT : tyA P t = some T) (hu : P.underlying t = some (.struct fs)) {i o : Nat} {t' : TypeId} (h : T.flds[i]? = some (o, t')) : ∃ f, fs[i]? = some f ∧ f.offset = o ∧ f.type = t' := by
  obtain ⟨d, ii, h1, _, rfl⟩ := tyA_some hT
  obtain rfl := Option.some.inj (hu.symm.trans h1)
  simp only [descFlds, List.getElem?_map] at h
  cases hq : fs.toList[i]? with
  | none => rw [hq] at h; simp at h
  | some f =>
    rw [hq] at h
    simp at h
    exact ⟨f, by simpa using hq, h.1, h.2⟩
theorem cells_of {P : Program} {t : TypeId} {T : TyA} (hT : tyA P t = some T) : P.cellsOf t = T.size := by
  obtain ⟨d, ii, _, h2, rfl⟩ := tyA_some hT
  simp [Program.cellsOf, h2]
theorem ty_strs {ps : List PV} (h : TyPV Tryz.prog 29 ps) : ∃ ks : List (List UInt8), ps = [.sl 1 (ks.map sPV)] := by
  obtain ⟨es, rfl, hx⟩ := ty_sl h Tryz.underlying29
  rw [cells_of tyA_9]
  obtain ⟨ks, rfl⟩ := list_map (f := sPV) fun q hq => by
    obtain ⟨s, rfl, _⟩ := ty_str (hx q hq) Tryz.underlying9
    exact ⟨s, rfl⟩
  exact ⟨ks, rfl⟩
theorem ty_fields {P : Program} {t : TypeId} {T : TyA} {ps : List PV} (h : TyPV P t ps) (hT : tyA P t = some T) (hk : T.kind = 3) :
    ps.length = T.size ∧ ∀ (i o : Nat) (t' : TypeId), T.flds[i]? = some (o, t') → ∀ T', tyA P t' = some T' → TyPV P t' ((ps.drop o).take T'.size) := by
  obtain ⟨d, ii, h1, h2, h3⟩ := tyA_some hT
  obtain ⟨fs, rfl⟩ := kind_struct (d := d) (by rw [h3] at hk; exact hk)
  cases h with
  | struct ht hlen hx =>
    obtain rfl := TypeDesc.struct.inj (Option.some.inj (ht.symm.trans h1))
    refine ⟨by rw [← cells_of hT]; exact hlen, fun i o t' h T' hT' => ?_⟩
    obtain ⟨f, hf, rfl, rfl⟩ := fld_of hT h1 h
    rw [← cells_of hT']
    exact hx i f hf
  | bool ht => simp [ht] at h1
  | int ht hw => simp [ht] at h1
  | str ht hs => simp [ht] at h1
  | sl ht hx => simp [ht] at h1
theorem ty_json : ∀ {t : TypeId} {ps : List PV}, TyPV Tryz.prog t ps → (t = 36 → ∃ j : JT, j.inr ∧ ps = j.cells) ∧ (t = 34 → ∃ xs : List JT, JT.inrL xs ∧ ps = [.sl 5 (xs.map JT.cells)]) := by
  intro t ps h
  induction h with
  | bool ht => exact ⟨fun e => by subst e; simp [Tryz.underlying36] at ht, fun e => by subst e; simp [Tryz.underlying34] at ht⟩
  | int ht hw => exact ⟨fun e => by subst e; simp [Tryz.underlying36] at ht, fun e => by subst e; simp [Tryz.underlying34] at ht⟩
  | str ht hs => exact ⟨fun e => by subst e; simp [Tryz.underlying36] at ht, fun e => by subst e; simp [Tryz.underlying34] at ht⟩
  | @sl t e es ht hx ih =>
    refine ⟨fun e => by subst e; simp [Tryz.underlying36] at ht, fun e => ?_⟩
    subst e
    obtain rfl := TypeDesc.slice.inj (Option.some.inj (ht.symm.trans Tryz.underlying34))
    obtain ⟨xs, hxs, rfl⟩ := list_mapP (f := JT.cells) (p := JT.inr) fun q hq => (ih q hq).1 rfl
    exact ⟨xs, inrL_of hxs, by rw [cells_of tyA_36]⟩
  | @struct t fs ps ht hl hx ih =>
    refine ⟨fun e => ?_, fun e => by subst e; simp [Tryz.underlying34] at ht⟩
    subst e
    have hT := tyA_36
    obtain ⟨a0, a1, a2, a3, a4, rfl⟩ := split5 (hl.trans (cells_of hT))
    obtain ⟨_, hf⟩ := ty_fields (.struct ht hl hx) hT rfl
    obtain ⟨k, h0, _⟩ := ty_int (hf 0 _ _ rfl _ tyA_3) Tryz.underlying3
    obtain ⟨n, h1, hw⟩ := ty_int (hf 1 _ _ rfl _ tyA_2) Tryz.underlying2
    obtain ⟨s, h2, _⟩ := ty_str (hf 2 _ _ rfl _ tyA_9) Tryz.underlying9
    obtain ⟨ks, h4⟩ := ty_strs (hf 4 _ _ rfl _ tyA_29)
    obtain ⟨f, g1, g2, g3⟩ := fld_of hT ht (i := 3) rfl
    obtain ⟨xs, hxs, h3⟩ := (ih 3 f g1).2 g3
    rw [g2, g3, cells_of tyA_34] at h3
    simp at h0 h1 h2 h3 h4
    subst h0 h1 h2 h3 h4
    exact ⟨.mk k n s ks xs, ⟨wf64 hw, hxs⟩, (cells_mk _ _ _ _ _).symm⟩
theorem arg_json {x : AV} (h : TyAV Tryz.prog 36 x) : ∃ j : JT, j.inr ∧ x = j.av := by
  obtain ⟨ps, h1, h2⟩ := h
  obtain ⟨j, hj, rfl⟩ := (ty_json h1).1 rfl
  rcases h2 with ⟨_, rfl⟩ | ⟨h2, _⟩
  · exact ⟨j, hj, rfl⟩
  · exact absurd Tryz.underlying36 (h2 _)
end
end Go.Proofs.YtkaogeogjjcdhaaGreatDoor
