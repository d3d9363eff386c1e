/- Texts that lead to the law DfltFields, joined. -/
import Derived.Test.YtllnlmchjljhlaaGreatDoorPkDfltFieldsE
import Derived.Test.YtllnlmchjljhlaaGreatDoorPkDfltFieldsC
import Derived.Test.YtllnlmchjljhlaaGreatDoorPkDfltFieldsD
namespace Go.Proofs.YtllnlmchjljhlaaGreatDoor
open Go.RowKit
set_option linter.unusedVariables false
set_option linter.unusedSimpArgs false
section
attribute [local go_sem] opx opE ev okx gcond bnd okO AV.get AV.okb cAV upd_at putd_some putd_none wrs_nil wrs_cons look_nil look_cons st argT_at bpick_and bpick_or bpick_true bpick_false binV binI binS binVOk binOk isShift binSOk unV unVOk loadV loadP cellsA zeroA Blkd.len setE grown moreA moreR moreOk eqRes pv fillA fillE putSeg AV.cellish AV.pureL AV.pureB lentL_is ex_some AV.ren AV.renL renL_c Blkd.ren rho wrM renN lentOk rhoE keepM endOk tyA_2 tyA_3 tyA_4 tyA_5 tyA_6 tyA_7 tyA_8 tyA_9 tyA_10 tyA_11 tyA_12 tyA_13 tyA_14 tyA_15 tyA_16 tyA_17 tyA_18 tyA_19 tyA_21 tyA_22 tyA_23 tyA_24 tyA_29 tyA_30 tyA_31 tyA_32 tyA_33 tyA_34 tyA_35 tyA_36 tyA_37 tyA_38 tyA_39 tyA_40 tyA_41 tyA_42 tyA_43 tyA_49 tyA_85 tyA_89 tyA_99 tyA_100 tyA_101 tyA_105 tyA_106 tyA_107 tyA_108 tyA_109 tyA_111 tyA_112 tyA_113 tyA_114 tyA_123 tyA_126 tyA_127 tyA_128 tyA_129 tyA_130 tyA_153 tyA_163 tyA_164 tyA_165 tyA_179 tyA_185 tyA_191 tyA_192 tyA_193 tyA_194 tyA_195 tyA_196 tyA_209 tyA_213 tyA_214 tyA_215 tyA_241 tyA_248 tyA_274 tyA_275 tyA_276 tyA_292 tyA_294 tyA_302 tyA_307 tyA_315 tyA_319 tyA_321 tyA_324 tyA_325 tyA_326 tyA_327 tyA_328 tyA_329 tyA_330 tyA_332 tyA_333 Option.map_some Option.map_none Option.getD_some Option.getD_none Option.bind_some Option.bind_none List.getElem?_cons_zero List.getElem?_cons_succ List.getElem?_nil List.getElem?_toArray List.length_cons List.length_nil List.length_map List.forall_mem_map List.map_cons List.map_nil List.drop_zero List.drop_succ_cons List.drop_nil List.take_zero List.take_succ_cons List.take_nil List.mem_cons List.not_mem_nil or_false forall_eq_or_imp forall_eq List.set_cons_zero List.set_cons_succ List.cons_append List.nil_append List.append_nil List.foldl_cons List.foldl_nil List.replicate_succ List.replicate_zero List.all_cons List.all_nil if_true if_false Bool.false_eq_true ne_eq not_false_eq_true not_true_eq_false true_and and_true and_self true_implies imp_self implies_true forall_const beq_self_eq_true Bool.and_true Bool.true_and Bool.and_false Bool.false_and Bool.or_true Bool.true_or Bool.or_false Bool.false_or Bool.not_true Bool.not_false Bool.not_eq_eq_eq_not intKindOf Value.oneCell' Int.toNat_natCast beq_true beq_false Bool.not_eq_true false_implies false_or true_or or_true Nat.zero_add Nat.add_zero decide_true decide_false Int.cast_ofNat_Int Int.toNat_zero Int.toNat_one eq_self

theorem frz_vi {K : Nat → Bool} {h : Nat → Option Blkd} (k : Int) (xs : List VT) : Frz K h (.agg [.c (.v (.int .i64 k)), .c (.v (.int .i64 0)), .c (.v (.int .u64 0)), .c (.v (.slice none 0 0)), .c (.sl 6 (xs.map VT.cells)), .c (.v (.slice none 0 0))]) (VT.mk k 0 0 [] xs []).av := by
  rw [VT.av_eq, vcells_mk]
  exact Frz.aggL (.cons (.c _) (.cons (.c _) (.cons (.c _) (.cons (.nil 1) (.cons (.c _) (.cons (.nil 1) .nil))))))
theorem frz_vk {K : Nat → Bool} {h : Nat → Option Blkd} (k : Int) (xs : List VT) (ks : List (List UInt8)) : Frz K h (.agg [.c (.v (.int .i64 k)), .c (.v (.int .i64 0)), .c (.v (.int .u64 0)), .c (.v (.slice none 0 0)), .c (.sl 6 (xs.map VT.cells)), .c (.sl 1 (ks.map sPV))]) (VT.mk k 0 0 [] xs ks).av := by
  rw [VT.av_eq, vcells_mk]
  exact Frz.aggL (.cons (.c _) (.cons (.c _) (.cons (.c _) (.cons (.nil 1) (.cons (.c _) (.cons (.c _) .nil))))))
set_option maxRecDepth 100000 in
set_option maxHeartbeats 3200000 in
theorem say_much (ns : List NT) (r : Int) (q : Nat) (n : NT) (hn : ns[q]? = some n) (j : JT) (c : Nat) (hc : c ≤ 1000) (dep : Int) (h : 1000 < c + 1) :
    ToldM Tryz.prog 66 [.ref 1000000 1 0 0, .c (.v (.int .i64 (q : Int))), j.av, .c (.v (.int .i64 dep))] [xSB ns r c] [some (xSB ns r (c + 1))] (.tup [(vz 0).av, .c (.v (.bool false))]) := by
  have hql := (List.getElem?_eq_some_iff.1 hn).1
  have hxp : (ns.map NT.cells)[q]? = some n.cells := by rw [List.getElem?_map, hn]; rfl
  have hw : IntKind.i64.wrap ((c : Int) + 1) = ((c + 1 : Nat) : Int) := by rw [wrap64_id (by omega) (by omega)]; rfl
  have hK := compK_told n.kind
  have e1 : decide (((c + 1 : Nat) : Int) > 1000) = true := by simp; omega
  obtain ⟨B, hB⟩ : ∃ B, B = compK n.kind := ⟨_, rfl⟩
  obtain ⟨D, hD⟩ : ∃ D, D = decide (dep ≥ 20) := ⟨_, rfl⟩
  rw [← hB] at hK
  rw [JT.av_eq, VT.av_eq]
  generalize c + 1 = c1 at *
  cases B <;> cases D
  all_goals
    unfold xSB
    refine VC.toldM ent_66 [] Tryz.func66 rfl Tryz.ntmps66 (by simp) (by simp only [ScM, zOk, inL, eq_self, used_is, sc_any, sc_c, sc_pp, sc_ref, sc_row, sc_agg, sc_tup, sc_fn, ScL, some_imp, List.forall_mem_map, Nat.le_refl, go_sem, simprocAttr]) (by simp only [ScM, zOk, inL, eq_self, used_is, sc_any, sc_c, sc_pp, sc_ref, sc_row, sc_agg, sc_tup, sc_fn, ScL, some_imp, List.forall_mem_map, Nat.le_refl, go_sem, simprocAttr]) (by simp only [ScM, zOk, inL, eq_self, used_is, sc_any, sc_c, sc_pp, sc_ref, sc_row, sc_agg, sc_tup, sc_fn, ScL, some_imp, List.forall_mem_map, Nat.le_refl, go_sem, simprocAttr]) (by simp only [ScM, zOk, inL, eq_self, used_is, sc_any, sc_c, sc_pp, sc_ref, sc_row, sc_agg, sc_tup, sc_fn, ScL, some_imp, List.forall_mem_map, Nat.le_refl, go_sem, simprocAttr]) (by simp) fun hb hbL => ?_
    clear hb hbL
    refine walkGF (And.intro hxp (And.intro @ncells_mk hw)) ?_
    refine walkC (hK) ?_
    refine walkBF (And.intro hxp (And.intro @ncells_mk (And.intro hw (And.intro e1 hD.symm)))) ?_
    refine ⟨by first | exact .inr rfl | exact .inl rfl, ?_⟩; rw [Tryz.results66]; simp only [resOk, resV, go_sem, simprocAttr]
    exact ⟨frz_v _ _ _, .c _⟩
set_option maxRecDepth 100000 in
set_option maxHeartbeats 3200000 in
theorem say_deep (ns : List NT) (r : Int) (q : Nat) (n : NT) (hn : ns[q]? = some n) (j : JT) (c : Nat) (hc : c ≤ 1000) (dep : Int) (hk : compK n.kind = true) (hd : 20 ≤ dep) :
    ToldM Tryz.prog 66 [.ref 1000000 1 0 0, .c (.v (.int .i64 (q : Int))), j.av, .c (.v (.int .i64 dep))] [xSB ns r c] [some (xSB ns r (c + 1))] (.tup [(vz 0).av, .c (.v (.bool false))]) := by
  have hql := (List.getElem?_eq_some_iff.1 hn).1
  have hxp : (ns.map NT.cells)[q]? = some n.cells := by rw [List.getElem?_map, hn]; rfl
  have hw : IntKind.i64.wrap ((c : Int) + 1) = ((c + 1 : Nat) : Int) := by rw [wrap64_id (by omega) (by omega)]; rfl
  have hK := compK_told n.kind
  rw [hk] at hK
  have hD : decide (dep ≥ 20) = true := by simpa using hd
  rw [JT.av_eq, VT.av_eq]
  generalize c + 1 = c1 at *
  unfold xSB
  refine VC.toldM ent_66 [] Tryz.func66 rfl Tryz.ntmps66 (by simp) (by simp only [ScM, zOk, inL, eq_self, used_is, sc_any, sc_c, sc_pp, sc_ref, sc_row, sc_agg, sc_tup, sc_fn, ScL, some_imp, List.forall_mem_map, Nat.le_refl, go_sem, simprocAttr]) (by simp only [ScM, zOk, inL, eq_self, used_is, sc_any, sc_c, sc_pp, sc_ref, sc_row, sc_agg, sc_tup, sc_fn, ScL, some_imp, List.forall_mem_map, Nat.le_refl, go_sem, simprocAttr]) (by simp only [ScM, zOk, inL, eq_self, used_is, sc_any, sc_c, sc_pp, sc_ref, sc_row, sc_agg, sc_tup, sc_fn, ScL, some_imp, List.forall_mem_map, Nat.le_refl, go_sem, simprocAttr]) (by simp only [ScM, zOk, inL, eq_self, used_is, sc_any, sc_c, sc_pp, sc_ref, sc_row, sc_agg, sc_tup, sc_fn, ScL, some_imp, List.forall_mem_map, Nat.le_refl, go_sem, simprocAttr]) (by simp) fun hb hbL => ?_
  clear hb hbL
  refine walkGF (And.intro hxp (And.intro @ncells_mk hw)) ?_
  refine walkC (hK) ?_
  refine walkBF (And.intro hxp (And.intro @ncells_mk (And.intro hw hD))) ?_
  refine ⟨by first | exact .inr rfl | exact .inl rfl, ?_⟩; rw [Tryz.results66]; simp only [resOk, resV, go_sem, simprocAttr]
  exact ⟨frz_v _ _ _, .c _⟩
set_option maxRecDepth 100000 in
set_option maxHeartbeats 3200000 in
theorem say_1 (ns : List NT) (r : Int) (q : Nat) (n : NT) (hn : ns[q]? = some n) (j : JT) (c : Nat) (hc : c ≤ 1000) (dep : Int) (hk : n.kind = 1) (h : ¬ 1000 < c + 1) :
    ToldM Tryz.prog 66 [.ref 1000000 1 0 0, .c (.v (.int .i64 (q : Int))), j.av, .c (.v (.int .i64 dep))] [xSB ns r c] [some (xSB ns r (c + 1))] (.tup [(vz 1).av, .c (.v (.bool (j.kd == 1)))]) := by
  have hql := (List.getElem?_eq_some_iff.1 hn).1
  have hxp : (ns.map NT.cells)[q]? = some n.cells := by rw [List.getElem?_map, hn]; rfl
  have hw : IntKind.i64.wrap ((c : Int) + 1) = ((c + 1 : Nat) : Int) := by rw [wrap64_id (by omega) (by omega)]; rfl
  have hK := compK_told 1
  rw [show compK 1 = false from rfl] at hK
  have e1 : decide (((c + 1 : Nat) : Int) > 1000) = false := by simp; omega
  generalize c + 1 = c1 at *
  rw [JT.av_eq, VT.av_eq]
  unfold xSB
  refine VC.toldM ent_66 [] Tryz.func66 rfl Tryz.ntmps66 (by simp) (by simp only [ScM, zOk, inL, eq_self, used_is, sc_any, sc_c, sc_pp, sc_ref, sc_row, sc_agg, sc_tup, sc_fn, ScL, some_imp, List.forall_mem_map, Nat.le_refl, go_sem, simprocAttr]) (by simp only [ScM, zOk, inL, eq_self, used_is, sc_any, sc_c, sc_pp, sc_ref, sc_row, sc_agg, sc_tup, sc_fn, ScL, some_imp, List.forall_mem_map, Nat.le_refl, go_sem, simprocAttr]) (by simp only [ScM, zOk, inL, eq_self, used_is, sc_any, sc_c, sc_pp, sc_ref, sc_row, sc_agg, sc_tup, sc_fn, ScL, some_imp, List.forall_mem_map, Nat.le_refl, go_sem, simprocAttr]) (by simp only [ScM, zOk, inL, eq_self, used_is, sc_any, sc_c, sc_pp, sc_ref, sc_row, sc_agg, sc_tup, sc_fn, ScL, some_imp, List.forall_mem_map, Nat.le_refl, go_sem, simprocAttr]) (by simp) fun hb hbL => ?_
  clear hb hbL
  refine walkGF (And.intro hxp (And.intro @ncells_mk (And.intro hw hk))) ?_
  refine walkC (hK) ?_
  refine walkBF (And.intro hxp (And.intro @ncells_mk (And.intro hw (And.intro hk (And.intro e1 @jcells_acc))))) ?_
  refine ⟨by first | exact .inr rfl | exact .inl rfl, ?_⟩; rw [Tryz.results66]; simp only [resOk, resV, go_sem, simprocAttr]
  exact ⟨frz_v _ _ _, .c _⟩
set_option maxRecDepth 100000 in
set_option maxHeartbeats 3200000 in
theorem say_2 (ns : List NT) (r : Int) (q : Nat) (n : NT) (hn : ns[q]? = some n) (j : JT) (c : Nat) (hc : c ≤ 1000) (dep : Int) (hk : n.kind = 2) (h : ¬ 1000 < c + 1) :
    ToldM Tryz.prog 66 [.ref 1000000 1 0 0, .c (.v (.int .i64 (q : Int))), j.av, .c (.v (.int .i64 dep))] [xSB ns r c] [some (xSB ns r (c + 1))] (.tup [(VT.mk 2 j.num 0 [] [] []).av, .c (.v (.bool (j.kd == 2)))]) := by
  have hql := (List.getElem?_eq_some_iff.1 hn).1
  have hxp : (ns.map NT.cells)[q]? = some n.cells := by rw [List.getElem?_map, hn]; rfl
  have hw : IntKind.i64.wrap ((c : Int) + 1) = ((c + 1 : Nat) : Int) := by rw [wrap64_id (by omega) (by omega)]; rfl
  have hK := compK_told 2
  rw [show compK 2 = false from rfl] at hK
  have e1 : decide (((c + 1 : Nat) : Int) > 1000) = false := by simp; omega
  generalize c + 1 = c1 at *
  rw [JT.av_eq, VT.av_eq]
  unfold xSB
  refine VC.toldM ent_66 [] Tryz.func66 rfl Tryz.ntmps66 (by simp) (by simp only [ScM, zOk, inL, eq_self, used_is, sc_any, sc_c, sc_pp, sc_ref, sc_row, sc_agg, sc_tup, sc_fn, ScL, some_imp, List.forall_mem_map, Nat.le_refl, go_sem, simprocAttr]) (by simp only [ScM, zOk, inL, eq_self, used_is, sc_any, sc_c, sc_pp, sc_ref, sc_row, sc_agg, sc_tup, sc_fn, ScL, some_imp, List.forall_mem_map, Nat.le_refl, go_sem, simprocAttr]) (by simp only [ScM, zOk, inL, eq_self, used_is, sc_any, sc_c, sc_pp, sc_ref, sc_row, sc_agg, sc_tup, sc_fn, ScL, some_imp, List.forall_mem_map, Nat.le_refl, go_sem, simprocAttr]) (by simp only [ScM, zOk, inL, eq_self, used_is, sc_any, sc_c, sc_pp, sc_ref, sc_row, sc_agg, sc_tup, sc_fn, ScL, some_imp, List.forall_mem_map, Nat.le_refl, go_sem, simprocAttr]) (by simp) fun hb hbL => ?_
  clear hb hbL
  refine walkGF (And.intro hxp (And.intro @ncells_mk (And.intro hw hk))) ?_
  refine walkC (hK) ?_
  refine walkBF (And.intro hxp (And.intro @ncells_mk (And.intro hw (And.intro hk (And.intro e1 @jcells_acc))))) ?_
  refine ⟨by first | exact .inr rfl | exact .inl rfl, ?_⟩; rw [Tryz.results66]; simp only [resOk, resV, go_sem, simprocAttr]
  exact ⟨frz_v _ _ _, .c _⟩
set_option maxRecDepth 100000 in
set_option maxHeartbeats 3200000 in
theorem say_num (ns : List NT) (r : Int) (q : Nat) (n : NT) (hn : ns[q]? = some n) (j : JT) (c : Nat) (hc : c ≤ 1000) (dep : Int) (hk : n.kind = 3 ∨ n.kind = 4 ∨ n.kind = 5 ∨ n.kind = 6) (h : ¬ 1000 < c + 1) (hj : JOk j) :
    ToldM Tryz.prog 66 [.ref 1000000 1 0 0, .c (.v (.int .i64 (q : Int))), j.av, .c (.v (.int .i64 dep))] [xSB ns r c] [some (xSB ns r (c + 1))] (.tup [(numS n.kind j).1.av, .c (.v (.bool (numS n.kind j).2))]) := by
  have hql := (List.getElem?_eq_some_iff.1 hn).1
  have hxp : (ns.map NT.cells)[q]? = some n.cells := by rw [List.getElem?_map, hn]; rfl
  have hw : IntKind.i64.wrap ((c : Int) + 1) = ((c + 1 : Nat) : Int) := by rw [wrap64_id (by omega) (by omega)]; rfl
  have hK := compK_told n.kind
  have hcm : compK n.kind = false := by
    rcases hk with hk | hk | hk | hk <;> rw [hk] <;> rfl
  rw [hcm] at hK
  have e1 : decide (((c + 1 : Nat) : Int) > 1000) = false := by simp; omega
  generalize c + 1 = c1 at *
  have hNum := number13_told n.kind hk j hj.2.1 hj.1
  generalize (numS n.kind j).1 = v at *
  generalize (numS n.kind j).2 = b at *
  rw [JT.av_eq] at hNum ⊢
  rw [VT.av_eq] at hNum ⊢
  rcases hk with hk | hk | hk | hk
  all_goals
    rw [hk] at hNum hK
    unfold xSB
    refine VC.toldM ent_66 [] Tryz.func66 rfl Tryz.ntmps66 (by simp) (by simp only [ScM, zOk, inL, eq_self, used_is, sc_any, sc_c, sc_pp, sc_ref, sc_row, sc_agg, sc_tup, sc_fn, ScL, some_imp, List.forall_mem_map, Nat.le_refl, go_sem, simprocAttr]) (by simp only [ScM, zOk, inL, eq_self, used_is, sc_any, sc_c, sc_pp, sc_ref, sc_row, sc_agg, sc_tup, sc_fn, ScL, some_imp, List.forall_mem_map, Nat.le_refl, go_sem, simprocAttr]) (by simp only [ScM, zOk, inL, eq_self, used_is, sc_any, sc_c, sc_pp, sc_ref, sc_row, sc_agg, sc_tup, sc_fn, ScL, some_imp, List.forall_mem_map, Nat.le_refl, go_sem, simprocAttr]) (by simp only [ScM, zOk, inL, eq_self, used_is, sc_any, sc_c, sc_pp, sc_ref, sc_row, sc_agg, sc_tup, sc_fn, ScL, some_imp, List.forall_mem_map, Nat.le_refl, go_sem, simprocAttr]) (by simp) fun hb hbL => ?_
    clear hb hbL
    refine walkGF (And.intro hxp (And.intro @ncells_mk (And.intro hw hk))) ?_
    refine walkC (hK) ?_
    refine walkBF (And.intro hxp (And.intro @ncells_mk (And.intro hw (And.intro hk (And.intro e1 (And.intro @len_cells (And.intro @take_cells @take_cellsC))))))) ?_
    refine walkCF (@pureL_c) (hNum) ?_
    refine walkBF (And.intro @len_vcells (And.intro @take_vcells @take_vcellsC)) ?_
    refine ⟨by first | exact .inr rfl | exact .inl rfl, ?_⟩; rw [Tryz.results66]; simp only [len_vcells, take_vcellsC, resOk, resV, go_sem, simprocAttr]
    exact ⟨Frz.cs _ _, .c _⟩
set_option maxRecDepth 100000 in
set_option maxHeartbeats 3200000 in
theorem say_10 (ns : List NT) (r : Int) (q : Nat) (n : NT) (hn : ns[q]? = some n) (j : JT) (c : Nat) (hc : c ≤ 1000) (dep : Int) (hk : n.kind = 10) (h : ¬ 1000 < c + 1) :
    ToldM Tryz.prog 66 [.ref 1000000 1 0 0, .c (.v (.int .i64 (q : Int))), j.av, .c (.v (.int .i64 dep))] [xSB ns r c] [some (xSB ns r (c + 1))] (.tup [(VT.mk 10 (idxS j.txt n.symbols) 0 [] [] []).av, .c (.v (.bool (j.kd == 4 && decide (0 ≤ idxS j.txt n.symbols))))]) := by
  have hql := (List.getElem?_eq_some_iff.1 hn).1
  have hxp : (ns.map NT.cells)[q]? = some n.cells := by rw [List.getElem?_map, hn]; rfl
  have hw : IntKind.i64.wrap ((c : Int) + 1) = ((c + 1 : Nat) : Int) := by rw [wrap64_id (by omega) (by omega)]; rfl
  have hK := compK_told 10
  rw [show compK 10 = false from rfl] at hK
  have e1 : decide (((c + 1 : Nat) : Int) > 1000) = false := by simp; omega
  generalize c + 1 = c1 at *
  have hI := sindex_told n.symbols j.txt
  rw [JT.av_eq, VT.av_eq]
  obtain ⟨b1, h1⟩ : ∃ b : Bool, b = (j.kd == 4) := ⟨_, rfl⟩
  obtain ⟨b2, h2⟩ : ∃ b : Bool, b = decide (idxS j.txt n.symbols ≥ 0) := ⟨_, rfl⟩
  rw [show decide (0 ≤ idxS j.txt n.symbols) = decide (idxS j.txt n.symbols ≥ 0) from rfl, ← h1, ← h2]
  generalize idxS j.txt n.symbols = ix at *
  cases b1 <;> cases b2
  all_goals
    unfold xSB
    refine VC.toldM ent_66 [] Tryz.func66 rfl Tryz.ntmps66 (by simp) (by simp only [ScM, zOk, inL, eq_self, used_is, sc_any, sc_c, sc_pp, sc_ref, sc_row, sc_agg, sc_tup, sc_fn, ScL, some_imp, List.forall_mem_map, Nat.le_refl, go_sem, simprocAttr]) (by simp only [ScM, zOk, inL, eq_self, used_is, sc_any, sc_c, sc_pp, sc_ref, sc_row, sc_agg, sc_tup, sc_fn, ScL, some_imp, List.forall_mem_map, Nat.le_refl, go_sem, simprocAttr]) (by simp only [ScM, zOk, inL, eq_self, used_is, sc_any, sc_c, sc_pp, sc_ref, sc_row, sc_agg, sc_tup, sc_fn, ScL, some_imp, List.forall_mem_map, Nat.le_refl, go_sem, simprocAttr]) (by simp only [ScM, zOk, inL, eq_self, used_is, sc_any, sc_c, sc_pp, sc_ref, sc_row, sc_agg, sc_tup, sc_fn, ScL, some_imp, List.forall_mem_map, Nat.le_refl, go_sem, simprocAttr]) (by simp) fun hb hbL => ?_
    clear hb hbL
    refine walkGF (And.intro hxp (And.intro @ncells_mk (And.intro hw hk))) ?_
    refine walkC (hK) ?_
    refine walkBF (And.intro hxp (And.intro @ncells_mk (And.intro hw (And.intro hk (And.intro e1 @jcells_acc))))) ?_
    refine walkC (hI) ?_
    refine walkBF (And.intro h1.symm (And.intro h2.symm @jcells_acc)) ?_
    refine ⟨by first | exact .inr rfl | exact .inl rfl, ?_⟩; rw [Tryz.results66]; simp only [resOk, resV, go_sem, simprocAttr]
    exact ⟨frz_v _ _ _, .c _⟩
set_option maxRecDepth 100000 in
set_option maxHeartbeats 3200000 in
theorem say_text (ns : List NT) (r : Int) (q : Nat) (n : NT) (hn : ns[q]? = some n) (j : JT) (c : Nat) (hc : c ≤ 1000) (dep : Int) (hk : n.kind = 7 ∨ n.kind = 8 ∨ n.kind = 14) (h : ¬ 1000 < c + 1) (ht : j.txt.length ≤ 1000000) :
    ToldM Tryz.prog 66 [.ref 1000000 1 0 0, .c (.v (.int .i64 (q : Int))), j.av, .c (.v (.int .i64 dep))] [xSB ns r c] [some (xSB ns r (c + 1))] (.tup [(textS n j).1.av, .c (.v (.bool (textS n j).2))]) := by
  have hql := (List.getElem?_eq_some_iff.1 hn).1
  have hxp : (ns.map NT.cells)[q]? = some n.cells := by rw [List.getElem?_map, hn]; rfl
  have hw : IntKind.i64.wrap ((c : Int) + 1) = ((c + 1 : Nat) : Int) := by rw [wrap64_id (by omega) (by omega)]; rfl
  have hK := compK_told n.kind
  have hcm : compK n.kind = false := by
    rcases hk with hk | hk | hk <;> rw [hk] <;> rfl
  rw [hcm] at hK
  have e1 : decide (((c + 1 : Nat) : Int) > 1000) = false := by simp; omega
  generalize c + 1 = c1 at *
  have hT := text13_told n (by omega) j ht
  generalize (textS n j).1 = v at *
  generalize (textS n j).2 = b at *
  rw [JT.av_eq] at hT ⊢
  rw [VT.av_eq] at hT ⊢
  rw [NT.av_eq, ncells_mk] at hT
  rcases hk with hk | hk | hk
  all_goals
    rw [hk] at hT hK
    unfold xSB
    refine VC.toldM ent_66 [] Tryz.func66 rfl Tryz.ntmps66 (by simp) (by simp only [ScM, zOk, inL, eq_self, used_is, sc_any, sc_c, sc_pp, sc_ref, sc_row, sc_agg, sc_tup, sc_fn, ScL, some_imp, List.forall_mem_map, Nat.le_refl, go_sem, simprocAttr]) (by simp only [ScM, zOk, inL, eq_self, used_is, sc_any, sc_c, sc_pp, sc_ref, sc_row, sc_agg, sc_tup, sc_fn, ScL, some_imp, List.forall_mem_map, Nat.le_refl, go_sem, simprocAttr]) (by simp only [ScM, zOk, inL, eq_self, used_is, sc_any, sc_c, sc_pp, sc_ref, sc_row, sc_agg, sc_tup, sc_fn, ScL, some_imp, List.forall_mem_map, Nat.le_refl, go_sem, simprocAttr]) (by simp only [ScM, zOk, inL, eq_self, used_is, sc_any, sc_c, sc_pp, sc_ref, sc_row, sc_agg, sc_tup, sc_fn, ScL, some_imp, List.forall_mem_map, Nat.le_refl, go_sem, simprocAttr]) (by simp) fun hb hbL => ?_
    clear hb hbL
    refine walkGF (And.intro hxp (And.intro @ncells_mk (And.intro hw hk))) ?_
    refine walkC (hK) ?_
    refine walkBF (And.intro hxp (And.intro @ncells_mk (And.intro hw (And.intro hk (And.intro e1 (And.intro @len_cells (And.intro @take_cells @take_cellsC))))))) ?_
    refine walkCF (@pureL_c) (hT) ?_
    refine walkBF (And.intro @len_vcells (And.intro @take_vcells @take_vcellsC)) ?_
    refine ⟨by first | exact .inr rfl | exact .inl rfl, ?_⟩; rw [Tryz.results66]; simp only [len_vcells, take_vcellsC, resOk, resV, go_sem, simprocAttr]
    exact ⟨Frz.cs _ _, .c _⟩
set_option maxRecDepth 100000 in
set_option maxHeartbeats 3200000 in
theorem say_9 (ns : List NT) (r : Int) (q : Nat) (n : NT) (hn : ns[q]? = some n) (j : JT) (c : Nat) (hc : c ≤ 1000) (dep : Int) (hk : n.kind = 9) (h : ¬ 1000 < c + 1) (hd : dep < 20) (hd0 : 0 ≤ dep) (f : Say) (hT : SayT ns r f (dep + 1)) (hC : SayC f) (hj : JOk j) (hns : n.sm 1000000) (hkid : ∀ fd ∈ n.fields, 0 ≤ fd.type ∧ fd.type < (ns.length : Int)) (hdf : ∀ fd ∈ n.fields, fd.has = true → JOk fd.dflt) :
    ToldM Tryz.prog 66 [.ref 1000000 1 0 0, .c (.v (.int .i64 (q : Int))), j.av, .c (.v (.int .i64 dep))] [xSB ns r c] [some (xSB ns r (recF f j n.fields (c + 1)).2)] (.tup [(VT.mk 9 0 0 [] ((recF f j n.fields (c + 1)).1.getD []) []).av, .c (.v (.bool ((recF f j n.fields (c + 1)).1.isSome && j.kd == 6)))]) := by
  have hql := (List.getElem?_eq_some_iff.1 hn).1
  have hxp : (ns.map NT.cells)[q]? = some n.cells := by rw [List.getElem?_map, hn]; rfl
  have hw : IntKind.i64.wrap ((c : Int) + 1) = ((c + 1 : Nat) : Int) := by rw [wrap64_id (by omega) (by omega)]; rfl
  have hK := compK_told 9
  rw [show compK 9 = true from rfl] at hK
  have e1 : decide (((c + 1 : Nat) : Int) > 1000) = false := by simp; omega
  have hD : decide (dep ≥ 20) = false := by simp; omega
  have hw2 : IntKind.i64.wrap (dep + 1) = dep + 1 := wrap64_id (by omega) (by omega)
  have hc1 : c + 1 ≤ 1000 := by omega
  have hR := record13_told ns r f (dep + 1) hT hC n hns hkid hdf j hj (c + 1) hc1
  generalize (recF f j n.fields (c + 1)).1.getD [] = vs at *
  generalize ((recF f j n.fields (c + 1)).1.isSome && j.kd == 6) = b at *
  generalize (recF f j n.fields (c + 1)).2 = c2 at *
  generalize c + 1 = c1 at *
  rw [JT.av_eq] at hR ⊢
  rw [NT.av_eq, ncells_mk, hk] at hR
  rw [VT.av_eq]
  unfold xSB at hR
  unfold xSB
  refine VC.toldM ent_66 [] Tryz.func66 rfl Tryz.ntmps66 (by simp) (by simp only [ScM, zOk, inL, eq_self, used_is, sc_any, sc_c, sc_pp, sc_ref, sc_row, sc_agg, sc_tup, sc_fn, ScL, some_imp, List.forall_mem_map, Nat.le_refl, go_sem, simprocAttr]) (by simp only [ScM, zOk, inL, eq_self, used_is, sc_any, sc_c, sc_pp, sc_ref, sc_row, sc_agg, sc_tup, sc_fn, ScL, some_imp, List.forall_mem_map, Nat.le_refl, go_sem, simprocAttr]) (by simp only [ScM, zOk, inL, eq_self, used_is, sc_any, sc_c, sc_pp, sc_ref, sc_row, sc_agg, sc_tup, sc_fn, ScL, some_imp, List.forall_mem_map, Nat.le_refl, go_sem, simprocAttr]) (by simp only [ScM, zOk, inL, eq_self, used_is, sc_any, sc_c, sc_pp, sc_ref, sc_row, sc_agg, sc_tup, sc_fn, ScL, some_imp, List.forall_mem_map, Nat.le_refl, go_sem, simprocAttr]) (by simp) fun hb hbL => ?_
  clear hb hbL
  refine walkGF (And.intro hxp (And.intro @ncells_mk (And.intro hw hk))) ?_
  refine walkC (hK) ?_
  refine walkBF (And.intro hxp (And.intro @ncells_mk (And.intro hw (And.intro hk (And.intro hD (And.intro e1 (And.intro hw2 (And.intro @len_cells (And.intro @take_cells @take_cellsC))))))))) ?_
  ((refine AO.step fun K hK => ?_; simp only [go_sem, Int.reduceBEq, Int.reduceLE, Int.reduceLT, Int.reduceNeg, Nat.reduceAdd, Nat.reduceEqDiff, Nat.reduceLT, Nat.reduceLeDiff, Nat.reduceMul, Nat.reduceSub, reduceCtorEq, ↓reduceIte, hw2, ncells_mk, hk, len_cells, take_cells, take_cellsC]; (first | refine gsel_go ?_ | skip)); refine .inr (.inr (.inl ⟨?vy1, [1000000], ?va1, ?vl1, ?vm1, ?cond1, ?cont1⟩)); (case cond1 => ((repeat' apply And.intro) <;> (try ((with_reducible show ToldM _ _ _ _ _ _); exact hR))); (all_goals first | trivial | (simp only [hw2, ncells_mk, hk, len_cells, take_cells, take_cellsC, go_sem, simprocAttr]; done) | (simp; done) | rfl)); (first | refine hK _ _ _ ?_ | (simp only [hw2, ncells_mk, hk, len_cells, take_cells, take_cellsC, go_sem, simprocAttr]; first | refine hK _ _ _ ?_ | refine ⟨rfl, hK _ _ _ ?_⟩)); clear hK K)
  refine walkBF (And.intro @len_cells (And.intro @take_cells @take_cellsC)) ?_
  refine ⟨by first | exact .inr rfl | exact .inl rfl, ?_⟩; rw [Tryz.results66]; simp only [resOk, resV, go_sem, simprocAttr]
  exact ⟨frz_vi _ _, .c _⟩
set_option maxRecDepth 100000 in
set_option maxHeartbeats 3200000 in
theorem say_11 (ns : List NT) (r : Int) (q : Nat) (n : NT) (hn : ns[q]? = some n) (j : JT) (c : Nat) (hc : c ≤ 1000) (dep : Int) (hk : n.kind = 11) (h : ¬ 1000 < c + 1) (hd : dep < 20) (hd0 : 0 ≤ dep) (f : Say) (hT : SayT ns r f (dep + 1)) (hC : SayC f) (hj : JOk j) (hi0 : 0 ≤ n.items) (hi1 : n.items < (ns.length : Int)) :
    ToldM Tryz.prog 66 [.ref 1000000 1 0 0, .c (.v (.int .i64 (q : Int))), j.av, .c (.v (.int .i64 dep))] [xSB ns r c] [some (xSB ns r (itemsF f n.items j (c + 1)).2)] (.tup [(VT.mk 11 0 0 [] ((itemsF f n.items j (c + 1)).1.getD []) []).av, .c (.v (.bool ((itemsF f n.items j (c + 1)).1.isSome && j.kd == 5)))]) := by
  have hql := (List.getElem?_eq_some_iff.1 hn).1
  have hxp : (ns.map NT.cells)[q]? = some n.cells := by rw [List.getElem?_map, hn]; rfl
  have hw : IntKind.i64.wrap ((c : Int) + 1) = ((c + 1 : Nat) : Int) := by rw [wrap64_id (by omega) (by omega)]; rfl
  have hK := compK_told 11
  rw [show compK 11 = true from rfl] at hK
  have e1 : decide (((c + 1 : Nat) : Int) > 1000) = false := by simp; omega
  have hD : decide (dep ≥ 20) = false := by simp; omega
  have hw2 : IntKind.i64.wrap (dep + 1) = dep + 1 := wrap64_id (by omega) (by omega)
  have hc1 : c + 1 ≤ 1000 := by omega
  have hR := items13_told ns r f (dep + 1) hT hC n hi0 hi1 j hj (c + 1) hc1
  generalize (itemsF f n.items j (c + 1)).1.getD [] = vs at *
  generalize (itemsF f n.items j (c + 1)).1.isSome = b at *
  generalize (itemsF f n.items j (c + 1)).2 = c2 at *
  generalize c + 1 = c1 at *
  obtain ⟨b2, h2⟩ : ∃ b : Bool, b = (j.kd == 5) := ⟨_, rfl⟩
  rw [← h2]
  rw [JT.av_eq] at hR ⊢
  rw [NT.av_eq, ncells_mk, hk] at hR
  rw [VT.av_eq]
  unfold xSB at hR
  cases b with
  | false =>
    unfold xSB
    refine VC.toldM ent_66 [] Tryz.func66 rfl Tryz.ntmps66 (by simp) (by simp only [ScM, zOk, inL, eq_self, used_is, sc_any, sc_c, sc_pp, sc_ref, sc_row, sc_agg, sc_tup, sc_fn, ScL, some_imp, List.forall_mem_map, Nat.le_refl, go_sem, simprocAttr]) (by simp only [ScM, zOk, inL, eq_self, used_is, sc_any, sc_c, sc_pp, sc_ref, sc_row, sc_agg, sc_tup, sc_fn, ScL, some_imp, List.forall_mem_map, Nat.le_refl, go_sem, simprocAttr]) (by simp only [ScM, zOk, inL, eq_self, used_is, sc_any, sc_c, sc_pp, sc_ref, sc_row, sc_agg, sc_tup, sc_fn, ScL, some_imp, List.forall_mem_map, Nat.le_refl, go_sem, simprocAttr]) (by simp only [ScM, zOk, inL, eq_self, used_is, sc_any, sc_c, sc_pp, sc_ref, sc_row, sc_agg, sc_tup, sc_fn, ScL, some_imp, List.forall_mem_map, Nat.le_refl, go_sem, simprocAttr]) (by simp) fun hb hbL => ?_
    clear hb hbL
    refine walkGF (And.intro hxp (And.intro @ncells_mk (And.intro hw hk))) ?_
    refine walkC (hK) ?_
    refine walkBF (And.intro hxp (And.intro @ncells_mk (And.intro hw (And.intro hk (And.intro hD (And.intro e1 (And.intro hw2 (And.intro @len_cells (And.intro @take_cells @take_cellsC))))))))) ?_
    ((refine AO.step fun K hK => ?_; simp only [go_sem, Int.reduceBEq, Int.reduceLE, Int.reduceLT, Int.reduceNeg, Nat.reduceAdd, Nat.reduceEqDiff, Nat.reduceLT, Nat.reduceLeDiff, Nat.reduceMul, Nat.reduceSub, reduceCtorEq, ↓reduceIte, hw2, ncells_mk, hk, len_cells, take_cells, take_cellsC]; (first | refine gsel_go ?_ | skip)); refine .inr (.inr (.inl ⟨?vy2, [1000000], ?va2, ?vl2, ?vm2, ?cond2, ?cont2⟩)); (case cond2 => ((repeat' apply And.intro) <;> (try ((with_reducible show ToldM _ _ _ _ _ _); exact hR))); (all_goals first | trivial | (simp only [hw2, ncells_mk, hk, len_cells, take_cells, take_cellsC, go_sem, simprocAttr]; done) | (simp; done) | rfl)); (first | refine hK _ _ _ ?_ | (simp only [hw2, ncells_mk, hk, len_cells, take_cells, take_cellsC, go_sem, simprocAttr]; first | refine hK _ _ _ ?_ | refine ⟨rfl, hK _ _ _ ?_⟩)); clear hK K)
    refine walkBF (And.intro @jcells_acc h2.symm) ?_
    refine ⟨by first | exact .inr rfl | exact .inl rfl, ?_⟩; rw [Tryz.results66]; simp only [resOk, resV, go_sem, simprocAttr]
    exact ⟨frz_vi _ _, .c _⟩
  | true =>
    unfold xSB
    refine VC.toldM ent_66 [] Tryz.func66 rfl Tryz.ntmps66 (by simp) (by simp only [ScM, zOk, inL, eq_self, used_is, sc_any, sc_c, sc_pp, sc_ref, sc_row, sc_agg, sc_tup, sc_fn, ScL, some_imp, List.forall_mem_map, Nat.le_refl, go_sem, simprocAttr]) (by simp only [ScM, zOk, inL, eq_self, used_is, sc_any, sc_c, sc_pp, sc_ref, sc_row, sc_agg, sc_tup, sc_fn, ScL, some_imp, List.forall_mem_map, Nat.le_refl, go_sem, simprocAttr]) (by simp only [ScM, zOk, inL, eq_self, used_is, sc_any, sc_c, sc_pp, sc_ref, sc_row, sc_agg, sc_tup, sc_fn, ScL, some_imp, List.forall_mem_map, Nat.le_refl, go_sem, simprocAttr]) (by simp only [ScM, zOk, inL, eq_self, used_is, sc_any, sc_c, sc_pp, sc_ref, sc_row, sc_agg, sc_tup, sc_fn, ScL, some_imp, List.forall_mem_map, Nat.le_refl, go_sem, simprocAttr]) (by simp) fun hb hbL => ?_
    clear hb hbL
    refine walkGF (And.intro hxp (And.intro @ncells_mk (And.intro hw hk))) ?_
    refine walkC (hK) ?_
    refine walkBF (And.intro hxp (And.intro @ncells_mk (And.intro hw (And.intro hk (And.intro hD (And.intro e1 (And.intro hw2 (And.intro @len_cells (And.intro @take_cells @take_cellsC))))))))) ?_
    ((refine AO.step fun K hK => ?_; simp only [go_sem, Int.reduceBEq, Int.reduceLE, Int.reduceLT, Int.reduceNeg, Nat.reduceAdd, Nat.reduceEqDiff, Nat.reduceLT, Nat.reduceLeDiff, Nat.reduceMul, Nat.reduceSub, reduceCtorEq, ↓reduceIte, hw2, ncells_mk, hk, len_cells, take_cells, take_cellsC]; (first | refine gsel_go ?_ | skip)); refine .inr (.inr (.inl ⟨?vy3, [1000000], ?va3, ?vl3, ?vm3, ?cond3, ?cont3⟩)); (case cond3 => ((repeat' apply And.intro) <;> (try ((with_reducible show ToldM _ _ _ _ _ _); exact hR))); (all_goals first | trivial | (simp only [hw2, ncells_mk, hk, len_cells, take_cells, take_cellsC, go_sem, simprocAttr]; done) | (simp; done) | rfl)); (first | refine hK _ _ _ ?_ | (simp only [hw2, ncells_mk, hk, len_cells, take_cells, take_cellsC, go_sem, simprocAttr]; first | refine hK _ _ _ ?_ | refine ⟨rfl, hK _ _ _ ?_⟩)); clear hK K)
    refine walkBF (And.intro @jcells_acc h2.symm) ?_
    refine ⟨by first | exact .inr rfl | exact .inl rfl, ?_⟩; rw [Tryz.results66]; simp only [resOk, resV, go_sem, simprocAttr]
    exact ⟨frz_vi _ _, .c _⟩
set_option maxRecDepth 100000 in
set_option maxHeartbeats 3200000 in
theorem say_12 (ns : List NT) (r : Int) (q : Nat) (n : NT) (hn : ns[q]? = some n) (j : JT) (c : Nat) (hc : c ≤ 1000) (dep : Int) (hk : n.kind = 12) (h : ¬ 1000 < c + 1) (hd : dep < 20) (hd0 : 0 ≤ dep) (f : Say) (hT : SayT ns r f (dep + 1)) (hC : SayC f) (hj : JOk j) (hi0 : 0 ≤ n.items) (hi1 : n.items < (ns.length : Int)) :
    ToldM Tryz.prog 66 [.ref 1000000 1 0 0, .c (.v (.int .i64 (q : Int))), j.av, .c (.v (.int .i64 dep))] [xSB ns r c] [some (xSB ns r (itemsF f n.items j (c + 1)).2)] (.tup [(VT.mk 12 0 0 [] ((itemsF f n.items j (c + 1)).1.getD []) j.keys).av, .c (.v (.bool ((itemsF f n.items j (c + 1)).1.isSome && j.kd == 6)))]) := by
  have hql := (List.getElem?_eq_some_iff.1 hn).1
  have hxp : (ns.map NT.cells)[q]? = some n.cells := by rw [List.getElem?_map, hn]; rfl
  have hw : IntKind.i64.wrap ((c : Int) + 1) = ((c + 1 : Nat) : Int) := by rw [wrap64_id (by omega) (by omega)]; rfl
  have hK := compK_told 12
  rw [show compK 12 = true from rfl] at hK
  have e1 : decide (((c + 1 : Nat) : Int) > 1000) = false := by simp; omega
  have hD : decide (dep ≥ 20) = false := by simp; omega
  have hw2 : IntKind.i64.wrap (dep + 1) = dep + 1 := wrap64_id (by omega) (by omega)
  have hc1 : c + 1 ≤ 1000 := by omega
  have hR := items13_told ns r f (dep + 1) hT hC n hi0 hi1 j hj (c + 1) hc1
  have hks : j.keys.length ≤ 1000000 := by
    cases j with
    | mk k m s ks xs =>
      have h3 := hj.2.2
      simp only [JT.sm] at h3
      exact h3.2.1
  have hCl := cloneS_told j.keys hks
  generalize (itemsF f n.items j (c + 1)).1.getD [] = vs at *
  generalize (itemsF f n.items j (c + 1)).1.isSome = b at *
  generalize (itemsF f n.items j (c + 1)).2 = c2 at *
  generalize c + 1 = c1 at *
  obtain ⟨b2, h2⟩ : ∃ b : Bool, b = (j.kd == 6) := ⟨_, rfl⟩
  rw [← h2]
  rw [JT.av_eq] at hR ⊢
  rw [NT.av_eq, ncells_mk, hk] at hR
  rw [VT.av_eq]
  unfold xSB at hR
  cases b with
  | false =>
    unfold xSB
    refine VC.toldM ent_66 [] Tryz.func66 rfl Tryz.ntmps66 (by simp) (by simp only [ScM, zOk, inL, eq_self, used_is, sc_any, sc_c, sc_pp, sc_ref, sc_row, sc_agg, sc_tup, sc_fn, ScL, some_imp, List.forall_mem_map, Nat.le_refl, go_sem, simprocAttr]) (by simp only [ScM, zOk, inL, eq_self, used_is, sc_any, sc_c, sc_pp, sc_ref, sc_row, sc_agg, sc_tup, sc_fn, ScL, some_imp, List.forall_mem_map, Nat.le_refl, go_sem, simprocAttr]) (by simp only [ScM, zOk, inL, eq_self, used_is, sc_any, sc_c, sc_pp, sc_ref, sc_row, sc_agg, sc_tup, sc_fn, ScL, some_imp, List.forall_mem_map, Nat.le_refl, go_sem, simprocAttr]) (by simp only [ScM, zOk, inL, eq_self, used_is, sc_any, sc_c, sc_pp, sc_ref, sc_row, sc_agg, sc_tup, sc_fn, ScL, some_imp, List.forall_mem_map, Nat.le_refl, go_sem, simprocAttr]) (by simp) fun hb hbL => ?_
    clear hb hbL
    refine walkGF (And.intro hxp (And.intro @ncells_mk (And.intro hw hk))) ?_
    refine walkC (hK) ?_
    refine walkBF (And.intro hxp (And.intro @ncells_mk (And.intro hw (And.intro hk (And.intro hD (And.intro e1 @jcells_acc)))))) ?_
    refine walkC (hCl) ?_
    refine walkBF (And.intro hw2 (And.intro @ncells_mk (And.intro hk (And.intro @len_cells (And.intro @take_cells @take_cellsC))))) ?_
    ((refine AO.step fun K hK => ?_; simp only [go_sem, Int.reduceBEq, Int.reduceLE, Int.reduceLT, Int.reduceNeg, Nat.reduceAdd, Nat.reduceEqDiff, Nat.reduceLT, Nat.reduceLeDiff, Nat.reduceMul, Nat.reduceSub, reduceCtorEq, ↓reduceIte, hw2, ncells_mk, hk, len_cells, take_cells, take_cellsC]; (first | refine gsel_go ?_ | skip)); refine .inr (.inr (.inl ⟨?vy4, [1000000], ?va4, ?vl4, ?vm4, ?cond4, ?cont4⟩)); (case cond4 => ((repeat' apply And.intro) <;> (try ((with_reducible show ToldM _ _ _ _ _ _); exact hR))); (all_goals first | trivial | (simp only [hw2, ncells_mk, hk, len_cells, take_cells, take_cellsC, go_sem, simprocAttr]; done) | (simp; done) | rfl)); (first | refine hK _ _ _ ?_ | (simp only [hw2, ncells_mk, hk, len_cells, take_cells, take_cellsC, go_sem, simprocAttr]; first | refine hK _ _ _ ?_ | refine ⟨rfl, hK _ _ _ ?_⟩)); clear hK K)
    refine walkBF (And.intro @jcells_acc h2.symm) ?_
    refine ⟨by first | exact .inr rfl | exact .inl rfl, ?_⟩; rw [Tryz.results66]; simp only [resOk, resV, go_sem, simprocAttr]
    exact ⟨frz_vk _ _ _, .c _⟩
  | true =>
    unfold xSB
    refine VC.toldM ent_66 [] Tryz.func66 rfl Tryz.ntmps66 (by simp) (by simp only [ScM, zOk, inL, eq_self, used_is, sc_any, sc_c, sc_pp, sc_ref, sc_row, sc_agg, sc_tup, sc_fn, ScL, some_imp, List.forall_mem_map, Nat.le_refl, go_sem, simprocAttr]) (by simp only [ScM, zOk, inL, eq_self, used_is, sc_any, sc_c, sc_pp, sc_ref, sc_row, sc_agg, sc_tup, sc_fn, ScL, some_imp, List.forall_mem_map, Nat.le_refl, go_sem, simprocAttr]) (by simp only [ScM, zOk, inL, eq_self, used_is, sc_any, sc_c, sc_pp, sc_ref, sc_row, sc_agg, sc_tup, sc_fn, ScL, some_imp, List.forall_mem_map, Nat.le_refl, go_sem, simprocAttr]) (by simp only [ScM, zOk, inL, eq_self, used_is, sc_any, sc_c, sc_pp, sc_ref, sc_row, sc_agg, sc_tup, sc_fn, ScL, some_imp, List.forall_mem_map, Nat.le_refl, go_sem, simprocAttr]) (by simp) fun hb hbL => ?_
    clear hb hbL
    refine walkGF (And.intro hxp (And.intro @ncells_mk (And.intro hw hk))) ?_
    refine walkC (hK) ?_
    refine walkBF (And.intro hxp (And.intro @ncells_mk (And.intro hw (And.intro hk (And.intro hD (And.intro e1 @jcells_acc)))))) ?_
    refine walkC (hCl) ?_
    refine walkBF (And.intro hw2 (And.intro @ncells_mk (And.intro hk (And.intro @len_cells (And.intro @take_cells @take_cellsC))))) ?_
    ((refine AO.step fun K hK => ?_; simp only [go_sem, Int.reduceBEq, Int.reduceLE, Int.reduceLT, Int.reduceNeg, Nat.reduceAdd, Nat.reduceEqDiff, Nat.reduceLT, Nat.reduceLeDiff, Nat.reduceMul, Nat.reduceSub, reduceCtorEq, ↓reduceIte, hw2, ncells_mk, hk, len_cells, take_cells, take_cellsC]; (first | refine gsel_go ?_ | skip)); refine .inr (.inr (.inl ⟨?vy5, [1000000], ?va5, ?vl5, ?vm5, ?cond5, ?cont5⟩)); (case cond5 => ((repeat' apply And.intro) <;> (try ((with_reducible show ToldM _ _ _ _ _ _); exact hR))); (all_goals first | trivial | (simp only [hw2, ncells_mk, hk, len_cells, take_cells, take_cellsC, go_sem, simprocAttr]; done) | (simp; done) | rfl)); (first | refine hK _ _ _ ?_ | (simp only [hw2, ncells_mk, hk, len_cells, take_cells, take_cellsC, go_sem, simprocAttr]; first | refine hK _ _ _ ?_ | refine ⟨rfl, hK _ _ _ ?_⟩)); clear hK K)
    refine walkBF (And.intro @jcells_acc h2.symm) ?_
    refine ⟨by first | exact .inr rfl | exact .inl rfl, ?_⟩; rw [Tryz.results66]; simp only [resOk, resV, go_sem, simprocAttr]
    exact ⟨frz_vk _ _ _, .c _⟩
set_option maxRecDepth 100000 in
set_option maxHeartbeats 3200000 in
theorem say_13 (ns : List NT) (r : Int) (q : Nat) (n : NT) (hn : ns[q]? = some n) (j : JT) (c : Nat) (hc : c ≤ 1000) (dep : Int) (hk : n.kind = 13) (h : ¬ 1000 < c + 1) (hd : dep < 20) (hd0 : 0 ≤ dep) (f : Say) (hT : SayT ns r f (dep + 1)) (hC : SayC f) (hj : JOk j) (b : Int) (hb0 : n.branches[0]? = some b) (hi0 : 0 ≤ b) (hi1 : b < (ns.length : Int)) :
    ToldM Tryz.prog 66 [.ref 1000000 1 0 0, .c (.v (.int .i64 (q : Int))), j.av, .c (.v (.int .i64 dep))] [xSB ns r c] [some (xSB ns r (f b j (c + 1)).2.2)] (.tup [(VT.mk 13 0 0 [] [(f b j (c + 1)).1] []).av, .c (.v (.bool (f b j (c + 1)).2.1))]) := by
  have hql := (List.getElem?_eq_some_iff.1 hn).1
  have hxp : (ns.map NT.cells)[q]? = some n.cells := by rw [List.getElem?_map, hn]; rfl
  have hw : IntKind.i64.wrap ((c : Int) + 1) = ((c + 1 : Nat) : Int) := by rw [wrap64_id (by omega) (by omega)]; rfl
  have hK := compK_told 13
  rw [show compK 13 = true from rfl] at hK
  have e1 : decide (((c + 1 : Nat) : Int) > 1000) = false := by simp; omega
  have hD : decide (dep ≥ 20) = false := by simp; omega
  have hw2 : IntKind.i64.wrap (dep + 1) = dep + 1 := wrap64_id (by omega) (by omega)
  have hc1 : c + 1 ≤ 1000 := by omega
  have hS := hT b j (c + 1) hi0 hi1 hj hc1
  have hbp : (n.branches.map iPV)[0]? = some (iPV b) := by rw [List.getElem?_map, hb0]; rfl
  have hbl : 0 < n.branches.length := (List.getElem?_eq_some_iff.1 hb0).1
  generalize (f b j (c + 1)).2.2 = c2 at *
  generalize (f b j (c + 1)).2.1 = ok at *
  generalize (f b j (c + 1)).1 = v at *
  generalize c + 1 = c1 at *
  rw [JT.av_eq] at hS ⊢
  rw [VT.av_eq] at hS ⊢
  unfold xSB at hS
  unfold xSB
  refine VC.toldM ent_66 [] Tryz.func66 rfl Tryz.ntmps66 (by simp) (by simp only [ScM, zOk, inL, eq_self, used_is, sc_any, sc_c, sc_pp, sc_ref, sc_row, sc_agg, sc_tup, sc_fn, ScL, some_imp, List.forall_mem_map, Nat.le_refl, go_sem, simprocAttr]) (by simp only [ScM, zOk, inL, eq_self, used_is, sc_any, sc_c, sc_pp, sc_ref, sc_row, sc_agg, sc_tup, sc_fn, ScL, some_imp, List.forall_mem_map, Nat.le_refl, go_sem, simprocAttr]) (by simp only [ScM, zOk, inL, eq_self, used_is, sc_any, sc_c, sc_pp, sc_ref, sc_row, sc_agg, sc_tup, sc_fn, ScL, some_imp, List.forall_mem_map, Nat.le_refl, go_sem, simprocAttr]) (by simp only [ScM, zOk, inL, eq_self, used_is, sc_any, sc_c, sc_pp, sc_ref, sc_row, sc_agg, sc_tup, sc_fn, ScL, some_imp, List.forall_mem_map, Nat.le_refl, go_sem, simprocAttr]) (by simp) fun hb hbL => ?_
  clear hb hbL
  refine walkGF (And.intro hxp (And.intro @ncells_mk (And.intro hw hk))) ?_
  refine walkC (hK) ?_
  refine walkBF (And.intro hxp (And.intro @ncells_mk (And.intro hw (And.intro hk (And.intro hD (And.intro e1 (And.intro hw2 (And.intro hbp (And.intro @iPV_eq (And.intro @len_cells (And.intro @take_cells @take_cellsC))))))))))) ?_
  ((refine AO.step fun K hK => ?_; simp only [go_sem, Int.reduceBEq, Int.reduceLE, Int.reduceLT, Int.reduceNeg, Nat.reduceAdd, Nat.reduceEqDiff, Nat.reduceLT, Nat.reduceLeDiff, Nat.reduceMul, Nat.reduceSub, reduceCtorEq, ↓reduceIte, hw2, len_cells, take_cells, take_cellsC]; (first | refine gsel_go ?_ | skip)); refine .inr (.inr (.inl ⟨?vy6, [1000000], ?va6, ?vl6, ?vm6, ?cond6, ?cont6⟩)); (case cond6 => ((repeat' apply And.intro) <;> (try ((with_reducible show ToldM _ _ _ _ _ _); exact hS))); (all_goals first | trivial | (simp only [hw2, len_cells, take_cells, take_cellsC, go_sem, simprocAttr]; done) | (simp; done) | rfl)); (first | refine hK _ _ _ ?_ | (simp only [hw2, len_cells, take_cells, take_cellsC, go_sem, simprocAttr]; first | refine hK _ _ _ ?_ | refine ⟨rfl, hK _ _ _ ?_⟩)); clear hK K)
  refine walkBF (And.intro @len_vcells (And.intro @take_vcells @take_vcellsC)) ?_
  refine ⟨by first | exact .inr rfl | exact .inl rfl, ?_⟩; rw [Tryz.results66]; simp only [rA_len, resOk, resV, go_sem, simprocAttr]
  refine ⟨?_, .c _⟩
  rw [vcells_mk]
  exact Frz.aggL (.cons (.c _) (.cons (.c _) (.cons (.c _) (.cons (.nil 1) (.cons (frz_rA (f := VT.cells) (l := [v]) (T := 43) rfl rfl rfl fun x _ => len_vcells x) (.cons (.nil 1) .nil))))))
def lft (b : Bool) (x : Int) : Int := if b = true then x else -1

set_option maxRecDepth 100000 in
set_option maxHeartbeats 3200000 in
theorem rs_no (s : ST) (q : Nat) (n : NT) (hn : s.nodes[q]? = some n) (j : JT) (dep lf : Int) (hl0 : -1000 ≤ lf) (hl1 : lf ≤ 1000) (h : (compK n.kind = true ∧ dep = 20) ∨ lf - 1 < 0) : Told Tryz.prog 69 [s.av, .c (.v (.int .i64 (q : Int))), j.av, .c (.v (.int .i64 dep)), .c (.v (.int .i64 lf))] (.tup [(vz n.kind).av, .c (.v (.int .i64 (-1)))]) := by
  have hql := (List.getElem?_eq_some_iff.1 hn).1
  have hxp : (s.nodes.map NT.cells)[q]? = some n.cells := by rw [List.getElem?_map, hn]; rfl
  have hw : IntKind.i64.wrap (lf - 1) = lf - 1 := wrap64_id (by omega) (by omega)
  rw [JT.av_eq, ST.av_eq, VT.av_eq]
  have hcat : n.kind = 9 ∨ n.kind = 11 ∨ n.kind = 12 ∨ n.kind = 13 ∨ (compK n.kind = false ∧ (n.kind == 9) = false ∧ (n.kind == 11) = false ∧ (n.kind == 12) = false ∧ (n.kind == 13) = false) := by
    by_cases a : n.kind = 9
    · exact .inl a
    by_cases b : n.kind = 11
    · exact .inr (.inl b)
    by_cases c : n.kind = 12
    · exact .inr (.inr (.inl c))
    by_cases d : n.kind = 13
    · exact .inr (.inr (.inr (.inl d)))
    exact .inr (.inr (.inr (.inr ⟨by simp [compK, a, b, c, d], by simpa using a, by simpa using b, by simpa using c, by simpa using d⟩)))
  by_cases hneg : lf - 1 < 0
  · have e1 : decide (lf - 1 < 0) = true := by simpa using hneg
    obtain ⟨B, hB⟩ : ∃ B, B = (dep == 20) := ⟨_, rfl⟩
    rcases hcat with hk | hk | hk | hk | ⟨hk, h9, h11, h12, h13⟩
    rotate_right
    · clear hB
      refine VC.told ent_69 Tryz.func69 rfl Tryz.ntmps69 (by simp) (by first | rfl | simp [AV.pureB, AV.pureL, pureL_c, pures]) (by first | rfl | simp [AV.pureB, AV.pureL, pureL_c, pures]) fun hb => ?_
      clear hb
      refine walkGF (And.intro hxp (And.intro @ncells_mk (And.intro @scells_mk (And.intro hw (And.intro h9 (And.intro h11 (And.intro h12 (And.intro h13 e1)))))))) ?_
      refine VC.condT (by rfl) (by trivial) ?_
      refine walkGF (@ncells_mk) ?_
      refine ⟨by first | exact .inr rfl | exact .inl rfl, ?_⟩; rw [Tryz.results69]; simp only [resOk, resV, go_sem, simprocAttr]
      exact ⟨frz_v _ _ _, .c _⟩
    all_goals cases B
    all_goals
      refine VC.told ent_69 Tryz.func69 rfl Tryz.ntmps69 (by simp) (by first | rfl | simp [AV.pureB, AV.pureL, pureL_c, pures]) (by first | rfl | simp [AV.pureB, AV.pureL, pureL_c, pures]) fun hb => ?_
      clear hb
      refine walkGF (And.intro hxp (And.intro @ncells_mk (And.intro @scells_mk (And.intro hw (And.intro hk (And.intro hB.symm e1)))))) ?_
      refine VC.condT (by rfl) (by trivial) ?_
      refine walkGF (And.intro @ncells_mk hk) ?_
      refine ⟨by first | exact .inr rfl | exact .inl rfl, ?_⟩; rw [Tryz.results69]; simp only [resOk, resV, go_sem, simprocAttr]
      rw [hk]
      exact ⟨frz_v _ _ _, .c _⟩
  · obtain ⟨hcm, hd⟩ := h.resolve_right hneg
    have hB : (dep == 20) = true := by simpa using hd
    rcases hcat with hk | hk | hk | hk | ⟨hk, _⟩
    rotate_right
    · rw [hk] at hcm
      cases hcm
    all_goals
      refine VC.told ent_69 Tryz.func69 rfl Tryz.ntmps69 (by simp) (by first | rfl | simp [AV.pureB, AV.pureL, pureL_c, pures]) (by first | rfl | simp [AV.pureB, AV.pureL, pureL_c, pures]) fun hb => ?_
      clear hb
      refine walkGF (And.intro hxp (And.intro @ncells_mk (And.intro @scells_mk (And.intro hw (And.intro hk hB))))) ?_
      refine VC.condT (by rfl) (by trivial) ?_
      refine walkGF (And.intro @ncells_mk hk) ?_
      refine ⟨by first | exact .inr rfl | exact .inl rfl, ?_⟩; rw [Tryz.results69]; simp only [resOk, resV, go_sem, simprocAttr]
      rw [hk]
      exact ⟨frz_v _ _ _, .c _⟩
set_option maxRecDepth 100000 in
set_option maxHeartbeats 3200000 in
theorem rs_1 (s : ST) (q : Nat) (n : NT) (hn : s.nodes[q]? = some n) (j : JT) (dep lf : Int) (hl0 : -1000 ≤ lf) (hl1 : lf ≤ 1000) (hk : n.kind = 1) (h : ¬ lf - 1 < 0) : Told Tryz.prog 69 [s.av, .c (.v (.int .i64 (q : Int))), j.av, .c (.v (.int .i64 dep)), .c (.v (.int .i64 lf))] (.tup [(vz 1).av, .c (.v (.int .i64 (lft (j.kd == 1) (lf - 1))))]) := by
  have hql := (List.getElem?_eq_some_iff.1 hn).1
  have hxp : (s.nodes.map NT.cells)[q]? = some n.cells := by rw [List.getElem?_map, hn]; rfl
  have hw : IntKind.i64.wrap (lf - 1) = lf - 1 := wrap64_id (by omega) (by omega)
  have e1 : decide (lf - 1 < 0) = false := by simp; omega
  rw [JT.av_eq, ST.av_eq, VT.av_eq]
  obtain ⟨b, hb1⟩ : ∃ q : Bool, q = (j.kd == 1) := ⟨_, rfl⟩
  rw [← hb1]
  cases b
  all_goals
    refine VC.told ent_69 Tryz.func69 rfl Tryz.ntmps69 (by simp) (by first | rfl | simp [AV.pureB, AV.pureL, pureL_c, pures]) (by first | rfl | simp [AV.pureB, AV.pureL, pureL_c, pures]) fun hb => ?_
    clear hb
    refine walkBF (And.intro hxp (And.intro @ncells_mk (And.intro @scells_mk (And.intro hw (And.intro hk (And.intro e1 (And.intro @jcells_acc hb1.symm))))))) ?_
    refine ⟨by first | exact .inr rfl | exact .inl rfl, ?_⟩; rw [Tryz.results69]; simp only [resOk, resV, go_sem, simprocAttr]
    exact ⟨frz_v _ _ _, .c _⟩
set_option maxRecDepth 100000 in
set_option maxHeartbeats 3200000 in
theorem rs_2 (s : ST) (q : Nat) (n : NT) (hn : s.nodes[q]? = some n) (j : JT) (dep lf : Int) (hl0 : -1000 ≤ lf) (hl1 : lf ≤ 1000) (hk : n.kind = 2) (h : ¬ lf - 1 < 0) : Told Tryz.prog 69 [s.av, .c (.v (.int .i64 (q : Int))), j.av, .c (.v (.int .i64 dep)), .c (.v (.int .i64 lf))] (.tup [(VT.mk 2 j.num 0 [] [] []).av, .c (.v (.int .i64 (lft (j.kd == 2) (lf - 1))))]) := by
  have hql := (List.getElem?_eq_some_iff.1 hn).1
  have hxp : (s.nodes.map NT.cells)[q]? = some n.cells := by rw [List.getElem?_map, hn]; rfl
  have hw : IntKind.i64.wrap (lf - 1) = lf - 1 := wrap64_id (by omega) (by omega)
  have e1 : decide (lf - 1 < 0) = false := by simp; omega
  rw [JT.av_eq, ST.av_eq, VT.av_eq]
  obtain ⟨b, hb1⟩ : ∃ q : Bool, q = (j.kd == 2) := ⟨_, rfl⟩
  rw [← hb1]
  cases b
  all_goals
    refine VC.told ent_69 Tryz.func69 rfl Tryz.ntmps69 (by simp) (by first | rfl | simp [AV.pureB, AV.pureL, pureL_c, pures]) (by first | rfl | simp [AV.pureB, AV.pureL, pureL_c, pures]) fun hb => ?_
    clear hb
    refine walkBF (And.intro hxp (And.intro @ncells_mk (And.intro @scells_mk (And.intro hw (And.intro hk (And.intro e1 (And.intro @jcells_acc hb1.symm))))))) ?_
    refine ⟨by first | exact .inr rfl | exact .inl rfl, ?_⟩; rw [Tryz.results69]; simp only [resOk, resV, go_sem, simprocAttr]
    exact ⟨frz_v _ _ _, .c _⟩
set_option maxRecDepth 100000 in
set_option maxHeartbeats 3200000 in
theorem rs_3 (s : ST) (q : Nat) (n : NT) (hn : s.nodes[q]? = some n) (j : JT) (dep lf : Int) (hl0 : -1000 ≤ lf) (hl1 : lf ≤ 1000) (hk : n.kind = 3) (h : ¬ lf - 1 < 0) (hj : JOk j) : Told Tryz.prog 69 [s.av, .c (.v (.int .i64 (q : Int))), j.av, .c (.v (.int .i64 dep)), .c (.v (.int .i64 lf))] (.tup [(VT.mk 3 j.num 0 [] [] []).av, .c (.v (.int .i64 (lft (numS 3 j).2 (lf - 1))))]) := by
  have hql := (List.getElem?_eq_some_iff.1 hn).1
  have hxp : (s.nodes.map NT.cells)[q]? = some n.cells := by rw [List.getElem?_map, hn]; rfl
  have hw : IntKind.i64.wrap (lf - 1) = lf - 1 := wrap64_id (by omega) (by omega)
  have e1 : decide (lf - 1 < 0) = false := by simp; omega
  rw [JT.av_eq, ST.av_eq, VT.av_eq]
  obtain ⟨_, _, i1, i2⟩ := rshape_acc hj.1 hj.2.1
  obtain ⟨b1, h1⟩ : ∃ q : Bool, q = (j.kd == 3) := ⟨_, rfl⟩
  obtain ⟨b2, h2⟩ : ∃ q : Bool, q = (IntKind.i64.wrap (IntKind.i32.wrap j.num) == j.num) := ⟨_, rfl⟩
  have hok : (numS 3 j).2 = (b1 && b2) := by
    unfold numS
    rw [if_pos rfl, h2]
    simp only []
    rw [← h1]
    congr 1
    rw [IntKind.wrap_i32, IntKind.wrap_i64, Bool.eq_iff_iff]
    simp only [Bool.and_eq_true, decide_eq_true_eq, beq_iff_eq]
    omega
  rw [hok]
  cases b1 <;> cases b2
  all_goals
    refine VC.told ent_69 Tryz.func69 rfl Tryz.ntmps69 (by simp) (by first | rfl | simp [AV.pureB, AV.pureL, pureL_c, pures]) (by first | rfl | simp [AV.pureB, AV.pureL, pureL_c, pures]) fun hb => ?_
    clear hb
    refine walkBF (And.intro hxp (And.intro @ncells_mk (And.intro @scells_mk (And.intro hw (And.intro hk (And.intro e1 (And.intro @jcells_acc (And.intro h1.symm h2.symm)))))))) ?_
    refine ⟨by first | exact .inr rfl | exact .inl rfl, ?_⟩; rw [Tryz.results69]; simp only [resOk, resV, go_sem, simprocAttr]
    exact ⟨frz_v _ _ _, .c _⟩
set_option maxRecDepth 100000 in
set_option maxHeartbeats 3200000 in
theorem rs_4 (s : ST) (q : Nat) (n : NT) (hn : s.nodes[q]? = some n) (j : JT) (dep lf : Int) (hl0 : -1000 ≤ lf) (hl1 : lf ≤ 1000) (hk : n.kind = 4) (h : ¬ lf - 1 < 0) : Told Tryz.prog 69 [s.av, .c (.v (.int .i64 (q : Int))), j.av, .c (.v (.int .i64 dep)), .c (.v (.int .i64 lf))] (.tup [(VT.mk 4 j.num 0 [] [] []).av, .c (.v (.int .i64 (lft (j.kd == 3) (lf - 1))))]) := by
  have hql := (List.getElem?_eq_some_iff.1 hn).1
  have hxp : (s.nodes.map NT.cells)[q]? = some n.cells := by rw [List.getElem?_map, hn]; rfl
  have hw : IntKind.i64.wrap (lf - 1) = lf - 1 := wrap64_id (by omega) (by omega)
  have e1 : decide (lf - 1 < 0) = false := by simp; omega
  rw [JT.av_eq, ST.av_eq, VT.av_eq]
  obtain ⟨b, hb1⟩ : ∃ q : Bool, q = (j.kd == 3) := ⟨_, rfl⟩
  rw [← hb1]
  cases b
  all_goals
    refine VC.told ent_69 Tryz.func69 rfl Tryz.ntmps69 (by simp) (by first | rfl | simp [AV.pureB, AV.pureL, pureL_c, pures]) (by first | rfl | simp [AV.pureB, AV.pureL, pureL_c, pures]) fun hb => ?_
    clear hb
    refine walkBF (And.intro hxp (And.intro @ncells_mk (And.intro @scells_mk (And.intro hw (And.intro hk (And.intro e1 (And.intro @jcells_acc hb1.symm))))))) ?_
    refine ⟨by first | exact .inr rfl | exact .inl rfl, ?_⟩; rw [Tryz.results69]; simp only [resOk, resV, go_sem, simprocAttr]
    exact ⟨frz_v _ _ _, .c _⟩
set_option maxRecDepth 100000 in
set_option maxHeartbeats 3200000 in
theorem rs_5 (s : ST) (q : Nat) (n : NT) (hn : s.nodes[q]? = some n) (j : JT) (dep lf : Int) (hl0 : -1000 ≤ lf) (hl1 : lf ≤ 1000) (hk : n.kind = 5) (h : ¬ lf - 1 < 0) (hj : JOk j) : Told Tryz.prog 69 [s.av, .c (.v (.int .i64 (q : Int))), j.av, .c (.v (.int .i64 dep)), .c (.v (.int .i64 lf))] (.tup [(VT.mk 5 0 (fltM j.num : Int) [] [] []).av, .c (.v (.int .i64 (lft (j.kd == 3) (lf - 1))))]) := by
  have hql := (List.getElem?_eq_some_iff.1 hn).1
  have hxp : (s.nodes.map NT.cells)[q]? = some n.cells := by rw [List.getElem?_map, hn]; rfl
  have hw : IntKind.i64.wrap (lf - 1) = lf - 1 := wrap64_id (by omega) (by omega)
  have e1 : decide (lf - 1 < 0) = false := by simp; omega
  rw [JT.av_eq, ST.av_eq, VT.av_eq]
  obtain ⟨_, _, i1, i2⟩ := rshape_acc hj.1 hj.2.1
  have hF := rfloat_told j.num i1 i2
  have hlt := fltM_lt j.num i1 i2
  obtain ⟨b, hb1⟩ : ∃ q : Bool, q = (j.kd == 3) := ⟨_, rfl⟩
  rw [← hb1]
  generalize fltM j.num = F at *
  have hw5 : IntKind.u64.wrap (F : Int) = (F : Int) := by rw [IntKind.wrap_u64]; omega
  cases b
  all_goals
    refine VC.told ent_69 Tryz.func69 rfl Tryz.ntmps69 (by simp) (by first | rfl | simp [AV.pureB, AV.pureL, pureL_c, pures]) (by first | rfl | simp [AV.pureB, AV.pureL, pureL_c, pures]) fun hb => ?_
    clear hb
    refine walkBF (And.intro hxp (And.intro @ncells_mk (And.intro @scells_mk (And.intro hw (And.intro hk (And.intro e1 (And.intro @jcells_acc hb1.symm))))))) ?_
    refine walkC (hF) ?_
    refine walkBF (And.intro @jcells_acc (And.intro hb1.symm hw5)) ?_
    refine ⟨by first | exact .inr rfl | exact .inl rfl, ?_⟩; rw [Tryz.results69]; simp only [resOk, resV, go_sem, simprocAttr]
    exact ⟨frz_v _ _ _, .c _⟩
set_option maxRecDepth 100000 in
set_option maxHeartbeats 3200000 in
theorem rs_6 (s : ST) (q : Nat) (n : NT) (hn : s.nodes[q]? = some n) (j : JT) (dep lf : Int) (hl0 : -1000 ≤ lf) (hl1 : lf ≤ 1000) (hk : n.kind = 6) (h : ¬ lf - 1 < 0) (hj : JOk j) : Told Tryz.prog 69 [s.av, .c (.v (.int .i64 (q : Int))), j.av, .c (.v (.int .i64 dep)), .c (.v (.int .i64 lf))] (.tup [(VT.mk 6 0 (dblM j.num : Int) [] [] []).av, .c (.v (.int .i64 (lft (j.kd == 3) (lf - 1))))]) := by
  have hql := (List.getElem?_eq_some_iff.1 hn).1
  have hxp : (s.nodes.map NT.cells)[q]? = some n.cells := by rw [List.getElem?_map, hn]; rfl
  have hw : IntKind.i64.wrap (lf - 1) = lf - 1 := wrap64_id (by omega) (by omega)
  have e1 : decide (lf - 1 < 0) = false := by simp; omega
  rw [JT.av_eq, ST.av_eq, VT.av_eq]
  obtain ⟨_, _, i1, i2⟩ := rshape_acc hj.1 hj.2.1
  have hF := rdouble_told j.num i1 i2
  have hlt := fltM_lt j.num i1 i2
  obtain ⟨b, hb1⟩ : ∃ q : Bool, q = (j.kd == 3) := ⟨_, rfl⟩
  rw [← hb1]
  generalize dblM j.num = F at *
  cases b
  all_goals
    refine VC.told ent_69 Tryz.func69 rfl Tryz.ntmps69 (by simp) (by first | rfl | simp [AV.pureB, AV.pureL, pureL_c, pures]) (by first | rfl | simp [AV.pureB, AV.pureL, pureL_c, pures]) fun hb => ?_
    clear hb
    refine walkBF (And.intro hxp (And.intro @ncells_mk (And.intro @scells_mk (And.intro hw (And.intro hk (And.intro e1 (And.intro @jcells_acc hb1.symm))))))) ?_
    refine walkC (hF) ?_
    refine walkBF (And.intro @jcells_acc hb1.symm) ?_
    refine ⟨by first | exact .inr rfl | exact .inl rfl, ?_⟩; rw [Tryz.results69]; simp only [resOk, resV, go_sem, simprocAttr]
    exact ⟨frz_v _ _ _, .c _⟩
set_option maxRecDepth 100000 in
set_option maxHeartbeats 3200000 in
theorem rs_8 (s : ST) (q : Nat) (n : NT) (hn : s.nodes[q]? = some n) (j : JT) (dep lf : Int) (hl0 : -1000 ≤ lf) (hl1 : lf ≤ 1000) (hk : n.kind = 8) (h : ¬ lf - 1 < 0) (hj : JOk j) : Told Tryz.prog 69 [s.av, .c (.v (.int .i64 (q : Int))), j.av, .c (.v (.int .i64 dep)), .c (.v (.int .i64 lf))] (.tup [(VT.mk 8 0 0 j.txt [] []).av, .c (.v (.int .i64 (lft (j.kd == 4 && decide (j.txt.length ≤ 20000)) (lf - 1))))]) := by
  have hql := (List.getElem?_eq_some_iff.1 hn).1
  have hxp : (s.nodes.map NT.cells)[q]? = some n.cells := by rw [List.getElem?_map, hn]; rfl
  have hw : IntKind.i64.wrap (lf - 1) = lf - 1 := wrap64_id (by omega) (by omega)
  have e1 : decide (lf - 1 < 0) = false := by simp; omega
  rw [JT.av_eq, ST.av_eq, VT.av_eq]
  have ht : j.txt.length ≤ 1000000 := by
    cases j with
    | mk k m s ks xs =>
      have h3 := hj.2.2
      simp only [JT.sm] at h3
      exact h3.1
  have hbs : bytePV (str j.txt).data.toList = bytePV j.txt := by rw [str_dl]
  have e20 : decide (j.txt.length ≤ 20000) = decide ((j.txt.length : Int) ≤ 20000) := decide_eq_decide.2 (by omega)
  obtain ⟨b1, h1⟩ : ∃ q : Bool, q = (j.kd == 4) := ⟨_, rfl⟩
  obtain ⟨b2, h2⟩ : ∃ q : Bool, q = decide ((j.txt.length : Int) ≤ 20000) := ⟨_, rfl⟩
  rw [e20, ← h1, ← h2]
  cases b1 <;> cases b2
  all_goals
    refine VC.told ent_69 Tryz.func69 rfl Tryz.ntmps69 (by simp) (by first | rfl | simp [AV.pureB, AV.pureL, pureL_c, pures]) (by first | rfl | simp [AV.pureB, AV.pureL, pureL_c, pures]) fun hb => ?_
    clear hb
    refine walkBF (And.intro hxp (And.intro @ncells_mk (And.intro @scells_mk (And.intro hw (And.intro hk (And.intro e1 (And.intro @jcells_acc (And.intro @str_size (And.intro hbs (And.intro h1.symm h2.symm)))))))))) ?_
    refine ⟨by first | exact .inr rfl | exact .inl rfl, ?_⟩; rw [Tryz.results69]; simp only [resOk, resV, go_sem, simprocAttr]
    exact ⟨frz_vb _ _ _ _, .c _⟩

def SayOk (ns : List NT) : Prop := ns.length ≤ 1000000 ∧ ∀ n ∈ ns, n.sm 1000000 ∧ (1 ≤ n.kind ∧ n.kind ≤ 14) ∧ (∀ k ∈ kidsN n, 0 ≤ k ∧ k < (ns.length : Int)) ∧ (n.kind = 9 → ∀ fd ∈ n.fields, fd.has = true → JOk fd.dflt) ∧ (n.kind = 13 → ∃ b, n.branches[0]? = some b)
theorem sayM_cnt (ns : List NT) : ∀ d, SayC (sayM ns d) := by
  have hcomp : ∀ (f : Say), SayC f → ∀ (n : NT) (j : JT) (c : Nat), c ≤ 1000 → (compS f n j c).2.1 = true → (compS f n j c).2.2 ≤ 1000 := by
    intro f hf n j c hc h
    have hrec : ∀ (fs : List FT) (c : Nat), c ≤ 1000 → (recF f j fs c).1.isSome = true → (recF f j fs c).2 ≤ 1000 := by
      intro fs
      induction fs with
      | nil => intro c hc _; exact hc
      | cons x xs ih =>
        intro c hc hs
        rw [recF] at hs ⊢
        cases hx : fieldJ j x with
        | none => rw [hx] at hs; simp at hs
        | some i =>
          rw [hx] at hs
          simp only [] at hs ⊢
          by_cases hok : (f x.type i c).2.1 = true
          · rw [if_pos hok] at hs ⊢
            exact ih _ (hf _ _ _ hok) (by simpa using hs)
          · rw [if_neg hok] at hs
            simp at hs
    have hits : ∀ (a : Int) (js : List JT) (c : Nat), c ≤ 1000 → (itsF f a js c).1.isSome = true → (itsF f a js c).2 ≤ 1000 := by
      intro a js
      induction js with
      | nil => intro c hc _; exact hc
      | cons x xs ih =>
        intro c hc hs
        rw [itsF] at hs ⊢
        by_cases hok : (f a x c).2.1 = true
        · rw [if_pos hok] at hs ⊢
          exact ih _ (hf _ _ _ hok) (by simpa using hs)
        · rw [if_neg hok] at hs
          simp at hs
    have hitm : ∀ (a : Int) (c : Nat), c ≤ 1000 → (itemsF f a j c).1.isSome = true → (itemsF f a j c).2 ≤ 1000 := by
      intro a c hc hs
      unfold itemsF at hs ⊢
      split
      · exact hc
      · rename_i hn
        rw [if_neg hn] at hs
        exact hits a j.its c hc hs
    unfold compS at h ⊢
    by_cases h9 : n.kind = 9
    · rw [if_pos h9] at h ⊢
      simp only [Bool.and_eq_true] at h
      exact hrec _ _ hc h.1
    rw [if_neg h9] at h ⊢
    by_cases h11 : n.kind = 11
    · rw [if_pos h11] at h ⊢
      simp only [Bool.and_eq_true] at h
      exact hitm _ _ hc h.1
    rw [if_neg h11] at h ⊢
    by_cases h12 : n.kind = 12
    · rw [if_pos h12] at h ⊢
      simp only [Bool.and_eq_true] at h
      exact hitm _ _ hc h.1
    rw [if_neg h12] at h ⊢
    cases hb : n.branches[0]? with
    | none => rw [hb] at h; simp at h
    | some b =>
      rw [hb] at h
      exact hf _ _ _ h
  intro d
  induction d with
  | zero =>
    intro a j c h
    rw [sayM] at h ⊢
    simp only [] at h ⊢
    cases hn : ns[a.toNat]? with
    | none => rw [hn] at h; simp at h
    | some n =>
      rw [hn] at h
      simp only [] at h ⊢
      split at h
      · simp at h
      · rename_i hc
        rw [if_neg hc]
        simp only []
        omega
  | succ d ih =>
    intro a j c h
    rw [sayM] at h ⊢
    simp only [] at h ⊢
    cases hn : ns[a.toNat]? with
    | none => rw [hn] at h; simp at h
    | some n =>
      rw [hn] at h
      simp only [] at h ⊢
      split at h
      · simp at h
      · rename_i hc
        rw [if_neg hc]
        split at h
        · rename_i hk
          rw [if_pos hk]
          exact hcomp _ ih n j (c + 1) (by omega) h
        · rename_i hk
          rw [if_neg hk]
          simp only []
          omega
theorem say_leaf (ns : List NT) (r : Int) (q : Nat) (n : NT) (hn : ns[q]? = some n) (hk1 : 1 ≤ n.kind) (hk2 : n.kind ≤ 14) (hcm : ¬ compK n.kind = true) (j : JT) (hj : JOk j) (c : Nat) (hc : c ≤ 1000) (dep : Int) (h : ¬ 1000 < c + 1) :
    ToldM Tryz.prog 66 [.ref 1000000 1 0 0, .c (.v (.int .i64 (q : Int))), j.av, .c (.v (.int .i64 dep))] [xSB ns r c] [some (xSB ns r (c + 1))] (.tup [(leafS n j).1.av, .c (.v (.bool (leafS n j).2))]) := by
  have ht : j.txt.length ≤ 1000000 := by
    cases j with
    | mk k m s ks xs =>
      have h3 := hj.2.2
      simp only [JT.sm] at h3
      exact h3.1
  unfold compK at hcm
  simp only [Bool.or_eq_true, beq_iff_eq, not_or] at hcm
  unfold leafS
  by_cases g1 : n.kind = 1
  · rw [if_pos g1]; exact say_1 ns r q n hn j c hc dep g1 h
  rw [if_neg g1]
  by_cases g2 : n.kind = 2
  · rw [if_pos g2]; exact say_2 ns r q n hn j c hc dep g2 h
  rw [if_neg g2]
  by_cases g3 : n.kind = 3 ∨ n.kind = 4 ∨ n.kind = 5 ∨ n.kind = 6
  · rw [if_pos g3]
    exact say_num ns r q n hn j c hc dep g3 h hj
  rw [if_neg g3]
  by_cases g10 : n.kind = 10
  · rw [if_pos g10]; exact say_10 ns r q n hn j c hc dep g10 h
  rw [if_neg g10]
  exact say_text ns r q n hn j c hc dep (by omega) h ht
theorem say13_told (ns : List NT) (r : Int) (hok : SayOk ns) : ∀ d : Nat, d ≤ 20 → SayT ns r (sayM ns d) (20 - (d : Int)) := by
  intro d
  induction d with
  | zero =>
    intro _ a j c ha0 ha1 hj hc
    obtain ⟨q, rfl⟩ : ∃ q : Nat, a = (q : Int) := ⟨a.toNat, by omega⟩
    have hql : q < ns.length := by omega
    obtain ⟨n, hn⟩ : ∃ n, ns[q]? = some n := ⟨ns[q], List.getElem?_eq_getElem hql⟩
    obtain ⟨_, ⟨k1, k2⟩, _⟩ := hok.2 n (List.mem_of_getElem? hn)
    rw [sayM]
    simp only [Int.toNat_natCast, hn]
    by_cases h : compK n.kind = true ∨ 1000 < c + 1
    · rw [if_pos h]
      by_cases hm : 1000 < c + 1
      · exact say_much ns r q n hn j c hc _ hm
      · exact say_deep ns r q n hn j c hc _ (h.resolve_right hm) (by omega)
    · rw [if_neg h]
      exact say_leaf ns r q n hn k1 k2 (fun e => h (.inl e)) j hj c hc _ fun e => h (.inr e)
  | succ d ih =>
    intro hd a j c ha0 ha1 hj hc
    obtain ⟨q, rfl⟩ : ∃ q : Nat, a = (q : Int) := ⟨a.toNat, by omega⟩
    have hql : q < ns.length := by omega
    obtain ⟨n, hn⟩ : ∃ n, ns[q]? = some n := ⟨ns[q], List.getElem?_eq_getElem hql⟩
    obtain ⟨hsm, ⟨k1, k2⟩, hkids, hdf, hbr⟩ := hok.2 n (List.mem_of_getElem? hn)
    have ihT : SayT ns r (sayM ns d) ((20 - ((d + 1 : Nat) : Int)) + 1) := by
      have := ih (by omega)
      rw [show (20 - ((d + 1 : Nat) : Int)) + 1 = 20 - (d : Int) by omega]
      exact this
    have hcnt := sayM_cnt ns d
    rw [sayM]
    simp only [Int.toNat_natCast, hn]
    by_cases hm : 1000 < c + 1
    · rw [if_pos hm]
      exact say_much ns r q n hn j c hc _ hm
    rw [if_neg hm]
    by_cases hcm : compK n.kind = true
    rotate_left
    · rw [if_neg hcm]
      exact say_leaf ns r q n hn k1 k2 hcm j hj c hc _ hm
    rw [if_pos hcm]
    have hcat : n.kind = 9 ∨ n.kind = 11 ∨ n.kind = 12 ∨ n.kind = 13 := by
      unfold compK at hcm
      simp only [Bool.or_eq_true, beq_iff_eq] at hcm
      omega
    have hd20 : 20 - ((d + 1 : Nat) : Int) < 20 := by omega
    have hd0 : 0 ≤ 20 - ((d + 1 : Nat) : Int) := by omega
    unfold compS
    by_cases h9 : n.kind = 9
    · rw [if_pos h9]
      refine say_9 ns r q n hn j c hc _ h9 hm hd20 hd0 _ ihT hcnt hj hsm (fun fd hfd => hkids fd.type ?_) (hdf h9)
      unfold kidsN
      rw [if_pos h9]
      exact List.mem_map.2 ⟨fd, hfd, rfl⟩
    rw [if_neg h9]
    have hit : n.kind = 11 ∨ n.kind = 12 → 0 ≤ n.items ∧ n.items < (ns.length : Int) := fun e => hkids n.items (by
      unfold kidsN
      rw [if_neg h9, if_pos e]
      simp)
    by_cases h11 : n.kind = 11
    · rw [if_pos h11]
      exact say_11 ns r q n hn j c hc _ h11 hm hd20 hd0 _ ihT hcnt hj (hit (.inl h11)).1 (hit (.inl h11)).2
    rw [if_neg h11]
    by_cases h12 : n.kind = 12
    · rw [if_pos h12]
      exact say_12 ns r q n hn j c hc _ h12 hm hd20 hd0 _ ihT hcnt hj (hit (.inr h12)).1 (hit (.inr h12)).2
    rw [if_neg h12]
    have h13 : n.kind = 13 := by omega
    obtain ⟨b, hb⟩ := hbr h13
    have hbk := hkids b (by
      unfold kidsN
      rw [if_neg h9, if_neg (by omega), if_pos h13]
      exact List.mem_of_getElem? hb)
    rw [hb]
    exact say_13 ns r q n hn j c hc _ h13 hm hd20 hd0 _ ihT hcnt hj b hb hbk.1 hbk.2
/-! Of. -/
noncomputable def ofM (s : ST) (a : Int) (j : JT) : VT × Int :=
  if 0 ≤ a ∧ a < (s.nodes.length : Int) ∧ rightM s = true ∧ jR j = true then
    (if (sayM s.nodes 20 a j 0).2.1 = true then ((sayM s.nodes 20 a j 0).1, 0) else (vz 0, 35)) else (vz 0, 2)

def RSayT (s : ST) (f : Say) (rv : Int → JT → Nat → VT) (dep : Int) : Prop := ∀ (a : Int) (j : JT) (c : Nat), 0 ≤ a → a < (s.nodes.length : Int) → JOk j → c ≤ 1000 →
  Told Tryz.prog 69 [s.av, .c (.v (.int .i64 a)), j.av, .c (.v (.int .i64 dep)), .c (.v (.int .i64 (1000 - (c : Int))))] (.tup [(rv a j c).av, .c (.v (.int .i64 (lft (f a j c).2.1 (1000 - ((f a j c).2.2 : Int)))))]) ∧ ((f a j c).2.1 = true → rv a j c = (f a j c).1)
def rlistV (f : Say) (rv : Int → JT → Nat → VT) (a : Int) : List JT → Nat → List VT
  | [], _ => []
  | i :: is, c => rv a i c :: (if (f a i c).2.1 = true then rlistV f rv a is (f a i c).2.2 else [])
theorem rlistV_ok {s : ST} {f : Say} {rv : Int → JT → Nat → VT} {dep : Int} (hT : RSayT s f rv dep) (hC : SayC f) {a : Int} (ha : 0 ≤ a) (hb : a < (s.nodes.length : Int)) : ∀ (js : List JT), (∀ x ∈ js, JOk x) → ∀ (c : Nat), c ≤ 1000 → ∀ vs, (itsF f a js c).1 = some vs → rlistV f rv a js c = vs
  | [], _, c, _, vs, h => by
    rw [itsF] at h
    exact Option.some.inj h
  | i :: is, hx, c, hc, vs, h => by
    rw [itsF] at h
    rw [rlistV]
    by_cases hok : (f a i c).2.1 = true
    · rw [if_pos hok] at h ⊢
      cases hr : (itsF f a is (f a i c).2.2).1 with
      | none => rw [hr] at h; simp at h
      | some us =>
        rw [hr] at h
        simp only [Option.map_some, Option.some.injEq] at h
        rw [rlistV_ok hT hC ha hb is (fun x h => hx x (by simp [h])) _ (hC _ _ _ hok) us hr, (hT a i c ha hb (hx i (by simp)) hc).2 hok]
        exact h
    · rw [if_neg hok] at h
      simp at h
def lftO : Option Nat → Int
  | some c => 1000 - (c : Int)
  | none => -1
def rlO (f : Say) (rv : Int → JT → Nat → VT) (a : Int) (js : List JT) : Option Nat → List VT
  | some c => rlistV f rv a js c
  | none => []
def itO (f : Say) (a : Int) (js : List JT) (S : Bool) (E : Nat) : Option Nat → Prop
  | some c => c ≤ 1000 ∧ S = (itsF f a js c).1.isSome ∧ E = (itsF f a js c).2
  | none => S = false
set_option maxRecDepth 100000 in
set_option maxHeartbeats 3200000 in
theorem rlist_told (s : ST) (f : Say) (rv : Int → JT → Nat → VT) (dep : Int) (hT : RSayT s f rv dep) (hC : SayC f) (a : Int) (ha : 0 ≤ a) (hb' : a < (s.nodes.length : Int)) (its : List JT) (hits : ∀ x ∈ its, JOk x) (hlen : its.length ≤ 1000000) (c0 : Nat) (hc0 : c0 ≤ 1000) :
    Told Tryz.prog 115 [s.av, .c (.v (.int .i64 a)), .c (.sl 5 (its.map JT.cells)), .c (.v (.int .i64 dep)), .c (.v (.int .i64 (1000 - (c0 : Int))))] (.tup [.c (.sl 6 ((rlistV f rv a its c0).map VT.cells)), .c (.v (.int .i64 (lft (itsF f a its c0).1.isSome (1000 - ((itsF f a its c0).2 : Int)))))]) := by
  obtain ⟨S, hS⟩ : ∃ S, S = (itsF f a its c0).1.isSome := ⟨_, rfl⟩
  obtain ⟨E, hE⟩ : ∃ E, E = (itsF f a its c0).2 := ⟨_, rfl⟩
  obtain ⟨RL, hRL⟩ : ∃ RL, RL = rlistV f rv a its c0 := ⟨_, rfl⟩
  rw [← hS, ← hE, ← hRL]
  rw [ST.av_eq]
  refine VC.told ent_115 Tryz.func115 rfl Tryz.ntmps115 (by simp) (by first | rfl | simp [AV.pureB, AV.pureL, pureL_c, pures]) (by first | rfl | simp [AV.pureB, AV.pureL, pureL_c, pures]) fun hb => ?_
  clear hb
  refine walkG ?_
  refine VC.nil 12 43 6 (by rfl) (by trivial) (by rfl) ?_
  refine VC.loop (ι := {q : Nat × List VT × Option Nat // q.1 ≤ its.length ∧ q.2.1.length ≤ its.length ∧ RL = q.2.1 ++ rlO f rv a (its.drop q.1) q.2.2 ∧ itO f a (its.drop q.1) S E q.2.2 ∧ q.2.1.length = q.1})
    (fun q => [(5, .ref 0 1 0 0), (1, .c (.v (.int .i64 a))), (2, .c (.sl 5 (its.map JT.cells))), (3, .c (.v (.int .i64 dep))), (4, .c (.v (.int .i64 (lftO q.1.2.2)))), (12, .row 40 q.1.2.1.length), (13, .c (.v (.int .i64 (q.1.1 : Int))))])
    (fun q => [(0, ⟨false, 24, 2, [s.cells.map .c]⟩), (40, ⟨true, 43, 6, rA VT.cells q.1.2.1⟩)]) 800 (fun q => its.length - q.1.1)
    ⟨(0, [], some c0), Nat.zero_le _, Nat.zero_le _, by rw [hRL]; rfl, ⟨hc0, hS, hE⟩, rfl⟩ ?_ ?_
  · simp only [scells_mk, rA_len, rA_sc, Weak, eq_self, used_is, sc_any, sc_c, sc_pp, sc_ref, sc_row, sc_agg, sc_fn, ScL, some_imp, List.forall_mem_map, go_sem, Int.reduceBEq, Int.reduceLE, Int.reduceLT, Int.reduceNeg, Nat.reduceAdd, Nat.reduceEqDiff, Nat.reduceLT, Nat.reduceLeDiff, Nat.reduceMul, Nat.reduceSub, reduceCtorEq, ↓reduceIte]
    all_goals first | rfl | exact ⟨rfl, rfl⟩ | simp [rA]
  rintro ⟨⟨i, out, so⟩, hi, hol, hrl, hit, hoi⟩
  simp only [] at hi hol hrl hit hoi ⊢
  have hl : (rA VT.cells out).length = out.length := by rw [rA_len]
  by_cases hlt : i < its.length
  rotate_left
  · have hie : i = its.length := by omega
    have e0 : decide ((i : Int) < (its.length : Int)) = false := by simp; omega
    have hfin : RL = out ∧ lft S (1000 - (E : Int)) = lftO so := by
      cases so with
      | none =>
        refine ⟨by rw [hrl]; simp [rlO], ?_⟩
        rw [show S = false from hit]
        rfl
      | some c =>
        obtain ⟨_, h1, h2⟩ := hit
        rw [hie, List.drop_length, itsF] at h1 h2
        refine ⟨by rw [hrl, hie, List.drop_length]; simp [rlO, rlistV], ?_⟩
        rw [h1, h2]
        rfl
    refine walkBF (e0) ?_
    refine ⟨by first | exact .inr rfl | exact .inl rfl, ?_⟩; rw [Tryz.results115]; simp only [resOk, resV, go_sem, simprocAttr]
    rw [hfin.1, hfin.2]
    exact ⟨frz_rA (f := VT.cells) (l := out) (T := 43) rfl rfl rfl fun x _ => len_vcells x, .c _⟩
  have e0 : decide ((i : Int) < (its.length : Int)) = true := by simp; omega
  cases so with
  | none =>
    have hfin : RL = out ∧ lft S (1000 - (E : Int)) = -1 := by
      refine ⟨by rw [hrl]; simp [rlO], ?_⟩
      rw [show S = false from hit]
      rfl
    have e1 : decide ((-1 : Int) ≥ 0) = false := by decide
    simp only [lftO]
    refine walkBF (And.intro e0 e1) ?_
    refine ⟨by first | exact .inr rfl | exact .inl rfl, ?_⟩; rw [Tryz.results115]; simp only [resOk, resV, go_sem, simprocAttr]
    rw [hfin.1, hfin.2]
    exact ⟨frz_rA (f := VT.cells) (l := out) (T := 43) rfl rfl rfl fun x _ => len_vcells x, .c _⟩
  | some c =>
    obtain ⟨hc, h1, h2⟩ := hit
    have e1 : decide ((1000 : Int) - (c : Int) ≥ 0) = true := by simp; omega
    obtain ⟨t, hx⟩ : ∃ t, its[i]? = some t := ⟨its[i], List.getElem?_eq_getElem hlt⟩
    have hxq : (its.map JT.cells)[i]? = some t.cells := by rw [List.getElem?_map, hx]; rfl
    have hw : IntKind.i64.wrap ((i : Int) + 1) = (i : Int) + 1 := wrap64_id (by omega) (by omega)
    have hdr : its.drop i = t :: its.drop (i + 1) := by
      rw [List.drop_eq_getElem_cons hlt]
      congr 1
      exact Option.some.inj ((List.getElem?_eq_getElem hlt).symm.trans hx)
    have hSay := (hT a t c ha hb' (hits t (List.mem_of_getElem? hx)) hc).1
    simp only [lftO]
    rw [hdr] at h1 h2
    rw [itsF] at h1 h2
    obtain ⟨so2, hso, hrl2, hit2⟩ : ∃ so2 : Option Nat, lft (f a t c).2.1 (1000 - ((f a t c).2.2 : Int)) = lftO so2 ∧ RL = (out ++ [rv a t c]) ++ rlO f rv a (its.drop (i + 1)) so2 ∧ itO f a (its.drop (i + 1)) S E so2 := by
      rw [hdr] at hrl
      simp only [rlO, rlistV] at hrl
      by_cases hok : (f a t c).2.1 = true
      · rw [if_pos hok] at h1 h2 hrl
        refine ⟨some (f a t c).2.2, by rw [hok]; rfl, by rw [hrl]; simp [rlO], hC _ _ _ hok, ?_, h2⟩
        rw [h1]
        cases (itsF f a (its.drop (i + 1)) (f a t c).2.2).1 <;> rfl
      · rw [if_neg hok] at h1 h2 hrl
        refine ⟨none, by rw [show (f a t c).2.1 = false by simpa using hok]; rfl, by rw [hrl]; simp [rlO], h1⟩
    rw [hso] at hSay
    generalize rv a t c = v at *
    rw [ST.av_eq, JT.av_eq, VT.av_eq] at hSay
    clear hso h1 h2
    refine walkBF (And.intro e0 (And.intro e1 (And.intro hxq (And.intro @len_cells (And.intro @take_cells (And.intro @take_cellsC (And.intro @len_scells (And.intro @take_scells @take_scellsC)))))))) ?_
    refine walkCF (@pureL_c) (hSay) ?_
    refine walkBF (And.intro @len_vcells (And.intro @take_vcells (And.intro @take_vcellsC (And.intro hl (And.intro @rA_vone hw))))) ?_
    refine .next ⟨(i + 1, out ++ [v], so2), by simp only []; omega, by simp; omega, hrl2, hit2, by simp [hoi]⟩ ?_ (by simp only []; omega)
    simp only [scells_mk, rA_len, rA_sc, Weak, eq_self, used_is, sc_any, sc_c, sc_pp, sc_ref, sc_row, sc_agg, sc_fn, ScL, some_imp, List.forall_mem_map, go_sem, Int.reduceBEq, Int.reduceLE, Int.reduceLT, Int.reduceNeg, Nat.reduceAdd, Nat.reduceEqDiff, Nat.reduceLT, Nat.reduceLeDiff, Nat.reduceMul, Nat.reduceSub, reduceCtorEq, ↓reduceIte]
    exact ⟨⟨by cases so2 <;> rfl, by simp, cI (by omega)⟩, Nat.le_refl _⟩

def lastF (t : List UInt8) : List (List UInt8) → Nat → Option Nat → Option Nat
  | [], _, m => m
  | x :: xs, i, m => lastF t xs (i + 1) (if x = t then some i else m)
theorem lastF_no (t : List UInt8) : ∀ (l : List (List UInt8)) (i : Nat) (m : Option Nat), t ∉ l → lastF t l i m = m
  | [], _, _, _ => rfl
  | x :: xs, i, m, h => by
    rw [lastF, if_neg (fun e => h (by simp [e])), lastF_no t xs (i + 1) m fun e => h (by simp [e])]
theorem lastF_idx (t : List UInt8) : ∀ (l : List (List UInt8)), l.Nodup → ∀ (i : Nat) (m : Option Nat), lastF t l i m = if t ∈ l then some (i + (idxS t l).toNat) else m
  | [], _, _, _ => rfl
  | x :: xs, h, i, m => by
    obtain ⟨h1, h2⟩ := List.nodup_cons.1 h
    rw [lastF]
    by_cases e : x = t
    · rw [if_pos e, lastF_no t xs _ _ (e ▸ h1), if_pos (by simp [e]), idxS_at (i := 0) (by simp [e]) (by omega)]
      simp
    · rw [if_neg e, lastF_idx t xs h2]
      by_cases ht : t ∈ xs
      · have hm : t ∈ x :: xs := by simp [ht]
        rw [if_pos ht, if_pos hm]
        unfold idxS
        rw [List.findIdx?_cons]
        have e2 : decide (t = x) = false := by simpa using fun k => e k.symm
        simp only [e2]
        cases hf : xs.findIdx? fun k => decide (t = k) with
        | none =>
          rw [List.findIdx?_eq_none_iff] at hf
          have := hf t ht
          simp at this
        | some q => simp; omega
      · have hm : t ∉ x :: xs := by simp only [List.mem_cons, not_or]; exact ⟨fun k => e k.symm, ht⟩
        rw [if_neg ht, if_neg hm]
set_option maxRecDepth 100000 in
set_option maxHeartbeats 3200000 in
theorem rs_13 (s : ST) (q : Nat) (n : NT) (hn : s.nodes[q]? = some n) (j : JT) (c : Nat) (hm : ¬ 1000 < c + 1) (dep : Int) (hk : n.kind = 13) (hd : dep < 20) (hd0 : 0 ≤ dep) (f : Say) (rv : Int → JT → Nat → VT) (hT : RSayT s f rv (dep + 1)) (hj : JOk j) (b : Int) (hb0 : n.branches[0]? = some b) (hi0 : 0 ≤ b) (hi1 : b < (s.nodes.length : Int)) : Told Tryz.prog 69 [s.av, .c (.v (.int .i64 (q : Int))), j.av, .c (.v (.int .i64 dep)), .c (.v (.int .i64 (1000 - (c : Int))))] (.tup [(VT.mk 13 0 0 [] [rv b j (c + 1)] []).av, .c (.v (.int .i64 (lft (f b j (c + 1)).2.1 (1000 - ((f b j (c + 1)).2.2 : Int)))))]) := by
  have hql := (List.getElem?_eq_some_iff.1 hn).1
  have hxp : (s.nodes.map NT.cells)[q]? = some n.cells := by rw [List.getElem?_map, hn]; rfl
  have hw : IntKind.i64.wrap (1000 - (c : Int) - 1) = 1000 - ((c + 1 : Nat) : Int) := by rw [wrap64_id (by omega) (by omega)]; omega
  have e1 : decide (1000 - ((c + 1 : Nat) : Int) < 0) = false := by simp; omega
  have hD : (dep == 20) = false := by simp; omega
  have hw2 : IntKind.i64.wrap (dep + 1) = dep + 1 := wrap64_id (by omega) (by omega)
  have hS := (hT b j (c + 1) hi0 hi1 hj (by omega)).1
  have hbp : (n.branches.map iPV)[0]? = some (iPV b) := by rw [List.getElem?_map, hb0]; rfl
  have hbl : 0 < n.branches.length := (List.getElem?_eq_some_iff.1 hb0).1
  generalize lft (f b j (c + 1)).2.1 (1000 - ((f b j (c + 1)).2.2 : Int)) = L at *
  generalize rv b j (c + 1) = v at *
  generalize 1000 - ((c + 1 : Nat) : Int) = l1 at *
  rw [JT.av_eq] at hS ⊢
  rw [ST.av_eq] at hS ⊢
  rw [VT.av_eq] at hS ⊢
  refine VC.told ent_69 Tryz.func69 rfl Tryz.ntmps69 (by simp) (by first | rfl | simp [AV.pureB, AV.pureL, pureL_c, pures]) (by first | rfl | simp [AV.pureB, AV.pureL, pureL_c, pures]) fun hb => ?_
  clear hb
  refine walkBF (And.intro hxp (And.intro @ncells_mk (And.intro @scells_mk (And.intro hw (And.intro hk (And.intro hD (And.intro e1 (And.intro hw2 (And.intro hbp (And.intro @iPV_eq (And.intro @len_cells (And.intro @take_cells (And.intro @take_cellsC (And.intro @len_scells (And.intro @take_scells @take_scellsC))))))))))))))) ?_
  refine walkCF (And.intro hw2 (And.intro @len_cells (And.intro @take_cells (And.intro @take_cellsC @pureL_c)))) (hS) ?_
  refine walkBF (And.intro @len_vcells (And.intro @take_vcells @take_vcellsC)) ?_
  refine ⟨by first | exact .inr rfl | exact .inl rfl, ?_⟩; rw [Tryz.results69]; simp only [resOk, resV, go_sem, simprocAttr]
  refine ⟨?_, .c _⟩
  rw [vcells_mk]
  exact Frz.aggL (.cons (.c _) (.cons (.c _) (.cons (.c _) (.cons (.nil 1) (.cons (frz_rA (f := VT.cells) (l := [v]) (T := 43) rfl rfl rfl fun x _ => len_vcells x) (.cons (.nil 1) .nil))))))
set_option maxRecDepth 100000 in
set_option maxHeartbeats 3200000 in
theorem rs_10 (s : ST) (q : Nat) (n : NT) (hn : s.nodes[q]? = some n) (j : JT) (c : Nat) (hm : ¬ 1000 < c + 1) (dep : Int) (hk : n.kind = 10) (hdf : n.symbols.Nodup) (hsl : n.symbols.length ≤ 1000000) : ∃ x : Int, Told Tryz.prog 69 [s.av, .c (.v (.int .i64 (q : Int))), j.av, .c (.v (.int .i64 dep)), .c (.v (.int .i64 (1000 - (c : Int))))] (.tup [(VT.mk 10 x 0 [] [] []).av, .c (.v (.int .i64 (lft (j.kd == 4 && decide (0 ≤ idxS j.txt n.symbols)) (1000 - ((c + 1 : Nat) : Int)))))]) ∧ ((j.kd == 4 && decide (0 ≤ idxS j.txt n.symbols)) = true → x = idxS j.txt n.symbols) := by
  have hql := (List.getElem?_eq_some_iff.1 hn).1
  have hxp : (s.nodes.map NT.cells)[q]? = some n.cells := by rw [List.getElem?_map, hn]; rfl
  have hw : IntKind.i64.wrap (1000 - (c : Int) - 1) = 1000 - ((c + 1 : Nat) : Int) := by rw [wrap64_id (by omega) (by omega)]; omega
  have e1 : decide (1000 - ((c + 1 : Nat) : Int) < 0) = false := by simp; omega
  have hix := idxS_le j.txt n.symbols
  have hlF := lastF_idx j.txt n.symbols hdf 0 none
  obtain ⟨b1, h1⟩ : ∃ b : Bool, b = (j.kd == 4) := ⟨_, rfl⟩
  rw [JT.av_eq, ST.av_eq, ← h1]
  rw [idxS_mem]
  cases b1 with
  | false =>
    refine ⟨0, ?_, by simp⟩
    rw [VT.av_eq]
    refine VC.told ent_69 Tryz.func69 rfl Tryz.ntmps69 (by simp) (by first | rfl | simp [AV.pureB, AV.pureL, pureL_c, pures]) (by first | rfl | simp [AV.pureB, AV.pureL, pureL_c, pures]) fun hb => ?_
    clear hb
    refine walkBF (And.intro hxp (And.intro @ncells_mk (And.intro @scells_mk (And.intro hw (And.intro hk (And.intro e1 (And.intro @jcells_acc h1.symm))))))) ?_
    refine VC.loop (ι := Unit)
      (fun q => [(4, .c (.v (.int .i64 (1000 - ((c + 1 : Nat) : Int))))), (7, .ref 8 1 0 0), (10, .ref 16 1 0 0), (12, .ref 72 1 0 0), (13, .ref 136 1 0 0), (14, .c (.v (.bool false))), (18, .c (.v (.int .i64 ((0 : Nat) : Int))))])
      (fun q => [(8, ⟨false, 36, 5, [j.cells.map .c]⟩), (16, ⟨false, 43, 6, [[.c (.v (.int .i64 0)), .c (.v (.int .i64 0)), .c (.v (.int .u64 0)), .c (.v (.slice none 0 0)), .c (.v (.slice none 0 0)), .c (.v (.slice none 0 0))]]⟩), (72, ⟨false, 33, 10, [n.cells.map .c]⟩), (136, ⟨false, 43, 6, [[.c (.v (.int .i64 10)), .c (.v (.int .i64 (0 : Int))), .c (.v (.int .u64 0)), .c (.v (.slice none 0 0)), .c (.v (.slice none 0 0)), .c (.v (.slice none 0 0))]]⟩)]) 1600 (fun q => 0)
      () ?_ ?_
    · simp only [ncells_mk, hk, jcells_acc, Weak, eq_self, used_is, sc_any, sc_c, sc_pp, sc_ref, sc_row, sc_agg, sc_fn, ScL, some_imp, List.forall_mem_map, go_sem, Int.reduceBEq, Int.reduceLE, Int.reduceLT, Int.reduceNeg, Nat.reduceAdd, Nat.reduceEqDiff, Nat.reduceLT, Nat.reduceLeDiff, Nat.reduceMul, Nat.reduceSub, reduceCtorEq, ↓reduceIte]
      all_goals first | rfl | exact ⟨rfl, rfl⟩ | exact ⟨⟨rfl, rfl⟩, rfl⟩ | skip
    rintro ⟨⟩
    obtain ⟨e0, he0⟩ : ∃ e0 : Bool, e0 = decide ((0 : Int) < (n.symbols.length : Int)) := ⟨_, rfl⟩
    cases e0
    all_goals
      refine walkBF (And.intro @ncells_mk (And.intro hk (And.intro @jcells_acc (And.intro h1.symm he0.symm)))) ?_
      refine ⟨by first | exact .inr rfl | exact .inl rfl, ?_⟩; rw [Tryz.results69]; simp only [resOk, resV, go_sem, simprocAttr]
      exact ⟨frz_v _ _ _, .c _⟩
  | true =>
    refine ⟨((lastF j.txt n.symbols 0 none).getD 0 : Nat), ?_, fun h => ?_⟩
    rotate_left
    · have hmm : j.txt ∈ n.symbols := by simpa using h
      have h0 : 0 ≤ idxS j.txt n.symbols := by simpa [hmm] using idxS_mem j.txt n.symbols
      rw [hlF, if_pos hmm]
      simp only [Option.getD_some]
      omega
    rw [show (true && decide (j.txt ∈ n.symbols)) = (lastF j.txt n.symbols 0 none).isSome by
      rw [hlF]
      by_cases hmm : j.txt ∈ n.symbols
      · rw [if_pos hmm]; simp [hmm]
      · rw [if_neg hmm]; simp [hmm]]
    generalize hFIN : lastF j.txt n.symbols 0 none = FIN
    rw [VT.av_eq]
    refine VC.told ent_69 Tryz.func69 rfl Tryz.ntmps69 (by simp) (by first | rfl | simp [AV.pureB, AV.pureL, pureL_c, pures]) (by first | rfl | simp [AV.pureB, AV.pureL, pureL_c, pures]) fun hb => ?_
    clear hb
    refine walkBF (And.intro hxp (And.intro @ncells_mk (And.intro @scells_mk (And.intro hw (And.intro hk (And.intro e1 (And.intro @jcells_acc h1.symm))))))) ?_
    refine VC.loop (ι := {q : Nat × Option Nat // q.1 ≤ n.symbols.length ∧ FIN = lastF j.txt (n.symbols.drop q.1) q.1 q.2})
      (fun q => [(4, .c (.v (.int .i64 (1000 - ((c + 1 : Nat) : Int))))), (7, .ref 8 1 0 0), (10, .ref 16 1 0 0), (12, .ref 72 1 0 0), (13, .ref 136 1 0 0), (14, .c (.v (.bool q.1.2.isSome))), (18, .c (.v (.int .i64 (q.1.1 : Int))))])
      (fun q => [(8, ⟨false, 36, 5, [j.cells.map .c]⟩), (16, ⟨false, 43, 6, [[.c (.v (.int .i64 0)), .c (.v (.int .i64 0)), .c (.v (.int .u64 0)), .c (.v (.slice none 0 0)), .c (.v (.slice none 0 0)), .c (.v (.slice none 0 0))]]⟩), (72, ⟨false, 33, 10, [n.cells.map .c]⟩), (136, ⟨false, 43, 6, [[.c (.v (.int .i64 10)), .c (.v (.int .i64 ((q.1.2.getD 0 : Nat) : Int))), .c (.v (.int .u64 0)), .c (.v (.slice none 0 0)), .c (.v (.slice none 0 0)), .c (.v (.slice none 0 0))]]⟩)]) 1600 (fun q => n.symbols.length - q.1.1)
      ⟨(0, none), Nat.zero_le _, hFIN.symm⟩ ?_ ?_
    · simp only [ncells_mk, hk, jcells_acc, Weak, eq_self, used_is, sc_any, sc_c, sc_pp, sc_ref, sc_row, sc_agg, sc_fn, ScL, some_imp, List.forall_mem_map, go_sem, Int.reduceBEq, Int.reduceLE, Int.reduceLT, Int.reduceNeg, Nat.reduceAdd, Nat.reduceEqDiff, Nat.reduceLT, Nat.reduceLeDiff, Nat.reduceMul, Nat.reduceSub, reduceCtorEq, ↓reduceIte]
      all_goals first | rfl | exact ⟨rfl, rfl⟩ | exact ⟨⟨rfl, rfl⟩, rfl⟩ | skip
    rintro ⟨⟨i, m⟩, hi, hF⟩
    simp only [] at hi hF ⊢
    by_cases hlt : i < n.symbols.length
    rotate_left
    · have hie : i = n.symbols.length := by omega
      have e0 : decide ((i : Int) < (n.symbols.length : Int)) = false := by simp; omega
      have hFm : FIN = m := by rw [hF, hie, List.drop_length]; rfl
      subst hFm
      cases FIN
      all_goals
        refine walkBF (And.intro @ncells_mk (And.intro hk (And.intro @jcells_acc (And.intro h1.symm e0)))) ?_
        refine ⟨by first | exact .inr rfl | exact .inl rfl, ?_⟩; rw [Tryz.results69]; simp only [resOk, resV, go_sem, simprocAttr]
        exact ⟨frz_v _ _ _, .c _⟩
    have e0 : decide ((i : Int) < (n.symbols.length : Int)) = true := by simp; omega
    obtain ⟨x, hx⟩ : ∃ x, n.symbols[i]? = some x := ⟨n.symbols[i], List.getElem?_eq_getElem hlt⟩
    have hxq : (n.symbols.map sPV)[i]? = some (sPV x) := by rw [List.getElem?_map, hx]; rfl
    have hw3 : IntKind.i64.wrap ((i : Int) + 1) = (i : Int) + 1 := wrap64_id (by omega) (by omega)
    have hdr : n.symbols.drop i = x :: n.symbols.drop (i + 1) := by
      rw [List.drop_eq_getElem_cons hlt]
      congr 1
      exact Option.some.inj ((List.getElem?_eq_getElem hlt).symm.trans hx)
    rw [hdr, lastF] at hF
    refine walkBF (And.intro @ncells_mk (And.intro hk (And.intro @jcells_acc (And.intro h1.symm (And.intro e0 (And.intro hxq (And.intro @sPV_eq @str_toList))))))) ?_
    refine VC.cond (by rfl) (by trivial) (fun hc2 => ?_) (fun hc2 => ?_)
    · have hxy : x = j.txt := by simpa using hc2
      rw [if_pos hxy] at hF
      refine walkGF (hw3) ?_
      refine .next ⟨(i + 1, some i), by simp only []; omega, hF⟩ ?_ (by simp only []; omega)
      simp only [ncells_mk, hk, jcells_acc, Weak, eq_self, used_is, sc_any, sc_c, sc_pp, sc_ref, sc_row, sc_agg, sc_fn, ScL, some_imp, List.forall_mem_map, go_sem, Int.reduceBEq, Int.reduceLE, Int.reduceLT, Int.reduceNeg, Nat.reduceAdd, Nat.reduceEqDiff, Nat.reduceLT, Nat.reduceLeDiff, Nat.reduceMul, Nat.reduceSub, reduceCtorEq, ↓reduceIte]
      exact ⟨rfl, cI (by omega)⟩
    · have hxy : x ≠ j.txt := by simpa using hc2
      rw [if_neg hxy] at hF
      refine walkGF (hw3) ?_
      refine .next ⟨(i + 1, m), by simp only []; omega, hF⟩ ?_ (by simp only []; omega)
      simp only [ncells_mk, hk, jcells_acc, Weak, eq_self, used_is, sc_any, sc_c, sc_pp, sc_ref, sc_row, sc_agg, sc_fn, ScL, some_imp, List.forall_mem_map, go_sem, Int.reduceBEq, Int.reduceLE, Int.reduceLT, Int.reduceNeg, Nat.reduceAdd, Nat.reduceEqDiff, Nat.reduceLT, Nat.reduceLeDiff, Nat.reduceMul, Nat.reduceSub, reduceCtorEq, ↓reduceIte]
      exact cI (by omega)

set_option maxRecDepth 100000 in
set_option maxHeartbeats 3200000 in
theorem rs_1112 (s : ST) (q : Nat) (n : NT) (hn : s.nodes[q]? = some n) (j : JT) (c : Nat) (hm : ¬ 1000 < c + 1) (dep : Int) (hk : n.kind = 11 ∨ n.kind = 12) (hd : dep < 20) (hd0 : 0 ≤ dep) (f : Say) (rv : Int → JT → Nat → VT) (hT : RSayT s f rv (dep + 1)) (hC : SayC f) (hj : JOk j) (hi0 : 0 ≤ n.items) (hi1 : n.items < (s.nodes.length : Int)) : ∃ v : VT, Told Tryz.prog 69 [s.av, .c (.v (.int .i64 (q : Int))), j.av, .c (.v (.int .i64 dep)), .c (.v (.int .i64 (1000 - (c : Int))))] (.tup [v.av, .c (.v (.int .i64 (lft ((itemsF f n.items j (c + 1)).1.isSome && j.kd == n.kind - 6) (1000 - ((itemsF f n.items j (c + 1)).2 : Int)))))]) ∧ (((itemsF f n.items j (c + 1)).1.isSome && j.kd == n.kind - 6) = true → v = (.mk n.kind 0 0 [] ((itemsF f n.items j (c + 1)).1.getD []) (if n.kind = 12 then j.keys else []))) := by
  have hql := (List.getElem?_eq_some_iff.1 hn).1
  have hxp : (s.nodes.map NT.cells)[q]? = some n.cells := by rw [List.getElem?_map, hn]; rfl
  have hw : IntKind.i64.wrap (1000 - (c : Int) - 1) = 1000 - ((c + 1 : Nat) : Int) := by rw [wrap64_id (by omega) (by omega)]; omega
  have e1 : decide (1000 - ((c + 1 : Nat) : Int) < 0) = false := by simp; omega
  have hD : (dep == 20) = false := by simp; omega
  have hw6 : IntKind.i64.wrap (n.kind - 6) = n.kind - 6 := wrap64_id (by omega) (by omega)
  have k1 : (n.kind == 1) = false := by simp; omega
  have k2 : (n.kind == 2) = false := by simp; omega
  have k3 : (n.kind == 3) = false := by simp; omega
  have k4 : (n.kind == 4) = false := by simp; omega
  have k5 : (n.kind == 5) = false := by simp; omega
  have k6 : (n.kind == 6) = false := by simp; omega
  have k7 : (n.kind == 7) = false := by simp; omega
  have k8 : (n.kind == 8) = false := by simp; omega
  have k9 : (n.kind == 9) = false := by simp; omega
  have k10 : (n.kind == 10) = false := by simp; omega
  have k14 : (n.kind == 14) = false := by simp; omega
  obtain ⟨b0, k11⟩ : ∃ b : Bool, b = (n.kind == 11) := ⟨_, rfl⟩
  have k12 : (n.kind == 12) = !b0 := by
    rw [k11]
    rcases hk with e | e <;> rw [e] <;> rfl
  have hw2 : IntKind.i64.wrap (dep + 1) = dep + 1 := wrap64_id (by omega) (by omega)
  have hits : ∀ x ∈ j.its, JOk x := by
    cases j with
    | mk k m s ks xs => exact jok_mem hj
  have hsm : j.its.length ≤ 1000000 ∧ j.keys.length ≤ 1000000 ∧ (∀ k ∈ j.keys, k.length ≤ 1000000) := by
    cases j with
    | mk k m s ks xs =>
      have h3 := hj.2.2
      simp only [JT.sm] at h3
      exact ⟨h3.2.2.2.1, h3.2.1, h3.2.2.1⟩
  have hke : j.kd = 5 → j.keys = [] := by
    cases j with
    | mk k m s ks xs =>
      intro e
      have h3 := hj.1
      rw [rshape] at h3
      simp only [JT.kd] at e
      subst e
      simp only [Bool.and_eq_true, Bool.not_eq_true'] at h3
      have h4 := h3.1.1
      cases ks with
      | nil => rfl
      | cons x ks => simp [rfail] at h4
  obtain ⟨b1, h1⟩ : ∃ b : Bool, b = (j.kd == n.kind - 6) := ⟨_, rfl⟩
  obtain ⟨b2, h2⟩ : ∃ b : Bool, b = decide ((j.its.length : Int) ≤ 300) := ⟨_, rfl⟩
  obtain ⟨B, hB⟩ : ∃ b : Bool, b = j.keys.all (fun k => decide ((k.length : Int) ≤ 20000)) := ⟨_, rfl⟩
  have hIt : itemsF f n.items j (c + 1) = if (b2 && B) = true then itsF f n.items j.its (c + 1) else (none, c + 1) := by
    unfold itemsF
    have e : (300 < j.its.length ∨ j.keys.any (fun k => decide (20000 < k.length)) = true) ↔ ¬ (b2 && B) = true := by
      rw [h2, hB]
      simp only [Bool.and_eq_true, decide_eq_true_eq, List.any_eq_true, List.all_eq_true]
      constructor
      · rintro (h | ⟨x, hx, hl⟩) ⟨g1, g2⟩
        · omega
        · have := g2 x hx
          omega
      · intro h
        by_cases g : 300 < j.its.length
        · exact .inl g
        · refine .inr (Classical.byContradiction fun k => h ⟨by omega, fun x hx => ?_⟩)
          have : ¬ 20000 < x.length := fun g => k ⟨x, hx, g⟩
          omega
    by_cases h : (b2 && B) = true
    · rw [if_pos h, if_neg (fun k => e.1 k h)]
    · rw [if_neg h, if_pos (e.2 h)]
  rw [hIt]
  have hgo : (b1 && b2) = false ∨ (b1 = true ∧ b2 = true) := by
    cases b1 <;> cases b2 <;> simp
  rcases hgo with hf | ⟨hb1, hb2⟩
  · have hOK : ((if (b2 && B) = true then itsF f n.items j.its (c + 1) else (none, c + 1)).1.isSome && j.kd == n.kind - 6) = false := by
      rw [← h1]
      cases b1 <;> cases b2 <;> simp_all
    rw [hOK]
    refine ⟨VT.mk n.kind 0 0 [] [] [], ?_, by simp⟩
    clear hIt hOK hB hits hke hT
    rw [ST.av_eq, VT.av_eq]
    rw [JT.av_eq]
    have hcs : b1 = false ∨ (b1 = true ∧ b2 = false) := by cases b1 <;> cases b2 <;> simp_all
    cases b0 <;> rcases hcs with hq | ⟨hq, hq2⟩
    all_goals
      subst hq
      try subst hq2
      refine VC.told ent_69 Tryz.func69 rfl Tryz.ntmps69 (by simp) (by first | rfl | simp [AV.pureB, AV.pureL, pureL_c, pures]) (by first | rfl | simp [AV.pureB, AV.pureL, pureL_c, pures]) fun hb => ?_
      clear hb
      refine walkBF (And.intro hxp (And.intro @ncells_mk (And.intro @scells_mk (And.intro hw (And.intro k1 (And.intro k2 (And.intro k3 (And.intro k4 (And.intro k5 (And.intro k6 (And.intro k7 (And.intro k8 (And.intro k9 (And.intro k10 (And.intro k14 (And.intro k11.symm (And.intro k12 (And.intro hD (And.intro e1 (And.intro hw6 (And.intro @jcells_acc (And.intro h1.symm h2.symm)))))))))))))))))))))) ?_
      refine VC.loop (ι := {i : Nat // i ≤ j.keys.length})
          (fun q => [(3, .c (.v (.int .i64 dep))), (4, .c (.v (.int .i64 (1000 - ((c + 1 : Nat) : Int))))), (5, .ref 0 1 0 0), (7, .ref 8 1 0 0), (10, .ref 16 1 0 0), (12, .ref 72 1 0 0), (13, .ref 136 1 0 0), (14, .c (.v (.bool false))), (19, .c (.v (.int .i64 (q.1 : Int))))])
          (fun q => [(0, ⟨false, 24, 2, [s.cells.map .c]⟩), (8, ⟨false, 36, 5, [j.cells.map .c]⟩), (16, ⟨false, 43, 6, [[.c (.v (.int .i64 0)), .c (.v (.int .i64 0)), .c (.v (.int .u64 0)), .c (.v (.slice none 0 0)), .c (.v (.slice none 0 0)), .c (.v (.slice none 0 0))]]⟩), (72, ⟨false, 33, 10, [n.cells.map .c]⟩), (136, ⟨false, 43, 6, [[.c (.v (.int .i64 n.kind)), .c (.v (.int .i64 0)), .c (.v (.int .u64 0)), .c (.v (.slice none 0 0)), .c (.v (.slice none 0 0)), .c (.v (.slice none 0 0))]]⟩)]) 1600 (fun q => j.keys.length - q.1)
          ⟨0, Nat.zero_le _⟩ ?_ ?_
      · simp only [ncells_mk, jcells_acc, scells_mk, Weak, eq_self, used_is, sc_any, sc_c, sc_pp, sc_ref, sc_row, sc_agg, sc_fn, ScL, some_imp, List.forall_mem_map, go_sem, Int.reduceBEq, Int.reduceLE, Int.reduceLT, Int.reduceNeg, Nat.reduceAdd, Nat.reduceEqDiff, Nat.reduceLT, Nat.reduceLeDiff, Nat.reduceMul, Nat.reduceSub, reduceCtorEq, ↓reduceIte]
        all_goals first | rfl | exact ⟨rfl, rfl⟩ | exact ⟨⟨rfl, rfl⟩, rfl⟩ | skip
      rintro ⟨i, hi⟩
      simp only [] at hi ⊢
      have hw3 : IntKind.i64.wrap ((i : Int) + 1) = (i : Int) + 1 := wrap64_id (by omega) (by omega)
      by_cases hlt : i < j.keys.length
      · have e0 : decide ((i : Int) < (j.keys.length : Int)) = true := by simp; omega
        refine walkBF (And.intro @ncells_mk (And.intro @jcells_acc (And.intro e0 hw3))) ?_
        refine .next ⟨i + 1, by omega⟩ ?_ (by simp only []; omega)
        simp only [ncells_mk, jcells_acc, scells_mk, Weak, eq_self, used_is, sc_any, sc_c, sc_pp, sc_ref, sc_row, sc_agg, sc_fn, ScL, some_imp, List.forall_mem_map, go_sem, Int.reduceBEq, Int.reduceLE, Int.reduceLT, Int.reduceNeg, Nat.reduceAdd, Nat.reduceEqDiff, Nat.reduceLT, Nat.reduceLeDiff, Nat.reduceMul, Nat.reduceSub, reduceCtorEq, ↓reduceIte]
        exact cI (by omega)
      · have e0 : decide ((i : Int) < (j.keys.length : Int)) = false := by simp; omega
        refine walkBF (And.intro @ncells_mk (And.intro @jcells_acc e0)) ?_
        refine ⟨by first | exact .inr rfl | exact .inl rfl, ?_⟩; rw [Tryz.results69]; simp only [resOk, resV, go_sem, simprocAttr]
        exact ⟨frz_v _ _ _, .c _⟩
  subst hb1
  subst hb2
  simp only [Bool.true_and, ← h1, Bool.and_true]
  have hOKB : (if B = true then itsF f n.items j.its (c + 1) else (none, c + 1)).1.isSome = (B && (itsF f n.items j.its (c + 1)).1.isSome) := by cases B <;> rfl
  have hL : lft (if B = true then itsF f n.items j.its (c + 1) else (none, c + 1)).1.isSome (1000 - ((if B = true then itsF f n.items j.its (c + 1) else (none, c + 1)).2 : Int)) = if B = true then lft (itsF f n.items j.its (c + 1)).1.isSome (1000 - ((itsF f n.items j.its (c + 1)).2 : Int)) else -1 := by cases B <;> rfl
  rw [hL]
  have hList := rlist_told s f rv (dep + 1) hT hC n.items hi0 hi1 j.its hits hsm.1 (c + 1) (by omega)
  obtain ⟨RL, hRL⟩ : ∃ RL, RL = rlistV f rv n.items j.its (c + 1) := ⟨_, rfl⟩
  refine ⟨if B = true then VT.mk n.kind 0 0 [] RL j.keys else VT.mk n.kind 0 0 [] [] [], ?_, fun h => ?_⟩
  rotate_left
  · rw [hOKB] at h
    obtain ⟨g1, g2⟩ := Bool.and_eq_true_iff.1 h
    obtain ⟨vs, hvs⟩ := Option.isSome_iff_exists.1 g2
    rw [if_pos g1, if_pos g1, hvs, hRL, rlistV_ok hT hC hi0 hi1 j.its hits (c + 1) (by omega) vs hvs]
    by_cases h12 : n.kind = 12
    · rw [if_pos h12]; rfl
    · rw [if_neg h12, hke (by rw [hk.resolve_right h12] at h1; simpa using h1.symm)]; rfl
  generalize lft (itsF f n.items j.its (c + 1)).1.isSome (1000 - ((itsF f n.items j.its (c + 1)).2 : Int)) = L at *
  rw [← hRL] at hList
  clear hIt hOKB hL hits hke hT hRL
  rw [ST.av_eq] at hList ⊢
  rw [VT.av_eq]
  rw [JT.av_eq]
  cases b0
  all_goals
    refine VC.told ent_69 Tryz.func69 rfl Tryz.ntmps69 (by simp) (by first | rfl | simp [AV.pureB, AV.pureL, pureL_c, pures]) (by first | rfl | simp [AV.pureB, AV.pureL, pureL_c, pures]) fun hb => ?_
    clear hb
    refine walkBF (And.intro hxp (And.intro @ncells_mk (And.intro @scells_mk (And.intro hw (And.intro k1 (And.intro k2 (And.intro k3 (And.intro k4 (And.intro k5 (And.intro k6 (And.intro k7 (And.intro k8 (And.intro k9 (And.intro k10 (And.intro k14 (And.intro k11.symm (And.intro k12 (And.intro hD (And.intro e1 (And.intro hw6 (And.intro @jcells_acc (And.intro h1.symm h2.symm)))))))))))))))))))))) ?_
    refine VC.loop (ι := {q : Nat × Bool // q.1 ≤ j.keys.length ∧ B = (q.2 && (j.keys.drop q.1).all (fun k => decide ((k.length : Int) ≤ 20000)))})
          (fun q => [(3, .c (.v (.int .i64 dep))), (4, .c (.v (.int .i64 (1000 - ((c + 1 : Nat) : Int))))), (5, .ref 0 1 0 0), (7, .ref 8 1 0 0), (10, .ref 16 1 0 0), (12, .ref 72 1 0 0), (13, .ref 136 1 0 0), (14, .c (.v (.bool q.1.2))), (19, .c (.v (.int .i64 (q.1.1 : Int))))])
          (fun q => [(0, ⟨false, 24, 2, [s.cells.map .c]⟩), (8, ⟨false, 36, 5, [j.cells.map .c]⟩), (16, ⟨false, 43, 6, [[.c (.v (.int .i64 0)), .c (.v (.int .i64 0)), .c (.v (.int .u64 0)), .c (.v (.slice none 0 0)), .c (.v (.slice none 0 0)), .c (.v (.slice none 0 0))]]⟩), (72, ⟨false, 33, 10, [n.cells.map .c]⟩), (136, ⟨false, 43, 6, [[.c (.v (.int .i64 n.kind)), .c (.v (.int .i64 0)), .c (.v (.int .u64 0)), .c (.v (.slice none 0 0)), .c (.v (.slice none 0 0)), .c (.v (.slice none 0 0))]]⟩)]) 1600 (fun q => j.keys.length - q.1.1)
          ⟨(0, true), Nat.zero_le _, by rw [hB]; simp⟩ ?_ ?_
    · simp only [ncells_mk, jcells_acc, scells_mk, Weak, eq_self, used_is, sc_any, sc_c, sc_pp, sc_ref, sc_row, sc_agg, sc_fn, ScL, some_imp, List.forall_mem_map, go_sem, Int.reduceBEq, Int.reduceLE, Int.reduceLT, Int.reduceNeg, Nat.reduceAdd, Nat.reduceEqDiff, Nat.reduceLT, Nat.reduceLeDiff, Nat.reduceMul, Nat.reduceSub, reduceCtorEq, ↓reduceIte]
      all_goals first | rfl | exact ⟨rfl, rfl⟩ | exact ⟨⟨rfl, rfl⟩, rfl⟩ | skip
    rintro ⟨⟨i, o⟩, hi, hF⟩
    simp only [] at hi hF ⊢
    by_cases hlt : i < j.keys.length
    · have e0 : decide ((i : Int) < (j.keys.length : Int)) = true := by simp; omega
      have hw3 : IntKind.i64.wrap ((i : Int) + 1) = (i : Int) + 1 := wrap64_id (by omega) (by omega)
      obtain ⟨x, hx⟩ : ∃ x, j.keys[i]? = some x := ⟨j.keys[i], List.getElem?_eq_getElem hlt⟩
      have hxq : (j.keys.map sPV)[i]? = some (sPV x) := by rw [List.getElem?_map, hx]; rfl
      have hxl := hsm.2.2 x (List.mem_of_getElem? hx)
      have hdr : j.keys.drop i = x :: j.keys.drop (i + 1) := by
        rw [List.drop_eq_getElem_cons hlt]
        congr 1
        exact Option.some.inj ((List.getElem?_eq_getElem hlt).symm.trans hx)
      rw [hdr, List.all_cons] at hF
      obtain ⟨b3, h3⟩ : ∃ b : Bool, b = decide ((x.length : Int) ≤ 20000) := ⟨_, rfl⟩
      rw [← h3] at hF
      cases o
      · refine walkBF (And.intro @ncells_mk (And.intro @jcells_acc (And.intro e0 hw3))) ?_
        refine .next ⟨(i + 1, false), by simp only []; omega, by simpa using hF⟩ ?_ (by simp only []; omega)
        simp only [ncells_mk, jcells_acc, scells_mk, Weak, eq_self, used_is, sc_any, sc_c, sc_pp, sc_ref, sc_row, sc_agg, sc_fn, ScL, some_imp, List.forall_mem_map, go_sem, Int.reduceBEq, Int.reduceLE, Int.reduceLT, Int.reduceNeg, Nat.reduceAdd, Nat.reduceEqDiff, Nat.reduceLT, Nat.reduceLeDiff, Nat.reduceMul, Nat.reduceSub, reduceCtorEq, ↓reduceIte]
        exact cI (by omega)
      · refine walkBF (And.intro @ncells_mk (And.intro @jcells_acc (And.intro e0 (And.intro hw3 (And.intro hxq (And.intro @sPV_eq (And.intro @str_size h3.symm))))))) ?_
        refine .next ⟨(i + 1, b3), by simp only []; omega, by simpa using hF⟩ ?_ (by simp only []; omega)
        simp only [ncells_mk, jcells_acc, scells_mk, Weak, eq_self, used_is, sc_any, sc_c, sc_pp, sc_ref, sc_row, sc_agg, sc_fn, ScL, some_imp, List.forall_mem_map, go_sem, Int.reduceBEq, Int.reduceLE, Int.reduceLT, Int.reduceNeg, Nat.reduceAdd, Nat.reduceEqDiff, Nat.reduceLT, Nat.reduceLeDiff, Nat.reduceMul, Nat.reduceSub, reduceCtorEq, ↓reduceIte]
        exact cI (by omega)
    · have e0 : decide ((i : Int) < (j.keys.length : Int)) = false := by simp; omega
      have hie : i = j.keys.length := by omega
      have hBo : B = o := by rw [hF, hie, List.drop_length]; simp
      cases o
      · refine walkBF (And.intro @ncells_mk (And.intro @jcells_acc e0)) ?_
        refine ⟨by first | exact .inr rfl | exact .inl rfl, ?_⟩; rw [Tryz.results69]; simp only [resOk, resV, go_sem, simprocAttr]
        rw [hBo]
        exact ⟨frz_v _ _ _, .c _⟩
      · refine walkBF (And.intro @ncells_mk (And.intro @jcells_acc (And.intro e0 (And.intro hw2 (And.intro @len_cells (And.intro @take_cells (And.intro @take_cellsC (And.intro @len_scells (And.intro @take_scells @take_scellsC))))))))) ?_
        refine walkCF (And.intro hw2 (And.intro @len_cells (And.intro @take_cells (And.intro @take_cellsC @pureL_c)))) (hList) ?_
        refine walkBF (@jcells_acc) ?_
        refine ⟨by first | exact .inr rfl | exact .inl rfl, ?_⟩; rw [Tryz.results69]; simp only [resOk, resV, go_sem, simprocAttr]
        rw [hBo]
        have hr : rA sPV j.keys = List.map (fun e => List.map AV.c e) (List.map sPV j.keys) := by simp [rA]
        rw [if_pos rfl, if_pos rfl, vcells_mk]
        exact ⟨Frz.aggL (.cons (.c _) (.cons (.c _) (.cons (.c _) (.cons (.nil 1) (.cons (.c _) (.cons (frz_rA (f := sPV) (l := j.keys) (T := 9) (by rw [hr]; rfl) rfl rfl fun x _ => rfl) .nil)))))), .c _⟩

theorem idxG_at {ks : List (List UInt8)} {key : List UInt8} {i : Nat} (h : ks[i]? = some key) (hn : key ∉ ks.take i) : idxS key ks = (i : Int) := by
  have hlt := (List.getElem?_eq_some_iff.1 h).1
  have hf : ks.findIdx? (fun k => decide (key = k)) = some i := by
    rw [List.findIdx?_eq_some_iff_getElem]
    refine ⟨hlt, by simp [(List.getElem?_eq_some_iff.1 h).2], fun j hj => ?_⟩
    simp
    intro e
    apply hn
    rw [List.mem_iff_getElem?]
    exact ⟨j, by rw [List.getElem?_take_of_lt hj, List.getElem?_eq_getElem (by omega), e]⟩
  unfold idxS
  rw [hf]
theorem idxG_none {ks : List (List UInt8)} {key : List UInt8} (hn : key ∉ ks) : idxS key ks = -1 := by
  have hf : ks.findIdx? (fun k => decide (key = k)) = none := by
    rw [List.findIdx?_eq_none_iff]
    intro x hx
    simp
    intro e
    subst e
    exact hn hx
  unfold idxS
  rw [hf]
theorem idxG_ge {ks : List (List UInt8)} {key : List UInt8} {i : Nat} (hn : key ∉ ks.take i) : idxS key ks = -1 ∨ (i : Int) ≤ idxS key ks := by
  by_cases hm : key ∈ ks
  · right
    unfold idxS
    cases hf : ks.findIdx? (fun k => decide (key = k)) with
    | none =>
      have := List.findIdx?_eq_none_iff.1 hf key hm
      simp at this
    | some j =>
      obtain ⟨h1, h2, _⟩ := List.findIdx?_eq_some_iff_getElem.1 hf
      simp at h2
      simp only []
      have : ¬ j < i := fun hj => hn (by
        rw [List.mem_iff_getElem?]
        exact ⟨j, by rw [List.getElem?_take_of_lt hj, List.getElem?_eq_getElem h1, ← h2]⟩)
      omega
  · exact .inl (idxG_none hm)
set_option maxRecDepth 100000 in
set_option maxHeartbeats 400000 in
theorem rget13_told (t : JT) (key : List UInt8) : Told Tryz.prog 116 [t.av, .c (.v (.string (str key)))] (.tup [((jget t key).getD zJ).av, .c (.v (.bool (jget t key).isSome))]) := by
  cases t with
  | mk k n s ks xs =>
  refine VC.told ent_116 Tryz.func116 rfl Tryz.ntmps116 (by simp) (by rfl) (by simp [AV.pureB, AV.pureL, JT.av, pureL_c]) fun hb => ?_
  simp only [JT.av, cells_mk, List.map_cons, List.map_nil, abd_agg, abd_c, pbd_v, pbd_sl, List.mem_cons, List.not_mem_nil, or_false, forall_eq_or_imp, forall_eq, true_and, List.length_map] at hb ⊢
  have hx1 := hb.1.1.1
  have hk1 := hb.1.2.1
  clear hb
  refine walkG ?_
  refine VC.loop (ι := {i : Nat // i ≤ ks.length ∧ key ∉ ks.take i}) (fun i => [(1, .c (.v (.string (str key)))), (2, .ref 0 1 0 0), (4, .ref 8 1 0 0), (6, .c (.v (.int .i64 i.1)))])
    (fun _ => [(0, ⟨false, 36, 5, [(JT.mk k n s ks xs).cells.map .c]⟩), (8, ⟨false, 36, 5, [[.c (.v (.int .i64 0)), .c (.v (.int .i64 0)), .c (.v (.string ⟨#[]⟩)), .c (.v (.slice none 0 0)), .c (.v (.slice none 0 0))]]⟩)]) 16 (fun i => ks.length - i.1) ⟨0, Nat.zero_le _, by simp⟩ ?_ ?_
  · simp only [cells_mk, Weak, eq_self, used_is, sc_any, sc_c, sc_pp, sc_ref, sc_row, sc_agg, sc_fn, ScL, some_imp, List.forall_mem_map, go_sem, Int.reduceBEq, Int.reduceLE, Int.reduceLT, Int.reduceNeg, Nat.reduceAdd, Nat.reduceEqDiff, Nat.reduceLT, Nat.reduceLeDiff, Nat.reduceMul, Nat.reduceSub, reduceCtorEq, ↓reduceIte]
    all_goals rfl
  rintro ⟨i, hi, hni⟩
  refine walkGF (@cells_mk) ?_
  refine VC.cond (by rfl) (by trivial) (fun hc => ?_) (fun hc => ?_)
  · have hcc : i < ks.length ∧ i < xs.length ∧ k = 6 := by
      simp at hc
      omega
    obtain ⟨hc1, hc2, rfl⟩ := hcc
    clear hc
    obtain ⟨y, hy⟩ : ∃ y, ks[i]? = some y := ⟨ks[i], List.getElem?_eq_getElem hc1⟩
    obtain ⟨x, hx⟩ : ∃ x, xs[i]? = some x := ⟨xs[i], List.getElem?_eq_getElem hc2⟩
    have hw : IntKind.i64.wrap ((i : Int) + 1) = (i : Int) + 1 := wrap64_id (by omega) (by omega)
    (repeat (first | refine pass ?_ | refine VC.region (by rfl) (by rfl) ?_ | (refine AO.step fun K hK => ?_; simp only [cells_mk, List.getElem?_map, hy, sPV, str_toList, go_sem, Int.reduceBEq, Int.reduceLE, Int.reduceLT, Int.reduceNeg, Nat.reduceAdd, Nat.reduceEqDiff, Nat.reduceLT, Nat.reduceLeDiff, Nat.reduceMul, Nat.reduceSub, reduceCtorEq, ↓reduceIte]; (first | refine gsel_skip ?_ | refine gsel_go ?_ | skip); (first | refine hK _ _ _ ?_ | refine ⟨by first | omega | exact ⟨_, rfl, rfl⟩ | exact fun _ => ⟨_, rfl, rfl⟩ | (intro h; simp only [cells_mk, List.getElem?_map, hy, sPV, str_toList, h, true_and]; omega) | (clear hK; intro h; simp_all <;> omega), hK _ _ _ ?_⟩); clear hK K) | refine VC.draw mixP (by rfl) (by rfl) ?_ | refine ⟨okd_of (by kernel_rfl), ?_⟩ | refine BQ.other (by decide) ?_ | refine VC.seq ?_ | refine AO.nil ?_ | refine VC.block ?_))
    refine VC.cond (by rfl) (by trivial) (fun hc => ?_) (fun hc => ?_)
    · have he : y = key := by simpa using hc
      subst he
      have hg : jget (.mk 6 n s ks xs) y = some x := by
        rw [jget, idxG_at hy hni, if_pos ⟨rfl, by omega⟩]
        simpa using hx
      rw [hg]
      (repeat (first | refine pass ?_ | refine VC.region (by rfl) (by rfl) ?_ | (refine AO.step fun K hK => ?_; simp only [cells_mk, List.getElem?_map, hx, len_cells, take_cells, take_cellsC, go_sem, Int.reduceBEq, Int.reduceLE, Int.reduceLT, Int.reduceNeg, Nat.reduceAdd, Nat.reduceEqDiff, Nat.reduceLT, Nat.reduceLeDiff, Nat.reduceMul, Nat.reduceSub, reduceCtorEq, ↓reduceIte]; (first | refine gsel_skip ?_ | refine gsel_go ?_ | skip); (first | refine hK _ _ _ ?_ | refine ⟨by first | omega | exact ⟨_, rfl, rfl⟩ | exact fun _ => ⟨_, rfl, rfl⟩ | (intro h; simp only [cells_mk, List.getElem?_map, hx, len_cells, take_cells, take_cellsC, h, true_and]; omega) | (clear hK; intro h; simp_all <;> omega), hK _ _ _ ?_⟩); clear hK K) | refine VC.draw mixP (by rfl) (by rfl) ?_ | refine ⟨okd_of (by kernel_rfl), ?_⟩ | refine BQ.other (by decide) ?_ | refine VC.seq ?_ | refine AO.nil ?_ | refine VC.block ?_))
      refine ⟨.inr rfl, ?_⟩
      rw [Tryz.results116]
      simp only [len_cells, take_cellsC, resOk, resV, go_sem, simprocAttr]
      exact ⟨Frz.cs _ _, .c _⟩
    · have hne : y ≠ key := by simpa using hc
      refine walkGF (hw) ?_
      refine .next ⟨i + 1, by omega, ?_⟩ ?_ (by simp only []; omega)
      · rw [List.take_add_one, hy]
        simp only [Option.toList_some, List.mem_append, List.mem_singleton, not_or]
        exact ⟨hni, fun e => hne e.symm⟩
      · simp only [cells_mk, Weak, eq_self, used_is, sc_any, sc_c, sc_pp, sc_ref, sc_row, sc_agg, sc_fn, ScL, some_imp, List.forall_mem_map, go_sem, Int.reduceBEq, Int.reduceLE, Int.reduceLT, Int.reduceNeg, Nat.reduceAdd, Nat.reduceEqDiff, Nat.reduceLT, Nat.reduceLeDiff, Nat.reduceMul, Nat.reduceSub, reduceCtorEq, ↓reduceIte]
        exact cI (by omega)
  · have hg : jget (.mk k n s ks xs) key = none := by
      rw [jget]
      split
      · rename_i h
        have h3 := idxG_ge hni
        have h4 := idxS_le key ks
        rw [List.getElem?_eq_none]
        simp [h.1] at hc
        omega
      · rfl
    rw [hg]
    refine walkG ?_
    refine ⟨.inr rfl, ?_⟩
    rw [Tryz.results116]
    simp only [resOk, resV, go_sem, simprocAttr]
    exact ⟨frz_zJ _, .c _⟩
end
end Go.Proofs.YtllnlmchjljhlaaGreatDoor
