/- Texts that lead to the law DfltFields, joined. -/
import Derived.Test.YtllnlmchjljhlaaGreatDoorPkDfltFieldsI
import Derived.Test.YtllnlmchjljhlaaGreatDoorPkDfltFieldsA
import Derived.Test.YtllnlmchjljhlaaGreatDoorPkDfltFieldsB
import Derived.Test.YtllnlmchjljhlaaGreatDoorPkDfltFieldsC
import Derived.Test.YtllnlmchjljhlaaGreatDoorRows
import Derived.MakeChecks
import Derived.LaidMore
import Derived.OpenShut
namespace Go.Proofs.YtllnlmchjljhlaaGreatDoor
open Go.RowKit
set_option linter.unusedVariables false
set_option linter.unusedSimpArgs false
section
attribute [local go_sem] opx opE ev okx gcond bnd okO AV.get AV.okb cAV upd_at putd_some putd_none wrs_nil wrs_cons look_nil look_cons st argT_at bpick_and bpick_or bpick_true bpick_false binV binI binS binVOk binOk isShift binSOk unV unVOk loadV loadP cellsA zeroA Blkd.len setE grown moreA moreR moreOk eqRes pv fillA fillE putSeg AV.cellish AV.pureL AV.pureB lentL_is ex_some AV.ren AV.renL renL_c Blkd.ren rho wrM renN lentOk rhoE keepM endOk tyA_2 tyA_3 tyA_4 tyA_5 tyA_6 tyA_7 tyA_8 tyA_9 tyA_10 tyA_11 tyA_12 tyA_13 tyA_14 tyA_15 tyA_16 tyA_17 tyA_18 tyA_19 tyA_21 tyA_22 tyA_23 tyA_24 tyA_29 tyA_30 tyA_31 tyA_32 tyA_33 tyA_34 tyA_35 tyA_36 tyA_37 tyA_38 tyA_39 tyA_40 tyA_41 tyA_42 tyA_43 tyA_49 tyA_85 tyA_89 tyA_99 tyA_100 tyA_101 tyA_105 tyA_106 tyA_107 tyA_108 tyA_109 tyA_111 tyA_112 tyA_113 tyA_114 tyA_123 tyA_126 tyA_127 tyA_128 tyA_129 tyA_130 tyA_153 tyA_163 tyA_164 tyA_165 tyA_179 tyA_185 tyA_191 tyA_192 tyA_193 tyA_194 tyA_195 tyA_196 tyA_209 tyA_213 tyA_214 tyA_215 tyA_241 tyA_248 tyA_274 tyA_275 tyA_276 tyA_292 tyA_294 tyA_302 tyA_307 tyA_315 tyA_319 tyA_321 tyA_324 tyA_325 tyA_326 tyA_327 tyA_328 tyA_329 tyA_330 tyA_332 tyA_333 Option.map_some Option.map_none Option.getD_some Option.getD_none Option.bind_some Option.bind_none List.getElem?_cons_zero List.getElem?_cons_succ List.getElem?_nil List.getElem?_toArray List.length_cons List.length_nil List.length_map List.forall_mem_map List.map_cons List.map_nil List.drop_zero List.drop_succ_cons List.drop_nil List.take_zero List.take_succ_cons List.take_nil List.mem_cons List.not_mem_nil or_false forall_eq_or_imp forall_eq List.set_cons_zero List.set_cons_succ List.cons_append List.nil_append List.append_nil List.foldl_cons List.foldl_nil List.replicate_succ List.replicate_zero List.all_cons List.all_nil if_true if_false Bool.false_eq_true ne_eq not_false_eq_true not_true_eq_false true_and and_true and_self true_implies imp_self implies_true forall_const beq_self_eq_true Bool.and_true Bool.true_and Bool.and_false Bool.false_and Bool.or_true Bool.true_or Bool.or_false Bool.false_or Bool.not_true Bool.not_false Bool.not_eq_eq_eq_not intKindOf Value.oneCell' Int.toNat_natCast beq_true beq_false Bool.not_eq_true false_implies false_or true_or or_true Nat.zero_add Nat.add_zero decide_true decide_false Int.cast_ofNat_Int Int.toNat_zero Int.toNat_one eq_self

def w13a : NT := ⟨13, [], [], [], [], false, [], 0, 0, [1, 2]⟩
def w13b : NT := ⟨3, [], [], [], [], false, [], 0, 0, []⟩
def w13c : NT := ⟨1, [], [], [], [], false, [], 0, 0, []⟩
def w13d : NT := ⟨7, [], [], [], [], false, [], 0, 0, []⟩
def w13 : ST := ⟨[w13a, w13b, w13c], 0⟩
def w13s : ST := ⟨[w13d], 0⟩
def w13j : JT := .mk 3 7 [] [] []
def w13n : JT := .mk 1 0 [] [] []
def w13t : JT := .mk 4 0 [195, 191] [] []
theorem w13_a : nodeM w13.nodes w13a = true := by
  unfold nodeM
  rw [if_neg (show ¬ w13a.kind = 9 by decide)]
  decide +kernel
theorem w13_b : nodeM w13.nodes w13b = true := by
  unfold nodeM
  rw [if_neg (show ¬ w13b.kind = 9 by decide)]
  decide +kernel
theorem w13_c : nodeM w13.nodes w13c = true := by
  unfold nodeM
  rw [if_neg (show ¬ w13c.kind = 9 by decide)]
  decide +kernel
theorem w13_d : nodeM w13s.nodes w13d = true := by
  unfold nodeM
  rw [if_neg (show ¬ w13d.kind = 9 by decide)]
  decide +kernel
theorem w13_right : rightM w13 = true := by
  have h1 : orderedM w13 = true := by decide +kernel
  have h2 : diffM fullM (namesM w13.nodes) = true := by decide +kernel
  have h3 : rightL w13.nodes w13.nodes 0 (List.replicate w13.nodes.length 0) = true := by
    rw [show rightL w13.nodes w13.nodes = rightL w13.nodes [w13a, w13b, w13c] from rfl]
    rw [rightL, rightL, rightL, rightL, w13_a, w13_b, w13_c]
    decide +kernel
  unfold rightM
  rw [h1, h2, h3]
  rfl
theorem w13s_right : rightM w13s = true := by
  have h1 : orderedM w13s = true := by decide +kernel
  have h2 : diffM fullM (namesM w13s.nodes) = true := by decide +kernel
  have h3 : rightL w13s.nodes w13s.nodes 0 (List.replicate w13s.nodes.length 0) = true := by
    rw [show rightL w13s.nodes w13s.nodes = rightL w13s.nodes [w13d] from rfl]
    rw [rightL, rightL, w13_d]
    decide +kernel
  unfold rightM
  rw [h1, h2, h3]
  rfl
theorem w13_sm : w13.sm 1000000 := by
  refine ⟨by decide, fun n hn => ?_⟩
  simp only [w13, List.mem_cons, List.not_mem_nil, or_false] at hn
  rcases hn with rfl | rfl | rfl
  · exact ⟨by decide, by decide, ⟨by decide, by simp [w13a]⟩, ⟨by decide, by simp [w13a]⟩, by decide, by decide, by simp [w13a]⟩
  · exact ⟨by decide, by decide, ⟨by decide, by simp [w13b]⟩, ⟨by decide, by simp [w13b]⟩, by decide, by decide, by simp [w13b]⟩
  · exact ⟨by decide, by decide, ⟨by decide, by simp [w13c]⟩, ⟨by decide, by simp [w13c]⟩, by decide, by decide, by simp [w13c]⟩
theorem w13s_sm : w13s.sm 1000000 := by
  refine ⟨by decide, fun n hn => ?_⟩
  simp only [w13s, List.mem_cons, List.not_mem_nil, or_false] at hn
  subst hn
  exact ⟨by decide, by decide, ⟨by decide, by simp [w13d]⟩, ⟨by decide, by simp [w13d]⟩, by decide, by decide, by simp [w13d]⟩
theorem w13_inr : w13.inr := fun n hn f hf => by
  simp only [w13, List.mem_cons, List.not_mem_nil, or_false] at hn
  rcases hn with rfl | rfl | rfl <;> simp [w13a, w13b, w13c] at hf
theorem w13s_inr : w13s.inr := fun n hn f hf => by
  simp only [w13s, List.mem_cons, List.not_mem_nil, or_false] at hn
  subst hn
  simp [w13d] at hf
theorem w13j_r : jR w13j = true := by decide +kernel
theorem w13n_r : jR w13n = true := by decide +kernel
theorem w13t_r : jR w13t = true := by decide +kernel
theorem w13_lat : latF [195, 191] 0 = some [255] := by
  rw [latF_next (by decide) (by decide +kernel), if_pos (by decide +kernel), latF_end (by decide +kernel)]
  decide +kernel
theorem w13_say1 : sayM w13.nodes 20 0 w13j 0 = (.mk 13 0 0 [] [.mk 3 7 0 [] [] []] [], true, 2) := by
  rw [sayM]
  rfl
theorem w13_say2 : (sayM w13.nodes 20 0 w13n 0).2.1 = false := by
  rw [sayM]
  rfl
theorem w13_say3 : (sayM w13s.nodes 20 0 w13t 0).1 = .mk 7 0 0 [255] [] [] ∧ (sayM w13s.nodes 20 0 w13t 0).2.1 = true := by
  have h : leafS w13d w13t = (.mk 7 0 0 [255] [] [], true) := by
    unfold leafS
    rw [if_neg (by decide), if_neg (by decide), if_neg (by decide), if_neg (by decide)]
    unfold textS
    rw [if_pos (by decide), if_neg (by decide), show w13t.txt = [195, 191] from rfl, w13_lat]
    rfl
  have hs : sayM w13s.nodes 20 0 w13t 0 = ((leafS w13d w13t).1, (leafS w13d w13t).2, 1) := by
    rw [sayM]
    rfl
  rw [hs, h]
  exact ⟨rfl, rfl⟩
theorem w13_of1 : ofM w13 0 w13j = (.mk 13 0 0 [] [.mk 3 7 0 [] [] []] [], 0) := by
  unfold ofM
  rw [if_pos ⟨by decide, by decide, w13_right, w13j_r⟩, w13_say1]
  rfl
theorem w13_of2 : ofM w13 0 w13n = (vz 0, 35) := by
  unfold ofM
  rw [if_pos ⟨by decide, by decide, w13_right, w13n_r⟩, w13_say2]
  rfl
theorem w13j_sm : w13j.sm 1000000 := ⟨by decide, by decide, by simp, by decide, trivial⟩
theorem w13n_sm : w13n.sm 1000000 := ⟨by decide, by decide, by simp, by decide, trivial⟩
theorem w13t_sm : w13t.sm 1000000 := ⟨by decide, by decide, by simp, by decide, trivial⟩
set_option maxRecDepth 100000 in
set_option maxHeartbeats 1600000 in
theorem of13row_told (a : Int) (ha : a = 0) : ToldM Tryz.prog 25 [.agg [.row 1000000 1, .c (.v (.int .i64 0))], .c (.v (.int .i64 a)), .agg [.c (.v (.int .i64 4)), .c (.v (.int .i64 0)), .c (.v (.string ⟨#[195, 191]⟩)), .c (.v (.slice none 0 0)), .c (.v (.slice none 0 0))]]
    [⟨true, 33, 10, [[.c (.v (.int .i64 7)), .c (.v (.string ⟨#[]⟩)), .c (.v (.slice none 0 0)), .c (.v (.slice none 0 0)), .c (.v (.slice none 0 0)), .c (.v (.bool false)), .c (.v (.string ⟨#[]⟩)), .c (.v (.int .i64 0)), .c (.v (.int .i64 0)), .c (.v (.slice none 0 0))]]⟩] [none] (.tup [(VT.mk 7 0 0 [255] [] []).av, .c (.v (.int .i64 0))]) := by
  have hR := sRight_told w13s w13s_sm
  rw [w13s_right] at hR
  have hJ := jRight_told w13t (sm_le (by omega) _ w13t_sm)
  rw [w13t_r] at hJ
  have hS := say13_top w13s (right_say w13s_sm w13s_inr w13s_right) a (by omega) (by rw [ha]; decide) w13t ⟨by have h := w13t_r; rw [jR_shape, Bool.and_eq_true] at h; exact h.2, ⟨by omega, trivial⟩, w13t_sm⟩
  subst ha
  rw [w13_say3.1, w13_say3.2] at hS
  generalize (sayM w13s.nodes 20 0 w13t 0).2.2 = c2 at *
  have hcell : ∀ v : VT, v = VT.mk 7 0 0 [255] [] [] → ToldM Tryz.prog 25 [.agg [.row 1000000 1, .c (.v (.int .i64 0))], .c (.v (.int .i64 0)), .agg [.c (.v (.int .i64 4)), .c (.v (.int .i64 0)), .c (.v (.string ⟨#[195, 191]⟩)), .c (.v (.slice none 0 0)), .c (.v (.slice none 0 0))]]
    [⟨true, 33, 10, [[.c (.v (.int .i64 7)), .c (.v (.string ⟨#[]⟩)), .c (.v (.slice none 0 0)), .c (.v (.slice none 0 0)), .c (.v (.slice none 0 0)), .c (.v (.bool false)), .c (.v (.string ⟨#[]⟩)), .c (.v (.int .i64 0)), .c (.v (.int .i64 0)), .c (.v (.slice none 0 0))]]⟩] [none] (.tup [v.av, .c (.v (.int .i64 0))]) := by
    intro v hv
    rw [← hv] at hS
    clear hv
    rw [JT.av_eq] at hJ hS
    rw [ST.av_eq, scells_mk] at hR
    rw [VT.av_eq] at hS ⊢
    unfold xSB at hS
    have hlen : w13s.nodes.length = 1 := rfl
    have hge : decide ((0 : Int) ≥ 1) = false := by decide
    have hlt0 : decide ((0 : Int) < 0) = false := by decide
    refine VC.toldM ent_25 [] Tryz.func25 rfl Tryz.ntmps25 (by simp) (by simp only [ rA_len, rA_sc, ScM, zOk, inL, eq_self, used_is, sc_any, sc_c, sc_pp, sc_ref, sc_row, sc_agg, sc_tup, sc_fn, ScL, some_imp, List.forall_mem_map, Nat.le_refl, go_sem, simprocAttr]) (by simp only [ rA_len, rA_sc, ScM, zOk, inL, eq_self, used_is, sc_any, sc_c, sc_pp, sc_ref, sc_row, sc_agg, sc_tup, sc_fn, ScL, some_imp, List.forall_mem_map, Nat.le_refl, go_sem, simprocAttr]) (by simp only [ rA_len, rA_sc, ScM, zOk, inL, eq_self, used_is, sc_any, sc_c, sc_pp, sc_ref, sc_row, sc_agg, sc_tup, sc_fn, ScL, some_imp, List.forall_mem_map, Nat.le_refl, go_sem, simprocAttr]) (by simp only [ rA_len, rA_sc, ScM, zOk, inL, eq_self, used_is, sc_any, sc_c, sc_pp, sc_ref, sc_row, sc_agg, sc_tup, sc_fn, ScL, some_imp, List.forall_mem_map, Nat.le_refl, go_sem, simprocAttr]) (by simp) fun hb hbL => ?_
    clear hb
    refine VC.frz [] [(0, .agg [.row 1000000 1, .c (.v (.int .i64 0))]), (1, .c (.v (.int .i64 0))), (2, .agg (w13t.cells.map .c))] [(1000000, ⟨true, 33, 10, [w13d.cells.map .c]⟩)] 0 ?_ ?_
    · simp only [rA_sc, rA_len, WeakF, used_is, sc_any, sc_c, sc_pp, sc_ref, sc_row, sc_agg, sc_fn, ScL, some_imp, List.forall_mem_map, go_sem, Int.reduceBEq, Int.reduceLE, Int.reduceLT, Int.reduceNeg, Nat.reduceAdd, Nat.reduceEqDiff, Nat.reduceLT, Nat.reduceLeDiff, Nat.reduceMul, Nat.reduceSub, reduceCtorEq, ↓reduceIte]
      exact ⟨⟨.same _, .same _, FV.aggL (.cons (.same _) (.cons (.same _) (.cons (.same _) (.cons (.nil 5) (.cons (.nil 1) .nil)))))⟩, .one (.cons (.same _) (.cons (.same _) (.cons (.nil 1) (.cons (.nil 9) (.cons (.nil 1) (.cons (.same _) (.cons (.same _) (.cons (.same _) (.cons (.same _) (.cons (.nil 1) .nil)))))))))) (cellish_map _)⟩
    refine VC.frz [1000000] [(0, .agg ([.sl 10 (w13s.nodes.map NT.cells), .v (.int .i64 w13s.root)].map .c)), (1, .c (.v (.int .i64 0))), (2, .agg (w13t.cells.map .c))] [] 0 ?_ ?_
    · simp only [rA_sc, rA_len, WeakF, used_is, sc_any, sc_c, sc_pp, sc_ref, sc_row, sc_agg, sc_fn, ScL, some_imp, List.forall_mem_map, go_sem, Int.reduceBEq, Int.reduceLE, Int.reduceLT, Int.reduceNeg, Nat.reduceAdd, Nat.reduceEqDiff, Nat.reduceLT, Nat.reduceLeDiff, Nat.reduceMul, Nat.reduceSub, reduceCtorEq, ↓reduceIte]
      exact ⟨FV.aggL (.cons (.row (B := ⟨true, 33, 10, [w13d.cells.map .c]⟩) (es := w13s.nodes.map NT.cells) (by simp) rfl rfl rfl rfl) (.cons (.same _) .nil)), .same _, .same _⟩
    refine walkGF (And.intro hlen (And.intro hge (And.intro hlt0 (And.intro @len_cells (And.intro @take_cells @take_cellsC))))) ?_
    refine walkC (hR) ?_
    refine walkGF (And.intro @len_cells (And.intro @take_cells @take_cellsC)) ?_
    refine walkCF (@pureL_c) (hJ) ?_
    refine walkBF (And.intro @len_cells (And.intro @take_cells @take_cellsC)) ?_
    ((refine AO.step fun K hK => ?_; simp only [go_sem, Int.reduceBEq, Int.reduceLE, Int.reduceLT, Int.reduceNeg, Nat.reduceAdd, Nat.reduceEqDiff, Nat.reduceLT, Nat.reduceLeDiff, Nat.reduceMul, Nat.reduceSub, reduceCtorEq, ↓reduceIte, len_cells, take_cells, take_cellsC]; (first | refine gsel_go ?_ | skip)); refine .inr (.inr (.inl ⟨?vy1, [200], ?va1, ?vl1, ?vm1, ?cond1, ?cont1⟩)); (case cond1 => ((repeat' apply And.intro) <;> (try ((with_reducible show ToldM _ _ _ _ _ _); exact hS))); (all_goals first | trivial | (simp only [len_cells, take_cells, take_cellsC, go_sem, simprocAttr]; done) | (simp; done) | rfl)); (first | refine hK _ _ _ ?_ | (simp only [len_cells, take_cells, take_cellsC, go_sem, simprocAttr]; first | refine hK _ _ _ ?_ | refine ⟨rfl, hK _ _ _ ?_⟩)); clear hK K)
    refine walkBF (And.intro @len_vcells (And.intro @take_vcells @take_vcellsC)) ?_
    refine ⟨by first | exact .inr rfl | exact .inl rfl, ?_⟩; rw [Tryz.results25]; simp only [len_vcells, take_vcellsC, resOk, resV, go_sem, simprocAttr]
    exact ⟨Frz.cs _ _, .c _⟩
  exact hcell _ rfl
set_option maxRecDepth 100000 in
set_option maxHeartbeats 1600000 in
theorem works13_told : Told Tryz.prog 24 [] (.c (.v (.bool true))) := by
  have hA := of13_told w13 w13_sm (right_say w13_sm w13_inr) 0 w13j w13j_sm ⟨by omega, trivial⟩
  have hB := of13_told w13 w13_sm (right_say w13_sm w13_inr) 0 w13n w13n_sm ⟨by omega, trivial⟩
  have hC := of13row_told 0 rfl
  rw [w13_of1] at hA
  rw [w13_of2] at hB
  simp only [ST.av_eq, scells_mk, List.map_cons, List.map_nil] at hA hB hC
  refine VC.told ent_24 Tryz.func24 rfl Tryz.ntmps24 (by simp) (by first | rfl | simp [AV.pureB, AV.pureL, pureL_c, pures]) (by first | rfl | simp [AV.pureB, AV.pureL, pureL_c, pures]) fun hb => ?_
  clear hb
  (refine VC.seq ?_; (first | refine VC.region (by rfl) (by rfl) ?_ | refine VC.draw mixP (by rfl) (by rfl) ?_); (repeat (refine AO.step fun K hK => ?_; simp only [go_sem, Int.reduceBEq, Int.reduceLE, Int.reduceLT, Int.reduceNeg, Nat.reduceAdd, Nat.reduceEqDiff, Nat.reduceLT, Nat.reduceLeDiff, Nat.reduceMul, Nat.reduceSub, reduceCtorEq, ↓reduceIte]; (first | refine gsel_skip ?_ | refine gsel_go ?_ | skip); (first | refine hK _ _ _ ?_ | refine ⟨by first | omega | exact ⟨_, rfl, rfl⟩ | exact fun _ => ⟨_, rfl, rfl⟩ | (intro h; simp only [h, true_and]; omega) | (clear hK; intro h; simp_all <;> omega), hK _ _ _ ?_⟩); clear hK K)); refine AO.nil ?_; first | refine SQ.normal ?_ | refine ⟨okd_of (by kernel_rfl), SQ.normal ?_⟩)
  (refine VC.seq ?_; (first | refine VC.region (by rfl) (by rfl) ?_ | refine VC.draw mixP (by rfl) (by rfl) ?_); (repeat (refine AO.step fun K hK => ?_; simp only [go_sem, Int.reduceBEq, Int.reduceLE, Int.reduceLT, Int.reduceNeg, Nat.reduceAdd, Nat.reduceEqDiff, Nat.reduceLT, Nat.reduceLeDiff, Nat.reduceMul, Nat.reduceSub, reduceCtorEq, ↓reduceIte]; (first | refine gsel_skip ?_ | refine gsel_go ?_ | skip); (first | refine hK _ _ _ ?_ | refine ⟨by first | omega | exact ⟨_, rfl, rfl⟩ | exact fun _ => ⟨_, rfl, rfl⟩ | (intro h; simp only [h, true_and]; omega) | (clear hK; intro h; simp_all <;> omega), hK _ _ _ ?_⟩); clear hK K)); refine AO.nil ?_; first | refine SQ.normal ?_ | refine ⟨okd_of (by kernel_rfl), SQ.normal ?_⟩)
  refine VC.frz [] [(1, .ref 56 1 0 0)] [(8, ⟨true, 3, 1, rA iPV [1, 2]⟩), (40, ⟨true, 33, 10, [[.c (.v (.int .i64 13)), .c (.v (.string ⟨#[]⟩)), .c (.v (.slice none 0 0)), .c (.v (.slice none 0 0)), .c (.v (.slice none 0 0)), .c (.v (.bool false)), .c (.v (.string ⟨#[]⟩)), .c (.v (.int .i64 0)), .c (.v (.int .i64 0)), .row 8 2], w13b.cells.map .c, [.c (.v (.int .i64 1)), .c (.v (.string ⟨#[]⟩)), .c (.v (.slice none 0 0)), .c (.v (.slice none 0 0)), .c (.v (.slice none 0 0)), .c (.v (.bool false)), .c (.v (.string ⟨#[]⟩)), .c (.v (.int .i64 0)), .c (.v (.int .i64 0)), .c (.v (.slice none 0 0))]]⟩), (56, ⟨false, 24, 2, [[.row 40 3, .c (.v (.int .i64 0))]]⟩)] 400 ?_ ?_
  · simp only [rA_sc, rA_len, WeakF, used_is, sc_any, sc_c, sc_pp, sc_ref, sc_row, sc_agg, sc_fn, ScL, some_imp, List.forall_mem_map, go_sem, Int.reduceBEq, Int.reduceLE, Int.reduceLT, Int.reduceNeg, Nat.reduceAdd, Nat.reduceEqDiff, Nat.reduceLT, Nat.reduceLeDiff, Nat.reduceMul, Nat.reduceSub, reduceCtorEq, ↓reduceIte]
    exact ⟨.same _, .same _, .set (i := 1) (e' := w13b.cells.map .c) rfl (.cons (.same _) (.cons (.same _) (.cons (.nil 1) (.cons (.nil 9) (.cons (.nil 1) (.cons (.same _) (.cons (.same _) (.cons (.same _) (.cons (.same _) (.cons (.nil 1) .nil)))))))))) (cellish_map _), .same _⟩
  refine VC.frz [] [(1, .ref 56 1 0 0)] [(8, ⟨true, 3, 1, rA iPV [1, 2]⟩), (40, ⟨true, 33, 10, [[.c (.v (.int .i64 13)), .c (.v (.string ⟨#[]⟩)), .c (.v (.slice none 0 0)), .c (.v (.slice none 0 0)), .c (.v (.slice none 0 0)), .c (.v (.bool false)), .c (.v (.string ⟨#[]⟩)), .c (.v (.int .i64 0)), .c (.v (.int .i64 0)), .row 8 2], w13b.cells.map .c, w13c.cells.map .c]⟩), (56, ⟨false, 24, 2, [[.row 40 3, .c (.v (.int .i64 0))]]⟩)] 400 ?_ ?_
  · simp only [rA_sc, rA_len, WeakF, used_is, sc_any, sc_c, sc_pp, sc_ref, sc_row, sc_agg, sc_fn, ScL, some_imp, List.forall_mem_map, go_sem, Int.reduceBEq, Int.reduceLE, Int.reduceLT, Int.reduceNeg, Nat.reduceAdd, Nat.reduceEqDiff, Nat.reduceLT, Nat.reduceLeDiff, Nat.reduceMul, Nat.reduceSub, reduceCtorEq, ↓reduceIte]
    exact ⟨.same _, .same _, .set (i := 2) (e' := w13c.cells.map .c) rfl (.cons (.same _) (.cons (.same _) (.cons (.nil 1) (.cons (.nil 9) (.cons (.nil 1) (.cons (.same _) (.cons (.same _) (.cons (.same _) (.cons (.same _) (.cons (.nil 1) .nil)))))))))) (cellish_map _), .same _⟩
  refine VC.frz [8] [(1, .ref 56 1 0 0)] [(40, ⟨true, 33, 10, [w13a.cells.map .c, w13b.cells.map .c, w13c.cells.map .c]⟩), (56, ⟨false, 24, 2, [[.row 40 3, .c (.v (.int .i64 0))]]⟩)] 400 ?_ ?_
  · simp only [rA_sc, rA_len, WeakF, used_is, sc_any, sc_c, sc_pp, sc_ref, sc_row, sc_agg, sc_fn, ScL, some_imp, List.forall_mem_map, go_sem, Int.reduceBEq, Int.reduceLE, Int.reduceLT, Int.reduceNeg, Nat.reduceAdd, Nat.reduceEqDiff, Nat.reduceLT, Nat.reduceLeDiff, Nat.reduceMul, Nat.reduceSub, reduceCtorEq, ↓reduceIte]
    exact ⟨.same _, .set (i := 0) (e' := w13a.cells.map .c) rfl (.cons (.same _) (.cons (.same _) (.cons (.nil 1) (.cons (.nil 9) (.cons (.nil 1) (.cons (.same _) (.cons (.same _) (.cons (.same _) (.cons (.same _) (.cons (.row (B := ⟨true, 3, 1, rA iPV [1, 2]⟩) (es := [iPV 1, iPV 2]) (by simp) rfl rfl rfl rfl) .nil)))))))))) (cellish_map _), .same _⟩
  refine VC.frz [40] [(1, .ref 56 1 0 0)] [(56, ⟨false, 24, 2, [[.c (.sl 10 (w13.nodes.map NT.cells)), .c (.v (.int .i64 w13.root))]]⟩)] 400 ?_ ?_
  · simp only [rA_sc, rA_len, WeakF, used_is, sc_any, sc_c, sc_pp, sc_ref, sc_row, sc_agg, sc_fn, ScL, some_imp, List.forall_mem_map, go_sem, Int.reduceBEq, Int.reduceLE, Int.reduceLT, Int.reduceNeg, Nat.reduceAdd, Nat.reduceEqDiff, Nat.reduceLT, Nat.reduceLeDiff, Nat.reduceMul, Nat.reduceSub, reduceCtorEq, ↓reduceIte]
    exact ⟨.same _, .one (.cons (.row (B := ⟨true, 33, 10, [w13a.cells.map .c, w13b.cells.map .c, w13c.cells.map .c]⟩) (es := w13.nodes.map NT.cells) (by simp) rfl rfl rfl rfl) (.cons (.same _) .nil)) (by simp [AV.cellish])⟩
  have hA := Told.co (args := [_, _, .agg [.c (.v (.int .i64 3)), .c (.v (.int .i64 7)), .c (.v (.string ⟨#[]⟩)), .c (.v (.slice none 0 0)), .c (.v (.slice none 0 0))]]) hA (.cons (.same _) (.cons (.same _) (.cons (Co.aggL (.cons (.same _) (.cons (.same _) (.cons (.same _) (.cons (.nil 5) (.cons (.nil 1) .nil)))))) .nil)))
  have hB := Told.co (args := [_, _, .agg [.c (.v (.int .i64 1)), .c (.v (.int .i64 0)), .c (.v (.string ⟨#[]⟩)), .c (.v (.slice none 0 0)), .c (.v (.slice none 0 0))]]) hB (.cons (.same _) (.cons (.same _) (.cons (Co.aggL (.cons (.same _) (.cons (.same _) (.cons (.same _) (.cons (.nil 5) (.cons (.nil 1) .nil)))))) .nil)))
  simp only [VT.av_eq, vz, vcells_mk, List.map_cons, List.map_nil] at hA hB hC
  refine walkG ?_
  refine walkC (hA) ?_
  refine walkG ?_
  refine walkC (hB) ?_
  refine walkG ?_
  have h255 : bytePV [255] = [[.v (.int .u8 255)]] := rfl
  ((refine AO.step fun K hK => ?_; simp only [go_sem, Int.reduceBEq, Int.reduceLE, Int.reduceLT, Int.reduceNeg, Nat.reduceAdd, Nat.reduceEqDiff, Nat.reduceLT, Nat.reduceLeDiff, Nat.reduceMul, Nat.reduceSub, reduceCtorEq, ↓reduceIte]; (first | refine gsel_go ?_ | skip)); refine .inr (.inr (.inl ⟨?vy2, [552], ?va2, ?vl2, ?vm2, ?cond2, ?cont2⟩)); (case cond2 => ((repeat' apply And.intro) <;> (try ((with_reducible show ToldM _ _ _ _ _ _); exact hC))); (all_goals first | trivial | (simp only [go_sem, simprocAttr]; done) | (simp; done) | rfl)); (first | refine hK _ _ _ ?_ | (simp only [go_sem, simprocAttr]; first | refine hK _ _ _ ?_ | refine ⟨rfl, hK _ _ _ ?_⟩)); clear hK K)
  refine walkGF (h255) ?_
  refine ⟨by first | exact .inr rfl | exact .inl rfl, ?_⟩; rw [Tryz.results24]; simp only [resOk, resV, go_sem, simprocAttr]
  exact .c _

def bkeys : Nat → List (List UInt8) → Option Nat
  | n, [] => some n
  | n, y :: ys => if n ≤ 2000 then (if 2000 < y.length then none else bkeys (n + 1 + y.length) ys) else some n
mutual
def tbulk (d : Nat) : JT → Nat
  | .mk k n s ks xs => if 60 < d ∨ 2000 < s.length ∨ 2000 < ks.length ∨ 2000 < xs.length then 2001 else match bkeys (1 + s.length) ks with | none => 2001 | some n => bitems d n xs
def bitems (d : Nat) : Nat → List JT → Nat
  | n, [] => n
  | n, x :: xs => if n ≤ 2000 then bitems d (n + tbulk (d + 1) x) xs else n
end
theorem bkeys_le : ∀ (ys : List (List UInt8)) (n m : Nat), n ≤ 4001 → bkeys n ys = some m → m ≤ 4001
  | [], n, m, h, e => by simp [bkeys] at e; omega
  | y :: ys, n, m, h, e => by
    rw [bkeys] at e
    split at e
    · split at e
      · simp at e
      · exact bkeys_le ys _ m (by omega) e
    · simp at e; omega
mutual
theorem tbulk_le (d : Nat) : ∀ (t : JT), tbulk d t ≤ 4001 + 2001 * (61 - d)
  | .mk k n s ks xs => by
    rw [tbulk]
    split
    · omega
    · rename_i h
      split
      · omega
      · rename_i m hm
        exact bitems_le d xs m (by have := bkeys_le ks _ _ (by omega) hm; omega)
theorem bitems_le (d : Nat) : ∀ (xs : List JT) (n : Nat), n ≤ 4001 + 2001 * (61 - d) → bitems d n xs ≤ 4001 + 2001 * (61 - d)
  | [], n, h => by rw [bitems]; exact h
  | x :: xs, n, h => by
    rw [bitems]
    split
    · have := tbulk_le (d + 1) x
      by_cases hd : 60 < d
      · have h2 : tbulk (d + 1) x = 2001 := by
          cases x
          rw [tbulk, if_pos (by omega)]
        exact bitems_le d xs _ (by omega)
      · exact bitems_le d xs _ (by omega)
    · exact h
end
theorem bitems_ge (d : Nat) : ∀ (xs : List JT) (n : Nat), n ≤ bitems d n xs
  | [], n => by rw [bitems]; exact Nat.le_refl _
  | x :: xs, n => by
    rw [bitems]
    split
    · exact Nat.le_trans (Nat.le_add_right _ _) (bitems_ge d xs _)
    · exact Nat.le_refl _
mutual
theorem tbulk_deep (d : Nat) : ∀ (t : JT), tbulk d t ≤ 2000 → tdeep t + d ≤ 61
  | .mk k n s ks xs => fun h => by
    rw [tbulk] at h
    split at h
    · omega
    · rename_i hd
      split at h
      · omega
      · rw [tdeep]
        split
        · exact bitems_deep d xs _ 1 (by omega) h
        · omega
theorem bitems_deep (d : Nat) : ∀ (xs : List JT) (n m : Nat), m + d ≤ 61 → bitems d n xs ≤ 2000 → tdeeps m xs + d ≤ 61
  | [], n, m, hm, h => by rw [tdeeps]; exact hm
  | x :: xs, n, m, hm, h => by
    rw [bitems] at h
    split at h
    · have h1 := bitems_ge d xs (n + tbulk (d + 1) x)
      have h2 := tbulk_deep (d + 1) x (by omega)
      rw [tdeeps]
      exact bitems_deep d xs _ _ (by omega) h
    · omega
end

/-! A tree that is not great is small. -/
theorem bkeys_len : ∀ (ys : List (List UInt8)) (n m : Nat), bkeys n ys = some m → m ≤ 2000 → n + ys.length ≤ m ∧ ∀ y ∈ ys, y.length ≤ 2000
  | [], n, m, h, hm => by rw [bkeys] at h; obtain rfl := Option.some.inj h; exact ⟨by simp, by simp⟩
  | y :: ys, n, m, h, hm => by
    rw [bkeys] at h
    split at h
    · split at h
      · simp at h
      · obtain ⟨h1, h2⟩ := bkeys_len ys _ m h hm
        refine ⟨by simp; omega, fun z hz => ?_⟩
        rcases List.mem_cons.1 hz with rfl | hz
        · omega
        · exact h2 z hz
    · obtain rfl := Option.some.inj h
      omega
mutual
theorem bulk_sm (d : Nat) : ∀ t : JT, tbulk d t ≤ 2000 → t.sm 2000
  | .mk k n s ks xs => fun h => by
    rw [tbulk] at h
    split at h
    · omega
    · rename_i h1
      split at h
      · omega
      · rename_i m hm
        have h2 := bitems_ge d xs m
        obtain ⟨_, h3⟩ := bkeys_len ks _ m hm (by omega)
        exact ⟨by omega, by omega, h3, by omega, bitems_sm d m xs h⟩
theorem bitems_sm (d n : Nat) : ∀ xs : List JT, bitems d n xs ≤ 2000 → JT.smL 2000 xs
  | [] => fun _ => trivial
  | x :: xs => fun h => by
    rw [bitems] at h
    split at h
    · have := bitems_ge d xs (n + tbulk (d + 1) x)
      exact ⟨bulk_sm (d + 1) x (by omega), bitems_sm d _ xs h⟩
    · omega
end

theorem textsL_step {l : List (List UInt8)} {i n : Nat} {y : List UInt8} (hy : l[i]? = some y) (hn : n ≤ 2500) : textsL n (l.drop i) = if 2500 < y.length then 2501 else textsL (n + y.length) (l.drop (i + 1)) := by
  obtain ⟨hlt, rfl⟩ := List.getElem?_eq_some_iff.1 hy
  rw [List.drop_eq_getElem_cons hlt, textsL, if_pos hn]
theorem textsL_end {l : List (List UInt8)} {i n : Nat} (h : ¬ (i < l.length ∧ n ≤ 2500)) : textsL n (l.drop i) = n := by
  by_cases hlt : i < l.length
  · rw [List.drop_eq_getElem_cons hlt, textsL, if_neg (by omega)]
  · rw [List.drop_of_length_le (by omega), textsL]
set_option maxRecDepth 100000 in
set_option maxHeartbeats 800000 in
theorem texts_told (l : List (List UInt8)) : Told Tryz.prog 83 [.c (.sl 1 (l.map sPV)), .c (.v (.int .i64 2500))] (.c (.v (.int .i64 (textsB l)))) := by
  obtain ⟨V, hV⟩ : ∃ V, V = textsB l := ⟨_, rfl⟩
  rw [← hV]
  unfold textsB at hV
  have hw21 : IntKind.i64.wrap (2500 + 1) = 2501 := by rfl
  refine VC.told ent_83 Tryz.func83 rfl Tryz.ntmps83 (by simp) (by first | rfl | simp [AV.pureB, AV.pureL, pureL_c, pures]) (by first | rfl | simp [AV.pureB, AV.pureL, pureL_c, pures]) fun hb => ?_
  clear hb
  refine walkG ?_
  refine VC.cond (by rfl) (by trivial) (fun hc => ?_) (fun hc => ?_)
  · have hcc : 2500 < l.length := by simp at hc; omega
    rw [if_pos hcc] at hV
    subst hV
    refine walkGF (hw21) ?_
    refine ⟨by first | exact .inr rfl | exact .inl rfl, ?_⟩; rw [Tryz.results83]; simp only [resOk, resV, go_sem, simprocAttr]
    exact .c _
  have hcc : ¬ 2500 < l.length := by simp at hc; omega
  rw [if_neg hcc] at hV
  clear hc
  refine walkG ?_
  refine VC.loop (ι := {x : Nat × Nat // x.1 ≤ l.length ∧ x.2 ≤ 5000 ∧ textsL x.2 (l.drop x.1) = V}) (fun q => [(0, .c (.sl 1 (l.map sPV))), (1, .c (.v (.int .i64 2500))), (5, .c (.v (.int .i64 (q.1.2 : Int)))), (6, .c (.v (.int .i64 (q.1.1 : Int))))]) (fun _ => []) 800 (fun q => l.length - q.1.1)
    ⟨(0, l.length), Nat.zero_le _, by simp only []; omega, by rw [List.drop_zero]; exact hV.symm⟩ ?_ ?_
  · simp only [Weak, eq_self, used_is, sc_any, sc_c, sc_pp, sc_ref, sc_row, sc_agg, sc_fn, ScL, some_imp, List.forall_mem_map, go_sem, Int.reduceBEq, Int.reduceLE, Int.reduceLT, Int.reduceNeg, Nat.reduceAdd, Nat.reduceEqDiff, Nat.reduceLT, Nat.reduceLeDiff, Nat.reduceMul, Nat.reduceSub, reduceCtorEq, ↓reduceIte]
  clear hV
  rintro ⟨⟨i, n⟩, hi, hn, hV⟩
  simp only [] at hi hn hV ⊢
  refine walkG ?_
  refine VC.cond (by rfl) (by trivial) (fun hc => ?_) (fun hc => ?_)
  · have hcc : i < l.length ∧ n ≤ 2500 := by simp at hc; omega
    clear hc
    obtain ⟨y, hy⟩ : ∃ y, l[i]? = some y := ⟨l[i], List.getElem?_eq_getElem hcc.1⟩
    have hyp : (l.map sPV)[i]? = some (sPV y) := by rw [List.getElem?_map, hy]; rfl
    rw [textsL_step hy hcc.2] at hV
    have hw : IntKind.i64.wrap ((i : Int) + 1) = (i : Int) + 1 := wrap64_id (by omega) (by omega)
    refine walkGF (And.intro hyp (And.intro @sPV_eq @str_size)) ?_
    refine VC.cond (by rfl) (by trivial) (fun hc2 => ?_) (fun hc2 => ?_)
    · rw [if_pos (by simp at hc2; omega)] at hV
      subst hV
      refine walkGF (hw21) ?_
      refine ⟨by first | exact .inr rfl | exact .inl rfl, ?_⟩; rw [Tryz.results83]; simp only [resOk, resV, go_sem, simprocAttr]
      exact .c _
    · have hyl : y.length ≤ 2500 := by simp at hc2; omega
      rw [if_neg (by omega)] at hV
      have hw2 : IntKind.i64.wrap ((n : Int) + (y.length : Int)) = ((n + y.length : Nat) : Int) := by rw [wrap64_id (by omega) (by omega)]; rfl
      refine walkGF (And.intro hyp (And.intro @sPV_eq (And.intro @str_size (And.intro hw hw2)))) ?_
      refine .next ⟨(i + 1, n + y.length), by simp only []; omega, by simp only []; omega, hV⟩ ?_ (by simp only []; omega)
      simp only [Weak, eq_self, used_is, sc_any, sc_c, sc_pp, sc_ref, sc_row, sc_agg, sc_fn, ScL, some_imp, List.forall_mem_map, go_sem, Int.reduceBEq, Int.reduceLE, Int.reduceLT, Int.reduceNeg, Nat.reduceAdd, Nat.reduceEqDiff, Nat.reduceLT, Nat.reduceLeDiff, Nat.reduceMul, Nat.reduceSub, reduceCtorEq, ↓reduceIte]
      try exact cI (by omega)
  · have hcc : ¬ (i < l.length ∧ n ≤ 2500) := by simp at hc; omega
    rw [textsL_end hcc] at hV
    subst hV
    refine walkG ?_
    refine ⟨by first | exact .inr rfl | exact .inl rfl, ?_⟩; rw [Tryz.results83]; simp only [resOk, resV, go_sem, simprocAttr]
    exact .c _
theorem fieldsB_step {l : List FT} {i n : Nat} {f : FT} (hf : l[i]? = some f) (hn : n ≤ 2500) : fieldsB n (l.drop i) = if 2500 < f.name.length then none else fieldsB (n + f.name.length + textsB f.aliases + tbulk5 0 f.dflt) (l.drop (i + 1)) := by
  obtain ⟨hlt, rfl⟩ := List.getElem?_eq_some_iff.1 hf
  rw [List.drop_eq_getElem_cons hlt, fieldsB, if_pos hn]
theorem fieldsB_end {l : List FT} {i n : Nat} (h : ¬ (i < l.length ∧ n ≤ 2500)) : fieldsB n (l.drop i) = some n := by
  by_cases hlt : i < l.length
  · rw [List.drop_eq_getElem_cons hlt, fieldsB, if_neg (by omega)]
  · rw [List.drop_of_length_le (by omega), fieldsB]
theorem nodesB_end {l : List NT} {i n : Nat} (h : ¬ (i < l.length ∧ n ≤ 2500)) : nodesB n (l.drop i) = n := by
  by_cases hlt : i < l.length
  · rw [List.drop_eq_getElem_cons hlt, nodesB, if_neg (by omega)]
  · rw [List.drop_of_length_le (by omega), nodesB]
theorem nodesB_step {l : List NT} {i n : Nat} {x : NT} (hx : l[i]? = some x) (hn : n ≤ 2500) : nodesB n (l.drop i) = if 2500 < x.name.length ∨ 2500 < x.fields.length ∨ 2500 < x.branches.length ∨ 2500 < x.dflt.length then 2501 else
      match fieldsB (n + x.name.length + x.fields.length + x.branches.length + x.dflt.length + textsB x.aliases + textsB x.symbols) x.fields with | none => 2501 | some m => nodesB m (l.drop (i + 1)) := by
  obtain ⟨hlt, rfl⟩ := List.getElem?_eq_some_iff.1 hx
  rw [List.drop_eq_getElem_cons hlt, nodesB, if_pos hn]
  generalize fieldsB _ _ = F
  cases F <;> rfl
set_option maxRecDepth 100000 in
set_option maxHeartbeats 1600000 in
theorem sbulk_told (s : ST) : Told Tryz.prog 46 [s.av, .c (.v (.int .i64 2500))] (.c (.v (.int .i64 (sbulk s)))) := by
  obtain ⟨V, hV⟩ : ∃ V, V = sbulk s := ⟨_, rfl⟩
  rw [← hV]
  unfold sbulk at hV
  have hw21 : IntKind.i64.wrap (2500 + 1) = 2501 := by rfl
  rw [ST.av_eq, scells_mk]
  refine VC.told ent_46 Tryz.func46 rfl Tryz.ntmps46 (by simp) (by first | rfl | simp [AV.pureB, AV.pureL, pureL_c, pures]) (by first | rfl | simp [AV.pureB, AV.pureL, pureL_c, pures]) fun hb => ?_
  clear hb
  refine walkG ?_
  refine VC.cond (by rfl) (by trivial) (fun hc => ?_) (fun hc => ?_)
  · have hcc : 2500 < s.nodes.length := by simp at hc; omega
    rw [if_pos hcc] at hV
    subst hV
    refine walkGF (hw21) ?_
    refine ⟨by first | exact .inr rfl | exact .inl rfl, ?_⟩; rw [Tryz.results46]; simp only [resOk, resV, go_sem, simprocAttr]
    exact .c _
  have hcc : ¬ 2500 < s.nodes.length := by simp at hc; omega
  rw [if_neg hcc] at hV
  clear hc
  refine walkG ?_
  refine VC.loop (ι := {x : Nat × Nat // x.1 ≤ s.nodes.length ∧ x.2 ≤ 300000 ∧ nodesB x.2 (s.nodes.drop x.1) = V}) (fun q => [(1, .c (.v (.int .i64 2500))), (2, .ref 0 1 0 0), (5, .c (.v (.int .i64 (q.1.2 : Int)))), (6, .c (.v (.int .i64 (q.1.1 : Int))))])
    (fun q => [(0, ⟨false, 24, 2, [[.c (.sl 10 (s.nodes.map NT.cells)), .c (.v (.int .i64 s.root))]]⟩)]) 800 (fun q => s.nodes.length - q.1.1)
    ⟨(0, s.nodes.length), Nat.zero_le _, by simp only []; omega, by rw [List.drop_zero]; exact hV.symm⟩ ?_ ?_
  · simp only [Weak, eq_self, used_is, sc_any, sc_c, sc_pp, sc_ref, sc_row, sc_agg, sc_fn, ScL, some_imp, List.forall_mem_map, go_sem, Int.reduceBEq, Int.reduceLE, Int.reduceLT, Int.reduceNeg, Nat.reduceAdd, Nat.reduceEqDiff, Nat.reduceLT, Nat.reduceLeDiff, Nat.reduceMul, Nat.reduceSub, reduceCtorEq, ↓reduceIte]
  clear hV
  rintro ⟨⟨i, b⟩, hi, hb, hV⟩
  simp only [] at hi hb hV ⊢
  refine walkG ?_
  refine VC.cond (by rfl) (by trivial) (fun hc => ?_) (fun hc => ?_)
  · have hcc2 : i < s.nodes.length ∧ b ≤ 2500 := by simp at hc; omega
    clear hc
    obtain ⟨x, hx⟩ : ∃ x, s.nodes[i]? = some x := ⟨s.nodes[i], List.getElem?_eq_getElem hcc2.1⟩
    have hxp : (s.nodes.map NT.cells)[i]? = some x.cells := by rw [List.getElem?_map, hx]; rfl
    rw [nodesB_step hx hcc2.2] at hV
    have hw : IntKind.i64.wrap ((i : Int) + 1) = (i : Int) + 1 := wrap64_id (by omega) (by omega)
    refine walkGF (And.intro hxp (And.intro @ncells_mk @str_size)) ?_
    refine VC.cond (by rfl) (by trivial) (fun hc2 => ?_) (fun hc2 => ?_)
    · rw [if_pos (by simp at hc2; omega)] at hV
      subst hV
      refine walkGF (hw21) ?_
      refine ⟨by first | exact .inr rfl | exact .inl rfl, ?_⟩; rw [Tryz.results46]; simp only [resOk, resV, go_sem, simprocAttr]
      exact .c _
    have hsm : ¬ (2500 < x.name.length ∨ 2500 < x.fields.length ∨ 2500 < x.branches.length ∨ 2500 < x.dflt.length) := by simp at hc2; omega
    rw [if_neg hsm] at hV
    clear hc2
    have hT1 := texts_told x.aliases
    have hT2 := texts_told x.symbols
    have ht1 := textsB_le x.aliases
    have ht2 := textsB_le x.symbols
    generalize textsB x.aliases = t1 at hT1 ht1 hV
    generalize textsB x.symbols = t2 at hT2 ht2 hV
    have w1 : IntKind.i64.wrap ((b : Int) + (x.name.length : Int)) = (b : Int) + (x.name.length : Int) := wrap64_id (by omega) (by omega)
    have w2 : IntKind.i64.wrap ((b : Int) + (x.name.length : Int) + (x.fields.length : Int)) = (b : Int) + (x.name.length : Int) + (x.fields.length : Int) := wrap64_id (by omega) (by omega)
    have w3 : IntKind.i64.wrap ((b : Int) + (x.name.length : Int) + (x.fields.length : Int) + (x.branches.length : Int)) = (b : Int) + (x.name.length : Int) + (x.fields.length : Int) + (x.branches.length : Int) := wrap64_id (by omega) (by omega)
    have w4 : IntKind.i64.wrap ((b : Int) + (x.name.length : Int) + (x.fields.length : Int) + (x.branches.length : Int) + (x.dflt.length : Int)) = (b : Int) + (x.name.length : Int) + (x.fields.length : Int) + (x.branches.length : Int) + (x.dflt.length : Int) := wrap64_id (by omega) (by omega)
    have w5 : IntKind.i64.wrap ((b : Int) + (x.name.length : Int) + (x.fields.length : Int) + (x.branches.length : Int) + (x.dflt.length : Int) + (t1 : Int)) = (b : Int) + (x.name.length : Int) + (x.fields.length : Int) + (x.branches.length : Int) + (x.dflt.length : Int) + (t1 : Int) := wrap64_id (by omega) (by omega)
    have w6 : IntKind.i64.wrap ((b : Int) + (x.name.length : Int) + (x.fields.length : Int) + (x.branches.length : Int) + (x.dflt.length : Int) + (t1 : Int) + (t2 : Int)) = ((b + x.name.length + x.fields.length + x.branches.length + x.dflt.length + t1 + t2 : Nat) : Int) := by rw [wrap64_id (by omega) (by omega)]; rfl
    obtain ⟨b0, hb0⟩ : ∃ b0, b0 = b + x.name.length + x.fields.length + x.branches.length + x.dflt.length + t1 + t2 := ⟨_, rfl⟩
    have hb0l : b0 ≤ 30000 := by omega
    rw [← hb0] at hV w6
    clear hb0
    refine walkGF (And.intro @str_size (And.intro w1 (And.intro w2 (And.intro w3 (And.intro w4 (And.intro w5 w6)))))) ?_
    refine walkC (hT1) ?_
    refine walkGF (w5) ?_
    refine walkC (hT2) ?_
    refine walkGF (w6) ?_
    clear hT1 hT2 w1 w2 w3 w4 w5 w6 ht1 ht2
    obtain ⟨F, hF⟩ : ∃ F, F = fieldsB b0 x.fields := ⟨_, rfl⟩
    rw [← hF] at hV
    have hFl : ∀ m, F = some m → m ≤ 300000 := fun m hm => fieldsB_le x.fields b0 m (by omega) (hF ▸ hm)
    refine VC.loop (ι := {y : Nat × Nat // y.1 ≤ x.fields.length ∧ y.2 ≤ 300000 ∧ fieldsB y.2 (x.fields.drop y.1) = F})
      (fun q => [(1, .c (.v (.int .i64 2500))), (2, .ref 0 1 0 0), (5, .c (.v (.int .i64 (q.1.2 : Int)))), (6, .c (.v (.int .i64 (i : Int)))), (7, .ref 920 1 0 0), (8, .c (.v (.int .i64 (q.1.1 : Int))))])
      (fun q => [(0, ⟨false, 24, 2, [[.c (.sl 10 (s.nodes.map NT.cells)), .c (.v (.int .i64 s.root))]]⟩), (920, ⟨false, 33, 10, [x.cells.map .c]⟩)]) 4000 (fun q => x.fields.length - q.1.1)
      ⟨(0, b0), Nat.zero_le _, by simp only []; omega, by rw [List.drop_zero]; exact hF.symm⟩ ?_ ?_
    · simp only [ncells_mk, Weak, eq_self, used_is, sc_any, sc_c, sc_pp, sc_ref, sc_row, sc_agg, sc_fn, ScL, some_imp, List.forall_mem_map, go_sem, Int.reduceBEq, Int.reduceLE, Int.reduceLT, Int.reduceNeg, Nat.reduceAdd, Nat.reduceEqDiff, Nat.reduceLT, Nat.reduceLeDiff, Nat.reduceMul, Nat.reduceSub, reduceCtorEq, ↓reduceIte]
    clear hF
    rintro ⟨⟨k, c⟩, hk, hc, hF⟩
    simp only [] at hk hc hF ⊢
    refine walkGF (@ncells_mk) ?_
    refine VC.cond (by rfl) (by trivial) (fun hc2 => ?_) (fun hc2 => ?_)
    · have hcc3 : k < x.fields.length ∧ c ≤ 2500 := by simp at hc2; omega
      clear hc2
      obtain ⟨f, hf⟩ : ∃ f, x.fields[k]? = some f := ⟨x.fields[k], List.getElem?_eq_getElem hcc3.1⟩
      have hfp : (x.fields.map FT.cells)[k]? = some f.cells := by rw [List.getElem?_map, hf]; rfl
      rw [fieldsB_step hf hcc3.2] at hF
      have hwk : IntKind.i64.wrap ((k : Int) + 1) = (k : Int) + 1 := wrap64_id (by omega) (by omega)
      refine walkGF (And.intro @ncells_mk (And.intro hfp (And.intro @fcells_mk @str_size))) ?_
      refine VC.cond (by rfl) (by trivial) (fun hc2 => ?_) (fun hc2 => ?_)
      · rw [if_pos (by simp at hc2; omega)] at hF
        subst hF
        simp only [] at hV
        subst hV
        refine walkGF (hw21) ?_
        refine ⟨by first | exact .inr rfl | exact .inl rfl, ?_⟩; rw [Tryz.results46]; simp only [resOk, resV, go_sem, simprocAttr]
        exact .c _
      have hnl : f.name.length ≤ 2500 := by simp at hc2; omega
      rw [if_neg (by omega)] at hF
      clear hc2
      have hT := texts_told f.aliases
      have ht := textsB_le f.aliases
      have hB := bulk_told5 _ f.dflt (Nat.le_refl _) 0 0 (by omega) rfl
      have hbt := tbulk5_top f.dflt
      generalize textsB f.aliases = t at hT ht hF
      generalize tbulk5 0 f.dflt = u at hB hbt hF
      simp only [JT.av_eq] at hB
      have w1 : IntKind.i64.wrap ((c : Int) + (f.name.length : Int)) = (c : Int) + (f.name.length : Int) := wrap64_id (by omega) (by omega)
      have w2 : IntKind.i64.wrap ((c : Int) + (f.name.length : Int) + (t : Int)) = (c : Int) + (f.name.length : Int) + (t : Int) := wrap64_id (by omega) (by omega)
      have w3 : IntKind.i64.wrap ((c : Int) + (f.name.length : Int) + (t : Int) + (u : Int)) = ((c + f.name.length + t + u : Nat) : Int) := by rw [wrap64_id (by omega) (by omega)]; rfl
      refine walkGF (And.intro @ncells_mk (And.intro hfp (And.intro @fcells_mk (And.intro @str_size w1)))) ?_
      refine walkC (hT) ?_
      refine walkGF (And.intro @ncells_mk (And.intro hfp (And.intro @fcells_mk (And.intro w2 (And.intro @len_cells (And.intro @take_cells @take_cellsC)))))) ?_
      refine walkCF (@pureL_c) (hB) ?_
      refine walkGF (And.intro w3 hwk) ?_
      refine .next ⟨(k + 1, c + f.name.length + t + u), by simp only []; omega, by simp only []; omega, hF⟩ ?_ (by simp only []; omega)
      simp only [ncells_mk, Weak, eq_self, used_is, sc_any, sc_c, sc_pp, sc_ref, sc_row, sc_agg, sc_fn, ScL, some_imp, List.forall_mem_map, go_sem, Int.reduceBEq, Int.reduceLE, Int.reduceLT, Int.reduceNeg, Nat.reduceAdd, Nat.reduceEqDiff, Nat.reduceLT, Nat.reduceLeDiff, Nat.reduceMul, Nat.reduceSub, reduceCtorEq, ↓reduceIte]
      try exact cI (by omega)
    · have hcc3 : ¬ (k < x.fields.length ∧ c ≤ 2500) := by simp at hc2; omega
      rw [fieldsB_end hcc3] at hF
      subst hF
      simp only [] at hV
      refine walkGF (hw) ?_
      refine .next ⟨(i + 1, c), by simp only []; omega, hc, hV⟩ ?_ (by simp only []; omega)
      simp only [Weak, eq_self, used_is, sc_any, sc_c, sc_pp, sc_ref, sc_row, sc_agg, sc_fn, ScL, some_imp, List.forall_mem_map, go_sem, Int.reduceBEq, Int.reduceLE, Int.reduceLT, Int.reduceNeg, Nat.reduceAdd, Nat.reduceEqDiff, Nat.reduceLT, Nat.reduceLeDiff, Nat.reduceMul, Nat.reduceSub, reduceCtorEq, ↓reduceIte]
      try exact cI (by omega)
  · have hcc2 : ¬ (i < s.nodes.length ∧ b ≤ 2500) := by simp at hc; omega
    rw [nodesB_end hcc2] at hV
    subst hV
    refine walkG ?_
    refine ⟨by first | exact .inr rfl | exact .inl rfl, ?_⟩; rw [Tryz.results46]; simp only [resOk, resV, go_sem, simprocAttr]
    exact .c _
set_option maxRecDepth 100000 in
set_option maxHeartbeats 400000 in
theorem sgreat_told (s : ST) : Told Tryz.prog 12 [s.av] (.c (.v (.bool (decide (2500 < (sbulk s : Int)))))) := by
  have hB := sbulk_told s
  simp only [ST.av_eq, scells_mk, List.map_cons, List.map_nil] at hB
  rw [ST.av_eq, scells_mk]
  refine VC.told ent_12 Tryz.func12 rfl Tryz.ntmps12 (by simp) (by first | rfl | simp [AV.pureB, AV.pureL, pureL_c, pures]) (by first | rfl | simp [AV.pureB, AV.pureL, pureL_c, pures]) fun hb => ?_
  clear hb
  refine walkG ?_
  refine walkC (hB) ?_
  refine walkG ?_
  refine ⟨by first | exact .inr rfl | exact .inl rfl, ?_⟩; rw [Tryz.results12]; simp only [resOk, resV, go_sem, simprocAttr]
  exact .c _

theorem ty_fieldI {ps : List PV} (h : TyPV Tryz.prog 38 ps) : ∃ f : FT, f.dflt.inr ∧ ps = f.cells := by
  obtain ⟨f, rfl⟩ := ty_field h
  obtain ⟨hl, hf⟩ := ty_fields h tyA_38 rfl
  obtain ⟨e, he, h4⟩ := (ty_json (hf 4 _ _ rfl _ tyA_36)).1 rfl
  obtain ⟨a0, a1, a2, a3, a4⟩ := f
  have hc : (FT.mk a0 a1 a2 a3 e).cells = (FT.mk a0 a1 a2 a3 a4).cells := by
    have : ((FT.mk a0 a1 a2 a3 a4).cells.drop 4).take 5 = a4.cells := by
      simp only [fcells_mk, List.drop_succ_cons, List.drop_zero]
      exact take_cells a4
    rw [this] at h4
    rw [fcells_mk, fcells_mk, h4]
  exact ⟨⟨a0, a1, a2, a3, e⟩, he, hc.symm⟩
theorem ty_fieldsI {ps : List PV} (h : TyPV Tryz.prog 30 ps) : ∃ fs : List FT, (∀ f ∈ fs, f.dflt.inr) ∧ ps = [.sl 9 (fs.map FT.cells)] := by
  obtain ⟨es, rfl, hx⟩ := ty_sl h Tryz.underlying30
  rw [cells_of tyA_38]
  obtain ⟨ns, hns, rfl⟩ := list_mapP (f := FT.cells) (p := fun f => f.dflt.inr) fun q hq => ty_fieldI (hx q hq)
  exact ⟨ns, hns, rfl⟩
theorem ty_nodeI {ps : List PV} (h : TyPV Tryz.prog 33 ps) : ∃ n : NT, (∀ f ∈ n.fields, f.dflt.inr) ∧ ps = n.cells := by
  obtain ⟨n, rfl⟩ := ty_node h
  obtain ⟨hl, hf⟩ := ty_fields h tyA_33 rfl
  obtain ⟨fs, hfs, h3⟩ := ty_fieldsI (hf 3 _ _ rfl _ tyA_30)
  have h3 : [PV.sl 9 (n.fields.map FT.cells)] = [PV.sl 9 (fs.map FT.cells)] := h3
  refine ⟨{ n with fields := fs }, hfs, ?_⟩
  rw [ncells_mk, ncells_mk]
  simp only [List.cons.injEq, and_true, true_and]
  exact (List.cons.inj h3).1
theorem arg_schemaI {x : AV} (h : TyAV Tryz.prog 24 x) : ∃ s : ST, s.inr ∧ x = s.av := by
  obtain ⟨s, rfl⟩ := arg_schema h
  obtain ⟨ps, h1, h2⟩ := h
  have hps : ps = s.cells := by
    rcases h2 with ⟨_, h2⟩ | ⟨h2, _⟩
    · rw [ST.av_eq] at h2
      have : s.cells.map AV.c = ps.map AV.c := by simpa using h2
      exact ((List.map_inj_right (fun a b h => by simpa using h)).1 this).symm
    · exact absurd Tryz.underlying24 (h2 _)
  subst hps
  obtain ⟨hl, hf⟩ := ty_fields h1 tyA_24 rfl
  obtain ⟨es, h3, hx⟩ := ty_sl (hf 0 _ _ rfl _ tyA_22) Tryz.underlying22
  rw [cells_of tyA_33] at h3
  obtain ⟨ns, hns, rfl⟩ := list_mapP (f := NT.cells) (p := fun n => ∀ f ∈ n.fields, f.dflt.inr) fun q hq => ty_nodeI (hx q hq)
  have h3 : [PV.sl 10 (s.nodes.map NT.cells)] = [PV.sl 10 (ns.map NT.cells)] := h3
  refine ⟨⟨ns, s.root⟩, hns, ?_⟩
  rw [ST.av_eq, ST.av_eq, scells_mk, scells_mk, (List.cons.inj h3).1]

mutual
def vbulk (d : Nat) : VT → Nat
  | .mk k n w s xs ks => if 80 < d ∨ 2500 < s.length ∨ 2500 < xs.length ∨ 2500 < ks.length then 2501 else match bkeys5 (1 + s.length) ks with | none => 2501 | some n => vitems d n xs
def vitems (d : Nat) : Nat → List VT → Nat
  | n, [] => n
  | n, x :: xs => if n ≤ 2500 then vitems d (n + vbulk (d + 1) x) xs else n
end
mutual
theorem vbulk_le (d : Nat) : ∀ (t : VT), vbulk d t ≤ 5001 + 2501 * (81 - d)
  | .mk k n w s xs ks => by
    rw [vbulk]
    split
    · omega
    · rename_i h
      split
      · omega
      · rename_i m hm
        exact vitems_le d xs m (by have := bkeys5_le ks _ _ (by omega) hm; omega)
theorem vitems_le (d : Nat) : ∀ (xs : List VT) (n : Nat), n ≤ 5001 + 2501 * (81 - d) → vitems d n xs ≤ 5001 + 2501 * (81 - d)
  | [], n, h => by rw [vitems]; exact h
  | x :: xs, n, h => by
    rw [vitems]
    split
    · have := vbulk_le (d + 1) x
      by_cases hd : 80 < d
      · have h2 : vbulk (d + 1) x = 2501 := by
          cases x
          rw [vbulk, if_pos (by omega)]
        exact vitems_le d xs _ (by omega)
      · exact vitems_le d xs _ (by omega)
    · exact h
end
theorem vitems_ge (d : Nat) : ∀ (xs : List VT) (n : Nat), n ≤ vitems d n xs
  | [], n => by rw [vitems]; exact Nat.le_refl _
  | x :: xs, n => by
    rw [vitems]
    split
    · exact Nat.le_trans (Nat.le_add_right _ _) (vitems_ge d xs _)
    · exact Nat.le_refl _
mutual
theorem vbulk_deep (d : Nat) : ∀ (t : VT), vbulk d t ≤ 2500 → vdeep t + d ≤ 81
  | .mk k n w s xs ks => fun h => by
    rw [vbulk] at h
    split at h
    · omega
    · rename_i hd
      split at h
      · omega
      · rw [vdeep]
        split
        · exact vitems_deep d xs _ 1 (by omega) h
        · omega
theorem vitems_deep (d : Nat) : ∀ (xs : List VT) (n m : Nat), m + d ≤ 81 → vitems d n xs ≤ 2500 → vdeeps m xs + d ≤ 81
  | [], n, m, hm, h => by rw [vdeeps]; exact hm
  | x :: xs, n, m, hm, h => by
    rw [vitems] at h
    split at h
    · have h1 := vitems_ge d xs (n + vbulk (d + 1) x)
      have h2 := vbulk_deep (d + 1) x (by omega)
      rw [vdeeps]
      exact vitems_deep d xs _ _ (by omega) h
    · omega
end
mutual
theorem vbulk_sm (d : Nat) : ∀ v : VT, v.inr → vbulk d v ≤ 2500 → v.sm 2500
  | .mk k n w s xs ks => fun hr h => by
    rw [vbulk] at h
    split at h
    · omega
    · rename_i h1
      split at h
      · omega
      · rename_i m hm
        have h2 := vitems_ge d xs m
        obtain ⟨_, h3⟩ := bkeys5_len ks _ m hm (by omega)
        exact ⟨hr.1, by omega, by omega, h3, by omega, vitems_sm d m xs hr.2 h⟩
theorem vitems_sm (d n : Nat) : ∀ xs : List VT, VT.inrL xs → vitems d n xs ≤ 2500 → VT.smL 2500 xs
  | [] => fun _ _ => trivial
  | x :: xs => fun hr h => by
    rw [vitems] at h
    split at h
    · have := vitems_ge d xs (n + vbulk (d + 1) x)
      exact ⟨vbulk_sm (d + 1) x hr.1 (by omega), vitems_sm d _ xs hr.2 h⟩
    · omega
end

theorem arg_place {x : AV} (h : TyAV Tryz.prog 3 x) : ∃ n : Int, (-9223372036854775808 ≤ n ∧ n ≤ 9223372036854775807) ∧ x = .c (.v (.int .i64 n)) := by
  obtain ⟨ps, h1, h2⟩ := h
  obtain ⟨n, rfl, hn⟩ := ty_int h1 Tryz.underlying3
  rcases h2 with ⟨⟨fs, h2⟩, _⟩ | ⟨_, q, h2, rfl⟩
  · simp [Tryz.underlying3] at h2
  · simp at h2
    subst h2
    exact ⟨n, wf64 hn, rfl⟩
theorem fieldsB_deep : ∀ (l : List FT) (n m : Nat), fieldsB n l = some m → m ≤ 2500 → ∀ f ∈ l, tdeep f.dflt ≤ 61
  | [], n, m, e, h => by simp
  | f :: fs, n, m, e, h => by
    have hs := fieldsB_sm (f :: fs) n m e h
    rw [fieldsB] at e
    split at e
    · split at e
      · simp at e
      · have h3 := fieldsB_deep fs _ m e h
        have h4 := (fieldsB_sm fs _ m e h).1
        intro g hg
        rcases List.mem_cons.1 hg with rfl | hg
        · have := tbulk5_deep 0 g.dflt (by omega)
          omega
        · exact h3 g hg
    · obtain rfl := Option.some.inj e
      omega
theorem nodesB_deep : ∀ (l : List NT) (n : Nat), nodesB n l ≤ 2500 → ∀ x ∈ l, ∀ f ∈ x.fields, tdeep f.dflt ≤ 61
  | [], n, h => by simp
  | x :: xs, n, h => by
    rw [nodesB] at h
    split at h
    · split at h
      · omega
      · split at h
        · omega
        · rename_i m hm
          have h3 := nodesB_sm xs m h
          intro y hy
          rcases List.mem_cons.1 hy with rfl | hy
          · exact fieldsB_deep _ _ m hm (by omega)
          · exact nodesB_deep xs m h y hy
    · omega
theorem sbulk_deep {s : ST} (h : sbulk s ≤ 2500) : ∀ x ∈ s.nodes, ∀ f ∈ x.fields, tdeep f.dflt ≤ 1000 := by
  unfold sbulk at h
  split at h
  · omega
  · intro x hx f hf
    have := nodesB_deep _ _ h x hx f hf
    omega

theorem fld_35 {s : ST} (hr : rightM s = true) (hok : SayOk s.nodes) {n : NT} (hn : n ∈ s.nodes) {fd : FT} (hf : fd ∈ n.fields) (h9 : n.kind = 9) : (fd.has && (fldM s fd).2 != 0) = ((fldM s fd).2 == 35) := by
  unfold fldM
  cases hh : fd.has with
  | false => rfl
  | true =>
    rw [if_pos rfl]
    have hkid := (hok.2 n hn).2.2.1 fd.type (by
      unfold kidsN
      rw [if_pos h9]
      exact List.mem_map.2 ⟨fd, hf, rfl⟩)
    have hN := right_nodes hr n hn
    unfold nodeM at hN
    simp only [Bool.and_eq_true] at hN
    have hK := hN.2.2
    rw [if_pos h9] at hK
    unfold fieldsM at hK
    simp only [Bool.and_eq_true] at hK
    have hF := List.all_eq_true.1 hK.1 fd hf
    unfold fieldM at hF
    rw [Bool.and_eq_true, if_pos hh] at hF
    unfold ofM
    rw [if_pos ⟨hkid.1, hkid.2, hr, hF.2⟩]
    split <;> rfl
set_option maxRecDepth 100000 in
set_option maxHeartbeats 3200000 in
theorem rcheck13_told (s : ST) (hs : s.sm 1000000) (hdp : ∀ n ∈ s.nodes, ∀ f ∈ n.fields, tdeep f.dflt ≤ 1000) (hok : rightM s = true → SayOk s.nodes) : Told Tryz.prog 30 [s.av] (.c (.v (.int .i64 (checkM s)))) := by
  have hR := rRight_told s hs hdp
  unfold checkM
  cases hr : rightM s with
  | false =>
    rw [hr] at hR
    rw [if_neg (by decide)]
    rw [ST.av_eq, scells_mk] at hR ⊢
    refine VC.told ent_30 Tryz.func30 rfl Tryz.ntmps30 (by simp) (by first | rfl | simp [AV.pureB, AV.pureL, pureL_c, pures]) (by first | rfl | simp [AV.pureB, AV.pureL, pureL_c, pures]) fun hb => ?_
    clear hb
    refine walkG ?_
    refine walkC (hR) ?_
    refine walkB ?_
    refine ⟨by first | exact .inr rfl | exact .inl rfl, ?_⟩; rw [Tryz.results30]; simp only [resOk, resV, go_sem, simprocAttr]
    exact .c _
  | true =>
  rw [hr] at hR
  have hok' := hok hr
  rw [if_pos rfl]
  obtain ⟨V, hV⟩ : ∃ V : Int, V = if badN s s.nodes = true then 35 else 0 := ⟨_, rfl⟩
  rw [← hV]
  have hF := fun (i k : Nat) => rfield13_any s hs hdp hok (i : Int) (k : Int)
  simp only [ST.av_eq, scells_mk] at hR hF ⊢
  have hsl := hs.1
  refine VC.told ent_30 Tryz.func30 rfl Tryz.ntmps30 (by simp) (by first | rfl | simp [AV.pureB, AV.pureL, pureL_c, pures]) (by first | rfl | simp [AV.pureB, AV.pureL, pureL_c, pures]) fun hb => ?_
  clear hb
  refine walkG ?_
  refine walkC (hR) ?_
  refine walkB ?_
  refine VC.loop (ι := {i : Nat // i ≤ s.nodes.length ∧ badN s (s.nodes.take i) = false}) (fun q => [(1, .ref 0 1 0 0), (3, .c (.v (.int .i64 (q.1 : Int))))])
    (fun _ => [(0, ⟨false, 24, 2, [[.c (.sl 10 (s.nodes.map NT.cells)), .c (.v (.int .i64 s.root))]]⟩)]) 800 (fun q => s.nodes.length - q.1) ⟨0, Nat.zero_le _, rfl⟩ ?_ ?_
  · simp only [Weak, eq_self, used_is, sc_any, sc_c, sc_pp, sc_ref, sc_row, sc_agg, sc_fn, ScL, some_imp, List.forall_mem_map, go_sem, Int.reduceBEq, Int.reduceLE, Int.reduceLT, Int.reduceNeg, Nat.reduceAdd, Nat.reduceEqDiff, Nat.reduceLT, Nat.reduceLeDiff, Nat.reduceMul, Nat.reduceSub, reduceCtorEq, ↓reduceIte]
    all_goals rfl
  rintro ⟨i, hi, hbi⟩
  simp only []
  by_cases hlt : i < s.nodes.length
  rotate_left
  · obtain rfl : i = s.nodes.length := by omega
    have e0 : decide ((s.nodes.length : Int) < (s.nodes.length : Int)) = false := by simp
    have hV0 : V = 0 := by
      rw [List.take_length] at hbi
      rw [hV, hbi]; rfl
    refine walkBF (e0) ?_
    refine ⟨by first | exact .inr rfl | exact .inl rfl, ?_⟩; rw [Tryz.results30]; simp only [resOk, resV, go_sem, simprocAttr]
    rw [hV0]
    exact .c _
  have e0 : decide ((i : Int) < (s.nodes.length : Int)) = true := by simp; omega
  obtain ⟨n, hn⟩ : ∃ n, s.nodes[i]? = some n := ⟨s.nodes[i], List.getElem?_eq_getElem hlt⟩
  have hxp : (s.nodes.map NT.cells)[i]? = some n.cells := by rw [List.getElem?_map, hn]; rfl
  have hw : IntKind.i64.wrap ((i : Int) + 1) = (i : Int) + 1 := wrap64_id (by omega) (by omega)
  have hfl := (hs.2 n (List.mem_of_getElem? hn)).2.2.2.2.2.1
  refine walkBF (And.intro hxp (And.intro @ncells_mk e0)) ?_
  refine VC.loop (ι := {k : Nat // k ≤ n.fields.length ∧ badF s (n.fields.take k) = false}) (fun q => [(1, .ref 0 1 0 0), (3, .c (.v (.int .i64 (i : Int)))), (4, .c (.v (.int .i64 (q.1 : Int))))])
    (fun _ => [(0, ⟨false, 24, 2, [[.c (.sl 10 (s.nodes.map NT.cells)), .c (.v (.int .i64 s.root))]]⟩)]) 4000 (fun q => n.fields.length - q.1) ⟨0, Nat.zero_le _, rfl⟩ ?_ ?_
  · simp only [Weak, eq_self, used_is, sc_any, sc_c, sc_pp, sc_ref, sc_row, sc_agg, sc_fn, ScL, some_imp, List.forall_mem_map, go_sem, Int.reduceBEq, Int.reduceLE, Int.reduceLT, Int.reduceNeg, Nat.reduceAdd, Nat.reduceEqDiff, Nat.reduceLT, Nat.reduceLeDiff, Nat.reduceMul, Nat.reduceSub, reduceCtorEq, ↓reduceIte]
    all_goals rfl
  rintro ⟨k, hk, hbk⟩
  simp only []
  by_cases hlt2 : k < n.fields.length
  rotate_left
  · obtain rfl : k = n.fields.length := by omega
    have e2 : decide ((n.fields.length : Int) < (n.fields.length : Int)) = false := by simp
    rw [List.take_length] at hbk
    refine walkBF (And.intro hxp (And.intro @ncells_mk (And.intro e2 hw))) ?_
    refine .next ⟨i + 1, by omega, any_take _ hn hbi hbk⟩ ?_ (by simp only []; omega)
    simp only [Weak, eq_self, used_is, sc_any, sc_c, sc_pp, sc_ref, sc_row, sc_agg, sc_fn, ScL, some_imp, List.forall_mem_map, go_sem, Int.reduceBEq, Int.reduceLE, Int.reduceLT, Int.reduceNeg, Nat.reduceAdd, Nat.reduceEqDiff, Nat.reduceLT, Nat.reduceLeDiff, Nat.reduceMul, Nat.reduceSub, reduceCtorEq, ↓reduceIte]
    exact cI (by omega)
  have e2 : decide ((k : Int) < (n.fields.length : Int)) = true := by simp; omega
  obtain ⟨fd, hfd⟩ : ∃ fd, n.fields[k]? = some fd := ⟨n.fields[k], List.getElem?_eq_getElem hlt2⟩
  have hw2 : IntKind.i64.wrap ((k : Int) + 1) = (k : Int) + 1 := wrap64_id (by omega) (by omega)
  have hFk := hF i k
  rw [fldAt_some hr hn hfd] at hFk
  have h35 := fld_35 hr hok' (List.mem_of_getElem? hn) (List.mem_of_getElem? hfd) (right_kind hr (List.mem_of_getElem? hn) hfd)
  have hbad : ((fldM s fd).2 == 35) = true → V = 35 := fun h => by
    have : badN s s.nodes = true := any_at _ hn (any_at _ hfd (h35.trans h))
    rw [hV, if_pos this]
  have hgood : ((fldM s fd).2 == 35) = false → badF s (n.fields.take (k + 1)) = false := fun h => any_take _ hfd hbk (h35.trans h)
  clear hF hV h35
  generalize fldM s fd = Y at *
  rw [VT.av_eq] at hFk
  obtain ⟨b2, e5⟩ : ∃ b : Bool, b = (Y.2 == 35) := ⟨_, rfl⟩
  rw [← e5] at hbad hgood
  cases b2 with
  | false =>
    refine walkBF (And.intro hxp (And.intro @ncells_mk e2)) ?_
    refine walkCF (@pureL_c) (hFk) ?_
    refine walkBF (And.intro e5.symm (And.intro hw2 (And.intro @len_vcells (And.intro @take_vcells @take_vcellsC)))) ?_
    refine .next ⟨k + 1, by omega, hgood rfl⟩ ?_ (by simp only []; omega)
    simp only [Weak, eq_self, used_is, sc_any, sc_c, sc_pp, sc_ref, sc_row, sc_agg, sc_fn, ScL, some_imp, List.forall_mem_map, go_sem, Int.reduceBEq, Int.reduceLE, Int.reduceLT, Int.reduceNeg, Nat.reduceAdd, Nat.reduceEqDiff, Nat.reduceLT, Nat.reduceLeDiff, Nat.reduceMul, Nat.reduceSub, reduceCtorEq, ↓reduceIte]
    exact cI (by omega)
  | true =>
    have hV35 := hbad rfl
    refine walkBF (And.intro hxp (And.intro @ncells_mk e2)) ?_
    refine walkCF (@pureL_c) (hFk) ?_
    refine walkBF (And.intro e5.symm (And.intro hw2 (And.intro @len_vcells (And.intro @take_vcells @take_vcellsC)))) ?_
    refine ⟨by first | exact .inr rfl | exact .inl rfl, ?_⟩; rw [Tryz.results30]; simp only [resOk, resV, go_sem, simprocAttr]
    rw [hV35]
    exact .c _
theorem fldAt_sm {s : ST} (hsi : s.inr) (hok : rightM s = true → SayOk s.nodes) (r f : Int) : (fldAt s r f).1.sm 1000000 := by
  have hz : (vz 0).sm 1000000 := ⟨by omega, by simp, by simp, by simp, by simp, trivial⟩
  unfold fldAt
  split
  · cases hn : s.nodes[r.toNat]? with
    | none => exact hz
    | some n =>
      simp only []
      cases hf : n.fields[f.toNat]? with
      | none => exact hz
      | some fd =>
        simp only []
        unfold fldM
        split
        · exact (of_good hok fd.type (hsi n (List.mem_of_getElem? hn) fd (List.mem_of_getElem? hf))).2.2
        · exact hz
  · exact hz
set_option maxRecDepth 100000 in
set_option maxHeartbeats 6400000 in
theorem dfields_told (s : ST) (hsi : s.inr) (r f : Int) : Told Tryz.prog 6 [s.av, .c (.v (.int .i64 r)), .c (.v (.int .i64 f))] (.c (.v (.bool true))) := by
  have hS := sgreat_told s
  by_cases hs : 2500 < sbulk s
  · have e1 : decide (2500 < (sbulk s : Int)) = true := by simp; omega
    rw [e1] at hS
    rw [ST.av_eq] at hS ⊢
    refine VC.told ent_6 Tryz.func6 rfl Tryz.ntmps6 (by simp) (by first | rfl | simp [AV.pureB, AV.pureL, pureL_c, pures]) (by first | rfl | simp [AV.pureB, AV.pureL, pureL_c, pures]) fun hb => ?_
    clear hb
    refine walkGF (And.intro @len_scells (And.intro @take_scells @take_scellsC)) ?_
    refine walkCF (@pureL_c) (hS) ?_
    refine walkB ?_
    refine walkC (works13_told) ?_
    refine walkB ?_
    refine ⟨by first | exact .inr rfl | exact .inl rfl, ?_⟩; rw [Tryz.results6]; simp only [resOk, resV, go_sem, simprocAttr]
    exact .c _
  have e1 : decide (2500 < (sbulk s : Int)) = false := by simp; omega
  rw [e1] at hS
  have hsm := ssm_le' (sbulk_sm (s := s) (by omega))
  have hdp := sbulk_deep (s := s) (by omega)
  have hok := right_say hsm hsi
  have hO := field13_any s hsm hok r f
  have hP := rfield13_any s hsm hdp hok r f
  have hA := rvself_told _ (fldAt s r f).1 (Nat.le_refl _) (fldAt_sm hsi hok r f)
  have hC1 := check13_told s hsm hok
  have hC2 := rcheck13_told s hsm hdp hok
  generalize (fldAt s r f).1 = V at *
  generalize (fldAt s r f).2 = E at *
  generalize checkM s = CK at *
  have e3 : (E == E) = true := by simp
  have e4 : (CK == CK) = true := by simp
  simp only [VT.av_eq] at hO hP hA
  simp only [ST.av_eq, scells_mk] at hS hO hP hC1 hC2 ⊢
  refine VC.told ent_6 Tryz.func6 rfl Tryz.ntmps6 (by simp) (by first | rfl | simp [AV.pureB, AV.pureL, pureL_c, pures]) (by first | rfl | simp [AV.pureB, AV.pureL, pureL_c, pures]) fun hb => ?_
  clear hb
  refine walkGF (And.intro @len_scells (And.intro @take_scells (And.intro @take_scellsC @scells_mk))) ?_
  refine walkCF (@pureL_c) (hS) ?_
  refine walkB ?_
  refine walkCF (@pureL_c) (hO) ?_
  refine walkGF (And.intro @len_vcells (And.intro @take_vcells @take_vcellsC)) ?_
  refine walkCF (@pureL_c) (hP) ?_
  refine walkGF (And.intro @len_vcells (And.intro @take_vcells @take_vcellsC)) ?_
  refine walkCF (@pureL_c) (hA) ?_
  refine walkGF (e3) ?_
  refine walkC (hC1) ?_
  refine walkG ?_
  refine walkC (hC2) ?_
  refine walkBF (e4) ?_
  refine walkC (works13_told) ?_
  refine walkB ?_
  refine ⟨by first | exact .inr rfl | exact .inl rfl, ?_⟩; rw [Tryz.results6]; simp only [resOk, resV, go_sem, simprocAttr]
  exact .c _
section

theorem gWords : Tryz.prog.globalNamed "avocet/naming.words" = some 0 := by kernel_rfl
theorem tWords : (Tryz.prog.globals[0]?).map (·.type) = some 241 := by kernel_rfl
theorem uWords : Tryz.prog.underlying 241 = some (.array 15 9) := by kernel_rfl
theorem cWords : Tryz.prog.cellsOf 9 = 1 := by kernel_rfl
theorem onlyWords : ((List.range Tryz.prog.globals.size).all fun g => g == 0 || (glob Tryz.prog g).isNone) = true := by kernel_rfl
theorem globWords : glob Tryz.prog 0 = some (kwords.map fun w => PV.v (.string (str w))) := by kernel_rfl
theorem words_cells {W : World} (h : laidMetH Tryz.prog [("avocet/naming.words", Rows.laid_avocet_naming_words)] W) :
    ∃ cs : Array Value, (∀ i, W.cell? ⟨0, i, none⟩ = cs[i]?) ∧ cs.size = 15 ∧ ∀ (i : Nat) (w : List UInt8), kwords[i]? = some w → cs[i]? = some (.string (str w)) := by
  rw [MakeChecks.laidMetH_plain _ _ _ (by kernel_rfl)] at h
  obtain ⟨ps, ⟨g0, t0, cs0, f0, p0, q0, hg0, ht0, hv0, hd0, _, _⟩, _, _⟩ := h
  obtain rfl := Option.some.inj (gWords.symm.trans hg0)
  obtain rfl := Option.some.inj (tWords.symm.trans ht0)
  obtain ⟨xs, m1, rfl, hx1, hlen, hn15, hel⟩ := DataW.trod_array uWords hd0
  simp only [Rows.laid_avocet_naming_words, Prod.mk.injEq, DataW.agg.injEq] at hx1
  have hx2 : kwords.map (fun w => (DataW.lit (.string w) : DataW Unit)) = xs.map (·.1) := hx1.1
  have hat : ∀ i, i < 15 → ∃ s : ByteArray, cs0[i]? = some (.string s) ∧ ∃ x, xs[i]? = some x ∧ x.1 = .lit (.string s.data.toList) := by
    intro i hi
    obtain ⟨x, hx⟩ : ∃ x, xs[i]? = some x := ⟨xs[i]'(by omega), List.getElem?_eq_getElem (by omega)⟩
    have h1 := hel i hi
    rw [hx] at h1
    obtain ⟨s, e1, e2, _⟩ := DataW.trod_string Tryz.underlying9 h1
    rw [cWords, Nat.mul_one] at e1
    refine ⟨s, ?_, x, hx, by rw [e2]⟩
    have h2 : (cs0.toList.drop i)[0]? = some (.string s) := by
      have h3 : ((cs0.toList.drop i).take 1)[0]? = some (.string s) := by rw [e1]; rfl
      rwa [List.getElem?_take_of_lt (by decide)] at h3
    rw [List.getElem?_drop, Nat.add_zero] at h2
    simpa using h2
  refine ⟨cs0, fun i => World.var?_cell hg0 hv0 i, ?_, fun i w hw => ?_⟩
  · have := hlen
    rw [show Tryz.prog.cellsOf 241 = 15 by kernel_rfl] at this
    simpa using this
  · have hi : i < 15 := (List.getElem?_eq_some_iff.1 hw).1
    obtain ⟨s, h1, x, h2, h3⟩ := hat i hi
    have h4 : (xs.map (·.1))[i]? = some (.lit (.string w)) := by rw [← hx2, List.getElem?_map, hw]; rfl
    rw [List.getElem?_map, h2] at h4
    have h5 : x.1 = .lit (.string w) := Option.some.inj h4
    rw [h3] at h5
    have h6 : s.data.toList = w := Lit.string.inj (DataW.lit.inj h5)
    have h7 : s = str w := by
      apply ByteArray.ext
      rw [← h6]
      show s.data = s.data.toList.toArray
      exact (Array.toArray_toList).symm
    rw [h1, h7]
theorem gok_words {W : World} (h : laidMetH Tryz.prog [("avocet/naming.words", Rows.laid_avocet_naming_words)] W) : GOk Tryz.prog W (fun k => k < W.heap.size) := by
  obtain ⟨cs, h1, h2, h3⟩ := words_cells h
  intro g cells hc
  have hg : g = 0 := by
    by_cases hlt : g < Tryz.prog.globals.size
    · have := List.all_eq_true.1 onlyWords g (List.mem_range.2 hlt)
      rw [hc] at this
      simpa using this
    · unfold glob at hc
      rw [Array.getElem?_eq_none (by omega)] at hc
      simp at hc
  subst hg
  rw [globWords] at hc
  obtain rfl := Option.some.inj hc
  refine ⟨?_, cs.toList, fun j hj => ?_, ⟨by simp [h2, kwords], fun j p v hp hv => ?_⟩⟩
  · have h4 := h1 0
    rw [h3 0 [] rfl] at h4
    by_cases hlt : 0 < W.heap.size
    · exact hlt
    · unfold World.cell? at h4
      simp only [] at h4
      rw [Array.getElem?_eq_none (by omega)] at h4
      simp at h4
  · rw [Nat.zero_add, h1 j]
    simp
  · rw [List.getElem?_map] at hp
    cases hw : kwords[j]? with
    | none => rw [hw] at hp; simp at hp
    | some w =>
      rw [hw] at hp
      obtain rfl := Option.some.inj hp
      have h5 := h3 j w hw
      rw [Array.getElem?_toList] at hv
      rw [h5] at hv
      obtain rfl := Option.some.inj hv
      exact .v rfl
section
variable {P : Program} {w : World}
theorem law_toldG (hg : GOk P w (fun k => k < w.heap.size)) {f : FuncId} {args : List AV} (hT : Told P f args (.c (.v (.bool true)))) {vs : List Value} (hl : vs.length = args.length) (hr : ∀ (j : Nat) (x : AV) (v : Value), args[j]? = some x → vs[j]? = some v → Rep w (fun b => b < w.heap.size) φ0 h0 x v) :
    Calls P f vs.toArray w fun e W' => e = .returned (.bool true) ∧ Below w.heap.size w W' := by
  refine (hT.2 w (fun k => k < w.heap.size) vs (fun _ h => h) hg ⟨hl, hr⟩).mono ?_
  rintro e W' ⟨v, ro', rfl, hb, _, _, hr, _⟩
  obtain rfl := rep_prim hr
  exact ⟨rfl, hb⟩
end
end
end
end Go.Proofs.YtllnlmchjljhlaaGreatDoor
