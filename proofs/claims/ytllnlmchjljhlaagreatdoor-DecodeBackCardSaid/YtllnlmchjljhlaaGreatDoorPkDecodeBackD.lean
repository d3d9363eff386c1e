/- Texts that lead to the law DecodeBack, joined. -/
import Derived.Test.YtllnlmchjljhlaaGreatDoorPkDecodeBackC
import Derived.Test.YtllnlmchjljhlaaGreatDoorPkDecodeBackA
import Derived.Test.YtllnlmchjljhlaaGreatDoorPkDecodeBackXTy
import Derived.Test.YtllnlmchjljhlaaGreatDoorPkDecodeBackB
namespace Go.Proofs.YtllnlmchjljhlaaGreatDoor
open Go.RowKit
set_option linter.unusedVariables false
set_option linter.unusedSimpArgs false
section
attribute [local go_sem] opx opE ev okx gcond bnd okO AV.get AV.okb cAV upd_at putd_some putd_none wrs_nil wrs_cons look_nil look_cons st argT_at bpick_and bpick_or bpick_true bpick_false binV binI binS binVOk binOk isShift binSOk unV unVOk loadV loadP cellsA zeroA Blkd.len setE grown moreA moreR moreOk eqRes pv fillA fillE putSeg AV.cellish AV.pureL AV.pureB lentL_is ex_some AV.ren AV.renL renL_c Blkd.ren rho wrM renN lentOk rhoE keepM endOk tyA_2 tyA_3 tyA_4 tyA_5 tyA_6 tyA_7 tyA_8 tyA_9 tyA_10 tyA_11 tyA_12 tyA_13 tyA_14 tyA_15 tyA_16 tyA_17 tyA_18 tyA_19 tyA_21 tyA_22 tyA_23 tyA_24 tyA_29 tyA_30 tyA_31 tyA_32 tyA_33 tyA_34 tyA_35 tyA_36 tyA_37 tyA_38 tyA_39 tyA_40 tyA_41 tyA_42 tyA_43 tyA_49 tyA_85 tyA_89 tyA_99 tyA_100 tyA_101 tyA_105 tyA_106 tyA_107 tyA_108 tyA_109 tyA_111 tyA_112 tyA_113 tyA_114 tyA_123 tyA_126 tyA_127 tyA_128 tyA_129 tyA_130 tyA_153 tyA_163 tyA_164 tyA_165 tyA_179 tyA_185 tyA_191 tyA_192 tyA_193 tyA_194 tyA_195 tyA_196 tyA_209 tyA_213 tyA_214 tyA_215 tyA_241 tyA_248 tyA_274 tyA_275 tyA_276 tyA_292 tyA_294 tyA_302 tyA_307 tyA_315 tyA_319 tyA_321 tyA_324 tyA_325 tyA_326 tyA_327 tyA_328 tyA_329 tyA_330 tyA_332 tyA_333 Option.map_some Option.map_none Option.getD_some Option.getD_none Option.bind_some Option.bind_none List.getElem?_cons_zero List.getElem?_cons_succ List.getElem?_nil List.getElem?_toArray List.length_cons List.length_nil List.length_map List.forall_mem_map List.map_cons List.map_nil List.drop_zero List.drop_succ_cons List.drop_nil List.take_zero List.take_succ_cons List.take_nil List.mem_cons List.not_mem_nil or_false forall_eq_or_imp forall_eq List.set_cons_zero List.set_cons_succ List.cons_append List.nil_append List.append_nil List.foldl_cons List.foldl_nil List.replicate_succ List.replicate_zero List.all_cons List.all_nil if_true if_false Bool.false_eq_true ne_eq not_false_eq_true not_true_eq_false true_and and_true and_self true_implies imp_self implies_true forall_const beq_self_eq_true Bool.and_true Bool.true_and Bool.and_false Bool.false_and Bool.or_true Bool.true_or Bool.or_false Bool.false_or Bool.not_true Bool.not_false Bool.not_eq_eq_eq_not intKindOf Value.oneCell' Int.toNat_natCast beq_true beq_false Bool.not_eq_true false_implies false_or true_or or_true Nat.zero_add Nat.add_zero decide_true decide_false Int.cast_ofNat_Int Int.toNat_zero Int.toNat_one eq_self

theorem got_map {α β : Type} {f : Rd α} (hf : Fair f) (g : α → β) {B : List UInt8} {p : Nat} {e : Int} {x : α} {q : Nat} {e' : Int} (h : Got (f B p) B e x q e') : Got (rbind f (fun x => rret (g x)) B p) B e (g x) q e' := by
  by_cases h0 : e = 0
  · subst h0
    have hi := h.is hf
    refine got_of h.le (fun h1 => ?_) fun h1 => ?_
    · rw [rbind_ok (hi.1 h1)]; rfl
    · rw [rbind_bad (hi.2 h1)]
  · exact ⟨h.le, fun _ => h.no h0, fun x h1 => absurd h1 h0, fun w q' h1 => absurd h1 h0⟩
def ValE (ns : List NT) (r : Int) (B : List UInt8) (a : Int) (dep : Nat) (f : Rd VT) (p : Nat) (e : Int) : Prop := ∃ (v : VT) (q : Nat) (e' : Int), Got (f B p) B e v q e' ∧
  ToldM Tryz.prog 71 [.ref 1000000 1 0 0, .c (.v (.int .i64 a)), .c (.v (.int .i64 (dep : Int)))] [dB ns r B p e] [some (dB ns r B q e')] v.av
set_option maxRecDepth 100000 in
set_option maxHeartbeats 1600000 in
theorem dval2_told (ns : List NT) (r : Int) (B : List UInt8) (hB : B.length ≤ 1000000) (a : Nat) (nd : NT) (hnd : ns[a]? = some nd) (hk : nd.kind = 2) (dep : Nat) (p : Nat) (hp : p ≤ B.length) (e : Int) : ValE ns r B (a : Int) dep (rleaf nd) p e := by
  have hnp : (ns.map NT.cells)[a]? = some nd.cells := by rw [List.getElem?_map, hnd]; rfl
  have ha : a < ns.length := (List.getElem?_eq_some_iff.1 hnd).1
  have e2 : (nd.kind == 2) = true := by rw [hk]; rfl
  have hR : rleaf nd = rbind rbool fun x => rret (.mk nd.kind x 0 [] [] []) := by unfold rleaf; rw [if_pos hk]
  have hG := got_map fair_bool (fun x => VT.mk nd.kind x 0 [] [] []) (got_lft fair_bool 0 hp e)
  have hT := dnumber_told ns r B p _ e _ _ (wbool_told B hB p hp e)
  rw [← hR] at hG
  generalize lft rbool 0 B p e = L at hG hT
  refine ⟨_, _, _, hG, ?_⟩
  clear hG hR
  rw [VT.av_eq, vcells_mk]
  unfold dB at *
  refine VC.toldM ent_71 [] Tryz.func71 rfl Tryz.ntmps71 (by simp) (by simp only [ScM, zOk, inL, eq_self, used_is, sc_any, sc_c, sc_pp, sc_ref, sc_row, sc_agg, sc_tup, sc_fn, ScL, some_imp, List.forall_mem_map, Nat.le_refl, go_sem, simprocAttr]) (by simp only [ScM, zOk, inL, eq_self, used_is, sc_any, sc_c, sc_pp, sc_ref, sc_row, sc_agg, sc_tup, sc_fn, ScL, some_imp, List.forall_mem_map, Nat.le_refl, go_sem, simprocAttr]) (by simp only [ScM, zOk, inL, eq_self, used_is, sc_any, sc_c, sc_pp, sc_ref, sc_row, sc_agg, sc_tup, sc_fn, ScL, some_imp, List.forall_mem_map, Nat.le_refl, go_sem, simprocAttr]) (by simp only [ScM, zOk, inL, eq_self, used_is, sc_any, sc_c, sc_pp, sc_ref, sc_row, sc_agg, sc_tup, sc_fn, ScL, some_imp, List.forall_mem_map, Nat.le_refl, go_sem, simprocAttr]) (by simp) fun hb hbL => ?_
  clear hb hbL
  refine walkBF (And.intro hnp (And.intro @ncells_mk (And.intro @len_ncells e2))) ?_
  ((refine AO.step fun K hK => ?_; simp only [go_sem, Int.reduceBEq, Int.reduceLE, Int.reduceLT, Int.reduceNeg, Nat.reduceAdd, Nat.reduceEqDiff, Nat.reduceLT, Nat.reduceLeDiff, Nat.reduceMul, Nat.reduceSub, reduceCtorEq, ↓reduceIte, ncells_mk, List.length_map]; (first | refine gsel_go ?_ | skip)); refine .inr (.inr (.inl ⟨?vy1, [1000000], ?va1, ?vl1, ?vm1, ?cond1, ?cont1⟩)); (case cond1 => ((repeat' apply And.intro) <;> (try ((with_reducible show ToldM _ _ _ _ _ _); exact hT))); (all_goals first | trivial | (simp only [ncells_mk, List.length_map, go_sem, simprocAttr]; done) | (simp; done) | rfl)); (first | refine hK _ _ _ ?_ | (simp only [ncells_mk, List.length_map, go_sem, simprocAttr]; first | refine hK _ _ _ ?_ | refine ⟨rfl, hK _ _ _ ?_⟩)); clear hK K)
  refine walkBF (@ncells_mk) ?_
  refine ⟨by first | exact .inr rfl | exact .inl rfl, ?_⟩; rw [Tryz.results71]; simp only [resOk, resV, go_sem, simprocAttr]
  exact Frz.aggL (.cons (.c _) (.cons (.c _) (.cons (.c _) (.cons (.nil 1) (.cons (.nil 6) (.cons (.nil 1) .nil))))))
set_option maxRecDepth 100000 in
set_option maxHeartbeats 1600000 in
theorem dval3_told (ns : List NT) (r : Int) (B : List UInt8) (hB : B.length ≤ 1000000) (a : Nat) (nd : NT) (hnd : ns[a]? = some nd) (hk : nd.kind = 3) (dep : Nat) (p : Nat) (hp : p ≤ B.length) (e : Int) : ValE ns r B (a : Int) dep (rleaf nd) p e := by
  have hnp : (ns.map NT.cells)[a]? = some nd.cells := by rw [List.getElem?_map, hnd]; rfl
  have ha : a < ns.length := (List.getElem?_eq_some_iff.1 hnd).1
  have e2 : (nd.kind == 2) = false := by rw [hk]; rfl
  have e3 : (nd.kind == 3) = true := by rw [hk]; rfl
  have hR : rleaf nd = rbind rint fun x => rret (.mk nd.kind x 0 [] [] []) := by unfold rleaf; rw [if_neg (by rw [hk]; decide), if_pos hk]
  have hG := got_map fair_int (fun x => VT.mk nd.kind x 0 [] [] []) (got_lft fair_int 0 hp e)
  have hT := dnumber_told ns r B p _ e _ _ (wint_told B hB p hp e)
  rw [← hR] at hG
  generalize lft rint 0 B p e = L at hG hT
  refine ⟨_, _, _, hG, ?_⟩
  clear hG hR
  rw [VT.av_eq, vcells_mk]
  unfold dB at *
  refine VC.toldM ent_71 [] Tryz.func71 rfl Tryz.ntmps71 (by simp) (by simp only [ScM, zOk, inL, eq_self, used_is, sc_any, sc_c, sc_pp, sc_ref, sc_row, sc_agg, sc_tup, sc_fn, ScL, some_imp, List.forall_mem_map, Nat.le_refl, go_sem, simprocAttr]) (by simp only [ScM, zOk, inL, eq_self, used_is, sc_any, sc_c, sc_pp, sc_ref, sc_row, sc_agg, sc_tup, sc_fn, ScL, some_imp, List.forall_mem_map, Nat.le_refl, go_sem, simprocAttr]) (by simp only [ScM, zOk, inL, eq_self, used_is, sc_any, sc_c, sc_pp, sc_ref, sc_row, sc_agg, sc_tup, sc_fn, ScL, some_imp, List.forall_mem_map, Nat.le_refl, go_sem, simprocAttr]) (by simp only [ScM, zOk, inL, eq_self, used_is, sc_any, sc_c, sc_pp, sc_ref, sc_row, sc_agg, sc_tup, sc_fn, ScL, some_imp, List.forall_mem_map, Nat.le_refl, go_sem, simprocAttr]) (by simp) fun hb hbL => ?_
  clear hb hbL
  refine walkBF (And.intro hnp (And.intro @ncells_mk (And.intro @len_ncells (And.intro e2 e3)))) ?_
  ((refine AO.step fun K hK => ?_; simp only [go_sem, Int.reduceBEq, Int.reduceLE, Int.reduceLT, Int.reduceNeg, Nat.reduceAdd, Nat.reduceEqDiff, Nat.reduceLT, Nat.reduceLeDiff, Nat.reduceMul, Nat.reduceSub, reduceCtorEq, ↓reduceIte, ncells_mk, List.length_map]; (first | refine gsel_go ?_ | skip)); refine .inr (.inr (.inl ⟨?vy2, [1000000], ?va2, ?vl2, ?vm2, ?cond2, ?cont2⟩)); (case cond2 => ((repeat' apply And.intro) <;> (try ((with_reducible show ToldM _ _ _ _ _ _); exact hT))); (all_goals first | trivial | (simp only [ncells_mk, List.length_map, go_sem, simprocAttr]; done) | (simp; done) | rfl)); (first | refine hK _ _ _ ?_ | (simp only [ncells_mk, List.length_map, go_sem, simprocAttr]; first | refine hK _ _ _ ?_ | refine ⟨rfl, hK _ _ _ ?_⟩)); clear hK K)
  refine walkBF (@ncells_mk) ?_
  refine ⟨by first | exact .inr rfl | exact .inl rfl, ?_⟩; rw [Tryz.results71]; simp only [resOk, resV, go_sem, simprocAttr]
  exact Frz.aggL (.cons (.c _) (.cons (.c _) (.cons (.c _) (.cons (.nil 1) (.cons (.nil 6) (.cons (.nil 1) .nil))))))
set_option maxRecDepth 100000 in
set_option maxHeartbeats 1600000 in
theorem dval4_told (ns : List NT) (r : Int) (B : List UInt8) (hB : B.length ≤ 1000000) (a : Nat) (nd : NT) (hnd : ns[a]? = some nd) (hk : nd.kind = 4) (dep : Nat) (p : Nat) (hp : p ≤ B.length) (e : Int) : ValE ns r B (a : Int) dep (rleaf nd) p e := by
  have hnp : (ns.map NT.cells)[a]? = some nd.cells := by rw [List.getElem?_map, hnd]; rfl
  have ha : a < ns.length := (List.getElem?_eq_some_iff.1 hnd).1
  have e2 : (nd.kind == 2) = false := by rw [hk]; rfl
  have e3 : (nd.kind == 3) = false := by rw [hk]; rfl
  have e4 : (nd.kind == 4) = true := by rw [hk]; rfl
  have hR : rleaf nd = rbind rlong fun x => rret (.mk nd.kind x 0 [] [] []) := by unfold rleaf; rw [if_neg (by rw [hk]; decide), if_neg (by rw [hk]; decide), if_pos hk]
  have hG := got_map fair_long (fun x => VT.mk nd.kind x 0 [] [] []) (got_lft fair_long 0 hp e)
  have hT := dnumber_told ns r B p _ e _ _ (wlong_told B hB p hp e)
  rw [← hR] at hG
  generalize lft rlong 0 B p e = L at hG hT
  refine ⟨_, _, _, hG, ?_⟩
  clear hG hR
  rw [VT.av_eq, vcells_mk]
  unfold dB at *
  refine VC.toldM ent_71 [] Tryz.func71 rfl Tryz.ntmps71 (by simp) (by simp only [ScM, zOk, inL, eq_self, used_is, sc_any, sc_c, sc_pp, sc_ref, sc_row, sc_agg, sc_tup, sc_fn, ScL, some_imp, List.forall_mem_map, Nat.le_refl, go_sem, simprocAttr]) (by simp only [ScM, zOk, inL, eq_self, used_is, sc_any, sc_c, sc_pp, sc_ref, sc_row, sc_agg, sc_tup, sc_fn, ScL, some_imp, List.forall_mem_map, Nat.le_refl, go_sem, simprocAttr]) (by simp only [ScM, zOk, inL, eq_self, used_is, sc_any, sc_c, sc_pp, sc_ref, sc_row, sc_agg, sc_tup, sc_fn, ScL, some_imp, List.forall_mem_map, Nat.le_refl, go_sem, simprocAttr]) (by simp only [ScM, zOk, inL, eq_self, used_is, sc_any, sc_c, sc_pp, sc_ref, sc_row, sc_agg, sc_tup, sc_fn, ScL, some_imp, List.forall_mem_map, Nat.le_refl, go_sem, simprocAttr]) (by simp) fun hb hbL => ?_
  clear hb hbL
  refine walkBF (And.intro hnp (And.intro @ncells_mk (And.intro @len_ncells (And.intro e2 (And.intro e3 e4))))) ?_
  ((refine AO.step fun K hK => ?_; simp only [go_sem, Int.reduceBEq, Int.reduceLE, Int.reduceLT, Int.reduceNeg, Nat.reduceAdd, Nat.reduceEqDiff, Nat.reduceLT, Nat.reduceLeDiff, Nat.reduceMul, Nat.reduceSub, reduceCtorEq, ↓reduceIte, ncells_mk, List.length_map]; (first | refine gsel_go ?_ | skip)); refine .inr (.inr (.inl ⟨?vy3, [1000000], ?va3, ?vl3, ?vm3, ?cond3, ?cont3⟩)); (case cond3 => ((repeat' apply And.intro) <;> (try ((with_reducible show ToldM _ _ _ _ _ _); exact hT))); (all_goals first | trivial | (simp only [ncells_mk, List.length_map, go_sem, simprocAttr]; done) | (simp; done) | rfl)); (first | refine hK _ _ _ ?_ | (simp only [ncells_mk, List.length_map, go_sem, simprocAttr]; first | refine hK _ _ _ ?_ | refine ⟨rfl, hK _ _ _ ?_⟩)); clear hK K)
  refine walkBF (@ncells_mk) ?_
  refine ⟨by first | exact .inr rfl | exact .inl rfl, ?_⟩; rw [Tryz.results71]; simp only [resOk, resV, go_sem, simprocAttr]
  exact Frz.aggL (.cons (.c _) (.cons (.c _) (.cons (.c _) (.cons (.nil 1) (.cons (.nil 6) (.cons (.nil 1) .nil))))))
set_option maxRecDepth 100000 in
set_option maxHeartbeats 1600000 in
theorem dval5_told (ns : List NT) (r : Int) (B : List UInt8) (hB : B.length ≤ 1000000) (a : Nat) (nd : NT) (hnd : ns[a]? = some nd) (hk : nd.kind = 5) (dep : Nat) (p : Nat) (hp : p ≤ B.length) (e : Int) : ValE ns r B (a : Int) dep (rleaf nd) p e := by
  have hnp : (ns.map NT.cells)[a]? = some nd.cells := by rw [List.getElem?_map, hnd]; rfl
  have ha : a < ns.length := (List.getElem?_eq_some_iff.1 hnd).1
  have e2 : (nd.kind == 2) = false := by rw [hk]; rfl
  have e3 : (nd.kind == 3) = false := by rw [hk]; rfl
  have e4 : (nd.kind == 4) = false := by rw [hk]; rfl
  have e5 : (nd.kind == 5) = true := by rw [hk]; rfl
  have hR : rleaf nd = rbind (rbits 4) fun x => rret (.mk nd.kind 0 x [] [] []) := by unfold rleaf; rw [if_neg (by rw [hk]; decide), if_neg (by rw [hk]; decide), if_neg (by rw [hk]; decide), if_pos hk]
  have hG := got_map (fair_bits 4) (fun x => VT.mk nd.kind 0 x [] [] []) (got_lft (fair_bits 4) 0 hp e)
  have hT := wbits_told B hB p hp e 4 (by decide)
  rw [← hR] at hG
  generalize lft (rbits 4) 0 B p e = L at hG hT
  refine ⟨_, _, _, hG, ?_⟩
  clear hG hR
  rw [VT.av_eq, vcells_mk]
  unfold dB at *
  unfold rC at hT
  rw [show ((4 : Nat) : Int) = 4 from rfl] at hT
  refine VC.toldM ent_71 [] Tryz.func71 rfl Tryz.ntmps71 (by simp) (by simp only [ScM, zOk, inL, eq_self, used_is, sc_any, sc_c, sc_pp, sc_ref, sc_row, sc_agg, sc_tup, sc_fn, ScL, some_imp, List.forall_mem_map, Nat.le_refl, go_sem, simprocAttr]) (by simp only [ScM, zOk, inL, eq_self, used_is, sc_any, sc_c, sc_pp, sc_ref, sc_row, sc_agg, sc_tup, sc_fn, ScL, some_imp, List.forall_mem_map, Nat.le_refl, go_sem, simprocAttr]) (by simp only [ScM, zOk, inL, eq_self, used_is, sc_any, sc_c, sc_pp, sc_ref, sc_row, sc_agg, sc_tup, sc_fn, ScL, some_imp, List.forall_mem_map, Nat.le_refl, go_sem, simprocAttr]) (by simp only [ScM, zOk, inL, eq_self, used_is, sc_any, sc_c, sc_pp, sc_ref, sc_row, sc_agg, sc_tup, sc_fn, ScL, some_imp, List.forall_mem_map, Nat.le_refl, go_sem, simprocAttr]) (by simp) fun hb hbL => ?_
  clear hb hbL
  refine walkBF (And.intro hnp (And.intro @ncells_mk (And.intro @len_ncells (And.intro e2 (And.intro e3 (And.intro e4 e5)))))) ?_
  refine walkC (hT) ?_
  refine walkBF (@ncells_mk) ?_
  refine ⟨by first | exact .inr rfl | exact .inl rfl, ?_⟩; rw [Tryz.results71]; simp only [resOk, resV, go_sem, simprocAttr]
  exact Frz.aggL (.cons (.c _) (.cons (.c _) (.cons (.c _) (.cons (.nil 1) (.cons (.nil 6) (.cons (.nil 1) .nil))))))
set_option maxRecDepth 100000 in
set_option maxHeartbeats 1600000 in
theorem dval6_told (ns : List NT) (r : Int) (B : List UInt8) (hB : B.length ≤ 1000000) (a : Nat) (nd : NT) (hnd : ns[a]? = some nd) (hk : nd.kind = 6) (dep : Nat) (p : Nat) (hp : p ≤ B.length) (e : Int) : ValE ns r B (a : Int) dep (rleaf nd) p e := by
  have hnp : (ns.map NT.cells)[a]? = some nd.cells := by rw [List.getElem?_map, hnd]; rfl
  have ha : a < ns.length := (List.getElem?_eq_some_iff.1 hnd).1
  have e2 : (nd.kind == 2) = false := by rw [hk]; rfl
  have e3 : (nd.kind == 3) = false := by rw [hk]; rfl
  have e4 : (nd.kind == 4) = false := by rw [hk]; rfl
  have e5 : (nd.kind == 5) = false := by rw [hk]; rfl
  have e6 : (nd.kind == 6) = true := by rw [hk]; rfl
  have hR : rleaf nd = rbind (rbits 8) fun x => rret (.mk nd.kind 0 x [] [] []) := by unfold rleaf; rw [if_neg (by rw [hk]; decide), if_neg (by rw [hk]; decide), if_neg (by rw [hk]; decide), if_neg (by rw [hk]; decide), if_pos hk]
  have hG := got_map (fair_bits 8) (fun x => VT.mk nd.kind 0 x [] [] []) (got_lft (fair_bits 8) 0 hp e)
  have hT := wbits_told B hB p hp e 8 (by decide)
  rw [← hR] at hG
  generalize lft (rbits 8) 0 B p e = L at hG hT
  refine ⟨_, _, _, hG, ?_⟩
  clear hG hR
  rw [VT.av_eq, vcells_mk]
  unfold dB at *
  unfold rC at hT
  rw [show ((8 : Nat) : Int) = 8 from rfl] at hT
  refine VC.toldM ent_71 [] Tryz.func71 rfl Tryz.ntmps71 (by simp) (by simp only [ScM, zOk, inL, eq_self, used_is, sc_any, sc_c, sc_pp, sc_ref, sc_row, sc_agg, sc_tup, sc_fn, ScL, some_imp, List.forall_mem_map, Nat.le_refl, go_sem, simprocAttr]) (by simp only [ScM, zOk, inL, eq_self, used_is, sc_any, sc_c, sc_pp, sc_ref, sc_row, sc_agg, sc_tup, sc_fn, ScL, some_imp, List.forall_mem_map, Nat.le_refl, go_sem, simprocAttr]) (by simp only [ScM, zOk, inL, eq_self, used_is, sc_any, sc_c, sc_pp, sc_ref, sc_row, sc_agg, sc_tup, sc_fn, ScL, some_imp, List.forall_mem_map, Nat.le_refl, go_sem, simprocAttr]) (by simp only [ScM, zOk, inL, eq_self, used_is, sc_any, sc_c, sc_pp, sc_ref, sc_row, sc_agg, sc_tup, sc_fn, ScL, some_imp, List.forall_mem_map, Nat.le_refl, go_sem, simprocAttr]) (by simp) fun hb hbL => ?_
  clear hb hbL
  refine walkBF (And.intro hnp (And.intro @ncells_mk (And.intro @len_ncells (And.intro e2 (And.intro e3 (And.intro e4 (And.intro e5 e6))))))) ?_
  refine walkC (hT) ?_
  refine walkBF (@ncells_mk) ?_
  refine ⟨by first | exact .inr rfl | exact .inl rfl, ?_⟩; rw [Tryz.results71]; simp only [resOk, resV, go_sem, simprocAttr]
  exact Frz.aggL (.cons (.c _) (.cons (.c _) (.cons (.c _) (.cons (.nil 1) (.cons (.nil 6) (.cons (.nil 1) .nil))))))
set_option maxRecDepth 100000 in
set_option maxHeartbeats 1600000 in
theorem dval7_told (ns : List NT) (r : Int) (B : List UInt8) (hB : B.length ≤ 1000000) (a : Nat) (nd : NT) (hnd : ns[a]? = some nd) (hk : nd.kind = 7) (dep : Nat) (p : Nat) (hp : p ≤ B.length) (e : Int) : ValE ns r B (a : Int) dep (rleaf nd) p e := by
  have hnp : (ns.map NT.cells)[a]? = some nd.cells := by rw [List.getElem?_map, hnd]; rfl
  have ha : a < ns.length := (List.getElem?_eq_some_iff.1 hnd).1
  have e2 : (nd.kind == 2) = false := by rw [hk]; rfl
  have e3 : (nd.kind == 3) = false := by rw [hk]; rfl
  have e4 : (nd.kind == 4) = false := by rw [hk]; rfl
  have e5 : (nd.kind == 5) = false := by rw [hk]; rfl
  have e6 : (nd.kind == 6) = false := by rw [hk]; rfl
  have e7 : (nd.kind == 7) = true := by rw [hk]; rfl
  have hR : rleaf nd = rbind rbytes fun x => rret (.mk nd.kind 0 0 x [] []) := by unfold rleaf; rw [if_neg (by rw [hk]; decide), if_neg (by rw [hk]; decide), if_neg (by rw [hk]; decide), if_neg (by rw [hk]; decide), if_neg (by rw [hk]; decide), if_pos hk]
  have hG := got_map fair_bytes (fun x => VT.mk nd.kind 0 0 x [] []) (got_lft fair_bytes [] hp e)
  have hT := dtext_told ns r B p _ e _ _ (wbytes_told B hB p hp e)
  rw [← hR] at hG
  generalize lft rbytes [] B p e = L at hG hT
  refine ⟨_, _, _, hG, ?_⟩
  clear hG hR
  rw [VT.av_eq, vcells_mk]
  unfold dB at *
  refine VC.toldM ent_71 [] Tryz.func71 rfl Tryz.ntmps71 (by simp) (by simp only [ScM, zOk, inL, eq_self, used_is, sc_any, sc_c, sc_pp, sc_ref, sc_row, sc_agg, sc_tup, sc_fn, ScL, some_imp, List.forall_mem_map, Nat.le_refl, go_sem, simprocAttr]) (by simp only [ScM, zOk, inL, eq_self, used_is, sc_any, sc_c, sc_pp, sc_ref, sc_row, sc_agg, sc_tup, sc_fn, ScL, some_imp, List.forall_mem_map, Nat.le_refl, go_sem, simprocAttr]) (by simp only [ScM, zOk, inL, eq_self, used_is, sc_any, sc_c, sc_pp, sc_ref, sc_row, sc_agg, sc_tup, sc_fn, ScL, some_imp, List.forall_mem_map, Nat.le_refl, go_sem, simprocAttr]) (by simp only [ScM, zOk, inL, eq_self, used_is, sc_any, sc_c, sc_pp, sc_ref, sc_row, sc_agg, sc_tup, sc_fn, ScL, some_imp, List.forall_mem_map, Nat.le_refl, go_sem, simprocAttr]) (by simp) fun hb hbL => ?_
  clear hb hbL
  refine walkBF (And.intro hnp (And.intro @ncells_mk (And.intro @len_ncells (And.intro e2 (And.intro e3 (And.intro e4 (And.intro e5 (And.intro e6 e7)))))))) ?_
  ((refine AO.step fun K hK => ?_; simp only [go_sem, Int.reduceBEq, Int.reduceLE, Int.reduceLT, Int.reduceNeg, Nat.reduceAdd, Nat.reduceEqDiff, Nat.reduceLT, Nat.reduceLeDiff, Nat.reduceMul, Nat.reduceSub, reduceCtorEq, ↓reduceIte, ncells_mk, List.length_map]; (first | refine gsel_go ?_ | skip)); refine .inr (.inr (.inl ⟨?vy4, [1000000], ?va4, ?vl4, ?vm4, ?cond4, ?cont4⟩)); (case cond4 => ((repeat' apply And.intro) <;> (try ((with_reducible show ToldM _ _ _ _ _ _); exact hT))); (all_goals first | trivial | (simp only [ncells_mk, List.length_map, go_sem, simprocAttr]; done) | (simp; done) | rfl)); (first | refine hK _ _ _ ?_ | (simp only [ncells_mk, List.length_map, go_sem, simprocAttr]; first | refine hK _ _ _ ?_ | refine ⟨rfl, hK _ _ _ ?_⟩)); clear hK K)
  refine walkBF (@ncells_mk) ?_
  refine ⟨by first | exact .inr rfl | exact .inl rfl, ?_⟩; rw [Tryz.results71]; simp only [resOk, resV, go_sem, simprocAttr]
  exact Frz.aggL (.cons (.c _) (.cons (.c _) (.cons (.c _) (.cons (.c _) (.cons (.nil 6) (.cons (.nil 1) .nil))))))
set_option maxRecDepth 100000 in
set_option maxHeartbeats 1600000 in
theorem dval8_told (ns : List NT) (r : Int) (B : List UInt8) (hB : B.length ≤ 1000000) (a : Nat) (nd : NT) (hnd : ns[a]? = some nd) (hk : nd.kind = 8) (dep : Nat) (p : Nat) (hp : p ≤ B.length) (e : Int) : ValE ns r B (a : Int) dep (rleaf nd) p e := by
  have hnp : (ns.map NT.cells)[a]? = some nd.cells := by rw [List.getElem?_map, hnd]; rfl
  have ha : a < ns.length := (List.getElem?_eq_some_iff.1 hnd).1
  have e2 : (nd.kind == 2) = false := by rw [hk]; rfl
  have e3 : (nd.kind == 3) = false := by rw [hk]; rfl
  have e4 : (nd.kind == 4) = false := by rw [hk]; rfl
  have e5 : (nd.kind == 5) = false := by rw [hk]; rfl
  have e6 : (nd.kind == 6) = false := by rw [hk]; rfl
  have e7 : (nd.kind == 7) = false := by rw [hk]; rfl
  have e8 : (nd.kind == 8) = true := by rw [hk]; rfl
  have hR : rleaf nd = rbind rtext fun x => rret (.mk nd.kind 0 0 x [] []) := by unfold rleaf; rw [if_neg (by rw [hk]; decide), if_neg (by rw [hk]; decide), if_neg (by rw [hk]; decide), if_neg (by rw [hk]; decide), if_neg (by rw [hk]; decide), if_neg (by rw [hk]; decide), if_pos hk]
  have hG := got_map fair_text (fun x => VT.mk nd.kind 0 0 x [] []) (got_lft fair_text [] hp e)
  have hT := dtext_told ns r B p _ e _ _ (wtext_told B hB p hp e)
  rw [← hR] at hG
  generalize lft rtext [] B p e = L at hG hT
  refine ⟨_, _, _, hG, ?_⟩
  clear hG hR
  rw [VT.av_eq, vcells_mk]
  unfold dB at *
  refine VC.toldM ent_71 [] Tryz.func71 rfl Tryz.ntmps71 (by simp) (by simp only [ScM, zOk, inL, eq_self, used_is, sc_any, sc_c, sc_pp, sc_ref, sc_row, sc_agg, sc_tup, sc_fn, ScL, some_imp, List.forall_mem_map, Nat.le_refl, go_sem, simprocAttr]) (by simp only [ScM, zOk, inL, eq_self, used_is, sc_any, sc_c, sc_pp, sc_ref, sc_row, sc_agg, sc_tup, sc_fn, ScL, some_imp, List.forall_mem_map, Nat.le_refl, go_sem, simprocAttr]) (by simp only [ScM, zOk, inL, eq_self, used_is, sc_any, sc_c, sc_pp, sc_ref, sc_row, sc_agg, sc_tup, sc_fn, ScL, some_imp, List.forall_mem_map, Nat.le_refl, go_sem, simprocAttr]) (by simp only [ScM, zOk, inL, eq_self, used_is, sc_any, sc_c, sc_pp, sc_ref, sc_row, sc_agg, sc_tup, sc_fn, ScL, some_imp, List.forall_mem_map, Nat.le_refl, go_sem, simprocAttr]) (by simp) fun hb hbL => ?_
  clear hb hbL
  refine walkBF (And.intro hnp (And.intro @ncells_mk (And.intro @len_ncells (And.intro e2 (And.intro e3 (And.intro e4 (And.intro e5 (And.intro e6 (And.intro e7 e8))))))))) ?_
  ((refine AO.step fun K hK => ?_; simp only [go_sem, Int.reduceBEq, Int.reduceLE, Int.reduceLT, Int.reduceNeg, Nat.reduceAdd, Nat.reduceEqDiff, Nat.reduceLT, Nat.reduceLeDiff, Nat.reduceMul, Nat.reduceSub, reduceCtorEq, ↓reduceIte, ncells_mk, List.length_map]; (first | refine gsel_go ?_ | skip)); refine .inr (.inr (.inl ⟨?vy5, [1000000], ?va5, ?vl5, ?vm5, ?cond5, ?cont5⟩)); (case cond5 => ((repeat' apply And.intro) <;> (try ((with_reducible show ToldM _ _ _ _ _ _); exact hT))); (all_goals first | trivial | (simp only [ncells_mk, List.length_map, go_sem, simprocAttr]; done) | (simp; done) | rfl)); (first | refine hK _ _ _ ?_ | (simp only [ncells_mk, List.length_map, go_sem, simprocAttr]; first | refine hK _ _ _ ?_ | refine ⟨rfl, hK _ _ _ ?_⟩)); clear hK K)
  refine walkBF (@ncells_mk) ?_
  refine ⟨by first | exact .inr rfl | exact .inl rfl, ?_⟩; rw [Tryz.results71]; simp only [resOk, resV, go_sem, simprocAttr]
  exact Frz.aggL (.cons (.c _) (.cons (.c _) (.cons (.c _) (.cons (.c _) (.cons (.nil 6) (.cons (.nil 1) .nil))))))
set_option maxRecDepth 100000 in
set_option maxHeartbeats 1600000 in
theorem dval14_told (ns : List NT) (r : Int) (B : List UInt8) (hB : B.length ≤ 1000000) (a : Nat) (nd : NT) (hnd : ns[a]? = some nd) (hk : nd.kind = 14) (hsz : 0 ≤ nd.size ∧ nd.size ≤ 1000000) (dep : Nat) (p : Nat) (hp : p ≤ B.length) (e : Int) : ValE ns r B (a : Int) dep (rleaf nd) p e := by
  have hnp : (ns.map NT.cells)[a]? = some nd.cells := by rw [List.getElem?_map, hnd]; rfl
  have ha : a < ns.length := (List.getElem?_eq_some_iff.1 hnd).1
  have e2 : (nd.kind == 2) = false := by rw [hk]; rfl
  have e3 : (nd.kind == 3) = false := by rw [hk]; rfl
  have e4 : (nd.kind == 4) = false := by rw [hk]; rfl
  have e5 : (nd.kind == 5) = false := by rw [hk]; rfl
  have e6 : (nd.kind == 6) = false := by rw [hk]; rfl
  have e7 : (nd.kind == 7) = false := by rw [hk]; rfl
  have e8 : (nd.kind == 8) = false := by rw [hk]; rfl
  have e14 : (nd.kind == 14) = true := by rw [hk]; rfl
  have hR : rleaf nd = rbind (rnext nd.size.toNat) fun x => rret (.mk nd.kind 0 0 x [] []) := by unfold rleaf; rw [if_neg (by rw [hk]; decide), if_neg (by rw [hk]; decide), if_neg (by rw [hk]; decide), if_neg (by rw [hk]; decide), if_neg (by rw [hk]; decide), if_neg (by rw [hk]; decide), if_neg (by rw [hk]; decide), if_pos hk]
  have hG := got_map (fair_next nd.size.toNat) (fun x => VT.mk nd.kind 0 0 x [] []) (got_lft (fair_next nd.size.toNat) [] hp e)
  have hT := wfixed_told B hB p hp e nd.size (by omega) (by omega)
  rw [← hR] at hG
  generalize lft (rnext nd.size.toNat) [] B p e = L at hG hT
  refine ⟨_, _, _, hG, ?_⟩
  clear hG hR
  rw [VT.av_eq, vcells_mk]
  unfold dB at *
  unfold rC at hT
  refine VC.toldM ent_71 [] Tryz.func71 rfl Tryz.ntmps71 (by simp) (by simp only [ScM, zOk, inL, eq_self, used_is, sc_any, sc_c, sc_pp, sc_ref, sc_row, sc_agg, sc_tup, sc_fn, ScL, some_imp, List.forall_mem_map, Nat.le_refl, go_sem, simprocAttr]) (by simp only [ScM, zOk, inL, eq_self, used_is, sc_any, sc_c, sc_pp, sc_ref, sc_row, sc_agg, sc_tup, sc_fn, ScL, some_imp, List.forall_mem_map, Nat.le_refl, go_sem, simprocAttr]) (by simp only [ScM, zOk, inL, eq_self, used_is, sc_any, sc_c, sc_pp, sc_ref, sc_row, sc_agg, sc_tup, sc_fn, ScL, some_imp, List.forall_mem_map, Nat.le_refl, go_sem, simprocAttr]) (by simp only [ScM, zOk, inL, eq_self, used_is, sc_any, sc_c, sc_pp, sc_ref, sc_row, sc_agg, sc_tup, sc_fn, ScL, some_imp, List.forall_mem_map, Nat.le_refl, go_sem, simprocAttr]) (by simp) fun hb hbL => ?_
  clear hb hbL
  refine walkBF (And.intro hnp (And.intro @ncells_mk (And.intro @len_ncells (And.intro e2 (And.intro e3 (And.intro e4 (And.intro e5 (And.intro e6 (And.intro e7 (And.intro e8 e14)))))))))) ?_
  refine walkC (hT) ?_
  refine walkBF (@ncells_mk) ?_
  refine ⟨by first | exact .inr rfl | exact .inl rfl, ?_⟩; rw [Tryz.results71]; simp only [resOk, resV, go_sem, simprocAttr]
  exact Frz.aggL (.cons (.c _) (.cons (.c _) (.cons (.c _) (.cons (.c _) (.cons (.nil 6) (.cons (.nil 1) .nil))))))
set_option maxRecDepth 100000 in
set_option maxHeartbeats 1600000 in
theorem dval10_told (ns : List NT) (r : Int) (B : List UInt8) (hB : B.length ≤ 1000000) (a : Nat) (nd : NT) (hnd : ns[a]? = some nd) (hk : nd.kind = 10) (dep : Nat) (p : Nat) (hp : p ≤ B.length) (e : Int) : ValE ns r B (a : Int) dep (rleaf nd) p e := by
  have hnp : (ns.map NT.cells)[a]? = some nd.cells := by rw [List.getElem?_map, hnd]; rfl
  have ha : a < ns.length := (List.getElem?_eq_some_iff.1 hnd).1
  have e2 : (nd.kind == 2) = false := by rw [hk]; rfl
  have e3 : (nd.kind == 3) = false := by rw [hk]; rfl
  have e4 : (nd.kind == 4) = false := by rw [hk]; rfl
  have e5 : (nd.kind == 5) = false := by rw [hk]; rfl
  have e6 : (nd.kind == 6) = false := by rw [hk]; rfl
  have e7 : (nd.kind == 7) = false := by rw [hk]; rfl
  have e8 : (nd.kind == 8) = false := by rw [hk]; rfl
  have e14 : (nd.kind == 14) = false := by rw [hk]; rfl
  have e10 : (nd.kind == 10) = true := by rw [hk]; rfl
  have hR : rleaf nd = rbind (rplace rint nd.symbols.length) fun x => rret (.mk nd.kind x 0 [] [] []) := by unfold rleaf; rw [if_neg (by rw [hk]; decide), if_neg (by rw [hk]; decide), if_neg (by rw [hk]; decide), if_neg (by rw [hk]; decide), if_neg (by rw [hk]; decide), if_neg (by rw [hk]; decide), if_neg (by rw [hk]; decide), if_neg (by rw [hk]; decide), if_pos hk]
  have hG := got_map (fair_place fair_int _) (fun x => VT.mk nd.kind x 0 [] [] []) (plcS_got fair_int nd.symbols.length hp e)
  have hT := dplace_told rint ns r B p e nd.symbols.length (wint_told B hB p hp e)
  rw [← hR] at hG
  generalize plcS rint B nd.symbols.length p e = L at hG hT
  refine ⟨_, _, _, hG, ?_⟩
  clear hG hR
  rw [VT.av_eq, vcells_mk]
  unfold dB at *
  refine VC.toldM ent_71 [] Tryz.func71 rfl Tryz.ntmps71 (by simp) (by simp only [ScM, zOk, inL, eq_self, used_is, sc_any, sc_c, sc_pp, sc_ref, sc_row, sc_agg, sc_tup, sc_fn, ScL, some_imp, List.forall_mem_map, Nat.le_refl, go_sem, simprocAttr]) (by simp only [ScM, zOk, inL, eq_self, used_is, sc_any, sc_c, sc_pp, sc_ref, sc_row, sc_agg, sc_tup, sc_fn, ScL, some_imp, List.forall_mem_map, Nat.le_refl, go_sem, simprocAttr]) (by simp only [ScM, zOk, inL, eq_self, used_is, sc_any, sc_c, sc_pp, sc_ref, sc_row, sc_agg, sc_tup, sc_fn, ScL, some_imp, List.forall_mem_map, Nat.le_refl, go_sem, simprocAttr]) (by simp only [ScM, zOk, inL, eq_self, used_is, sc_any, sc_c, sc_pp, sc_ref, sc_row, sc_agg, sc_tup, sc_fn, ScL, some_imp, List.forall_mem_map, Nat.le_refl, go_sem, simprocAttr]) (by simp) fun hb hbL => ?_
  clear hb hbL
  refine walkBF (And.intro hnp (And.intro @ncells_mk (And.intro @len_ncells (And.intro e2 (And.intro e3 (And.intro e4 (And.intro e5 (And.intro e6 (And.intro e7 (And.intro e8 (And.intro e14 e10))))))))))) ?_
  ((refine AO.step fun K hK => ?_; simp only [go_sem, Int.reduceBEq, Int.reduceLE, Int.reduceLT, Int.reduceNeg, Nat.reduceAdd, Nat.reduceEqDiff, Nat.reduceLT, Nat.reduceLeDiff, Nat.reduceMul, Nat.reduceSub, reduceCtorEq, ↓reduceIte, ncells_mk, List.length_map]; (first | refine gsel_go ?_ | skip)); refine .inr (.inr (.inl ⟨?vy6, [1000000], ?va6, ?vl6, ?vm6, ?cond6, ?cont6⟩)); (case cond6 => ((repeat' apply And.intro) <;> (try ((with_reducible show ToldM _ _ _ _ _ _); exact hT))); (all_goals first | trivial | (simp only [ncells_mk, List.length_map, go_sem, simprocAttr]; done) | (simp; done) | rfl)); (first | refine hK _ _ _ ?_ | (simp only [ncells_mk, List.length_map, go_sem, simprocAttr]; first | refine hK _ _ _ ?_ | refine ⟨rfl, hK _ _ _ ?_⟩)); clear hK K)
  refine walkBF (@ncells_mk) ?_
  refine ⟨by first | exact .inr rfl | exact .inl rfl, ?_⟩; rw [Tryz.results71]; simp only [resOk, resV, go_sem, simprocAttr]
  exact Frz.aggL (.cons (.c _) (.cons (.c _) (.cons (.c _) (.cons (.nil 1) (.cons (.nil 6) (.cons (.nil 1) .nil))))))
set_option maxRecDepth 100000 in
set_option maxHeartbeats 1600000 in
theorem dval1_told (ns : List NT) (r : Int) (B : List UInt8) (a : Nat) (nd : NT) (hnd : ns[a]? = some nd) (hk : nd.kind = 1) (dep : Nat) (p : Nat) (hp : p ≤ B.length) (e : Int) : ValE ns r B (a : Int) dep (rleaf nd) p e := by
  have hnp : (ns.map NT.cells)[a]? = some nd.cells := by rw [List.getElem?_map, hnd]; rfl
  have ha : a < ns.length := (List.getElem?_eq_some_iff.1 hnd).1
  have e2 : (nd.kind == 2) = false := by rw [hk]; rfl
  have e3 : (nd.kind == 3) = false := by rw [hk]; rfl
  have e4 : (nd.kind == 4) = false := by rw [hk]; rfl
  have e5 : (nd.kind == 5) = false := by rw [hk]; rfl
  have e6 : (nd.kind == 6) = false := by rw [hk]; rfl
  have e7 : (nd.kind == 7) = false := by rw [hk]; rfl
  have e8 : (nd.kind == 8) = false := by rw [hk]; rfl
  have e14 : (nd.kind == 14) = false := by rw [hk]; rfl
  have e10 : (nd.kind == 10) = false := by rw [hk]; rfl
  have e9 : (nd.kind == 9) = false := by rw [hk]; rfl
  have e11 : (nd.kind == 11) = false := by rw [hk]; rfl
  have e12 : (nd.kind == 12) = false := by rw [hk]; rfl
  have e13 : (nd.kind == 13) = false := by rw [hk]; rfl
  have hR : rleaf nd = rret (.mk nd.kind 0 0 [] [] []) := by unfold rleaf; rw [if_neg (by rw [hk]; decide), if_neg (by rw [hk]; decide), if_neg (by rw [hk]; decide), if_neg (by rw [hk]; decide), if_neg (by rw [hk]; decide), if_neg (by rw [hk]; decide), if_neg (by rw [hk]; decide), if_neg (by rw [hk]; decide), if_neg (by rw [hk]; decide)]
  have hG : Got (rleaf nd B p) B e (VT.mk nd.kind 0 0 [] [] []) p e := by
    rw [hR]
    refine ⟨hp, fun _ => rfl, fun x _ hx => ?_, fun w q' h0 hx => ?_⟩
    · unfold rret at hx; simp at hx
    · unfold rret at hx
      injection hx with hx
      injection hx with hx hx'
      exact ⟨hx, hx', h0⟩
  refine ⟨_, _, _, hG, ?_⟩
  clear hG hR
  rw [VT.av_eq, vcells_mk]
  unfold dB at *
  refine VC.toldM ent_71 [] Tryz.func71 rfl Tryz.ntmps71 (by simp) (by simp only [ScM, zOk, inL, eq_self, used_is, sc_any, sc_c, sc_pp, sc_ref, sc_row, sc_agg, sc_tup, sc_fn, ScL, some_imp, List.forall_mem_map, Nat.le_refl, go_sem, simprocAttr]) (by simp only [ScM, zOk, inL, eq_self, used_is, sc_any, sc_c, sc_pp, sc_ref, sc_row, sc_agg, sc_tup, sc_fn, ScL, some_imp, List.forall_mem_map, Nat.le_refl, go_sem, simprocAttr]) (by simp only [ScM, zOk, inL, eq_self, used_is, sc_any, sc_c, sc_pp, sc_ref, sc_row, sc_agg, sc_tup, sc_fn, ScL, some_imp, List.forall_mem_map, Nat.le_refl, go_sem, simprocAttr]) (by simp only [ScM, zOk, inL, eq_self, used_is, sc_any, sc_c, sc_pp, sc_ref, sc_row, sc_agg, sc_tup, sc_fn, ScL, some_imp, List.forall_mem_map, Nat.le_refl, go_sem, simprocAttr]) (by simp) fun hb hbL => ?_
  clear hb hbL
  refine walkBF (And.intro hnp (And.intro @ncells_mk (And.intro @len_ncells (And.intro e2 (And.intro e3 (And.intro e4 (And.intro e5 (And.intro e6 (And.intro e7 (And.intro e8 (And.intro e14 (And.intro e10 (And.intro e9 (And.intro e11 (And.intro e12 e13))))))))))))))) ?_
  refine ⟨by first | exact .inr rfl | exact .inl rfl, ?_⟩; rw [Tryz.results71]; simp only [resOk, resV, go_sem, simprocAttr]
  exact Frz.aggL (.cons (.c _) (.cons (.c _) (.cons (.c _) (.cons (.nil 1) (.cons (.nil 6) (.cons (.nil 1) .nil))))))
set_option maxRecDepth 100000 in
set_option maxHeartbeats 1600000 in
theorem dvalc0_told (ns : List NT) (r : Int) (B : List UInt8) (a : Nat) (nd : NT) (hnd : ns[a]? = some nd) (hk : nd.kind = 9 ∨ nd.kind = 11 ∨ nd.kind = 12 ∨ nd.kind = 13) (p : Nat) (hp : p ≤ B.length) (e : Int) : ValE ns r B (a : Int) 20 (rbad 15) p e := by
  have hnp : (ns.map NT.cells)[a]? = some nd.cells := by rw [List.getElem?_map, hnd]; rfl
  have ha : a < ns.length := (List.getElem?_eq_some_iff.1 hnd).1
  have e2 : (nd.kind == 2) = false := by rcases hk with h | h | h | h <;> rw [h] <;> rfl
  have e3 : (nd.kind == 3) = false := by rcases hk with h | h | h | h <;> rw [h] <;> rfl
  have e4 : (nd.kind == 4) = false := by rcases hk with h | h | h | h <;> rw [h] <;> rfl
  have e5 : (nd.kind == 5) = false := by rcases hk with h | h | h | h <;> rw [h] <;> rfl
  have e6 : (nd.kind == 6) = false := by rcases hk with h | h | h | h <;> rw [h] <;> rfl
  have e7 : (nd.kind == 7) = false := by rcases hk with h | h | h | h <;> rw [h] <;> rfl
  have e8 : (nd.kind == 8) = false := by rcases hk with h | h | h | h <;> rw [h] <;> rfl
  have e14 : (nd.kind == 14) = false := by rcases hk with h | h | h | h <;> rw [h] <;> rfl
  have e10 : (nd.kind == 10) = false := by rcases hk with h | h | h | h <;> rw [h] <;> rfl
  have hT := dfail_told ns r B p e 15
  have hG : Got ((rbad 15 : Rd VT) B p) B e (VT.mk nd.kind 0 0 [] [] []) p (if e = 0 then 15 else e) := by
    refine ⟨hp, fun h => if_neg h, fun x h hx => ?_, fun w q' h0 hx => ?_⟩
    · unfold rbad at hx
      injection hx with hx
      rw [if_pos h, hx]
    · unfold rbad at hx; simp at hx
  generalize (if e = 0 then (15 : Int) else e) = E at hT hG
  refine ⟨_, _, _, hG, ?_⟩
  clear hG
  have e20 : ((20 : Int) == 20) = true := rfl
  rw [VT.av_eq, vcells_mk]
  unfold dB at *
  have hcase : ∀ (b9 b11 b12 b13 : Bool), (nd.kind == 9) = b9 → (nd.kind == 11) = b11 → (nd.kind == 12) = b12 → (nd.kind == 13) = b13 → (b9 = true ∨ (b9 = false ∧ b11 = true) ∨ (b9 = false ∧ b11 = false ∧ b12 = true) ∨ (b9 = false ∧ b11 = false ∧ b12 = false ∧ b13 = true)) → ToldM Tryz.prog 71 [.ref 1000000 1 0 0, .c (.v (.int .i64 (a : Int))), .c (.v (.int .i64 ((20 : Nat) : Int)))] [⟨false, 109, 5, [[.c (.sl 10 (ns.map NT.cells)), .c (.v (.int .i64 r)), .c (.sl 1 (bytePV B)), .c (.v (.int .i64 (p : Int))), .c (.v (.int .i64 e))]]⟩] [some ⟨false, 109, 5, [[.c (.sl 10 (ns.map NT.cells)), .c (.v (.int .i64 r)), .c (.sl 1 (bytePV B)), .c (.v (.int .i64 (p : Int))), .c (.v (.int .i64 E))]]⟩]
      (.agg ([PV.v (.int .i64 nd.kind), .v (.int .i64 0), .v (.int .u64 0), .sl 1 (bytePV []), .sl 6 (([] : List VT).map VT.cells), .sl 1 (([] : List (List UInt8)).map sPV)].map .c)) := by
    intro b9 b11 b12 b13 g9 g11 g12 g13 hb
    rw [show ((20 : Nat) : Int) = 20 from rfl]
    rcases hb with rfl | ⟨rfl, rfl⟩ | ⟨rfl, rfl, rfl⟩ | ⟨rfl, rfl, rfl, rfl⟩
    · refine VC.toldM ent_71 [] Tryz.func71 rfl Tryz.ntmps71 (by simp) (by simp only [ScM, zOk, inL, eq_self, used_is, sc_any, sc_c, sc_pp, sc_ref, sc_row, sc_agg, sc_tup, sc_fn, ScL, some_imp, List.forall_mem_map, Nat.le_refl, go_sem, simprocAttr]) (by simp only [ScM, zOk, inL, eq_self, used_is, sc_any, sc_c, sc_pp, sc_ref, sc_row, sc_agg, sc_tup, sc_fn, ScL, some_imp, List.forall_mem_map, Nat.le_refl, go_sem, simprocAttr]) (by simp only [ScM, zOk, inL, eq_self, used_is, sc_any, sc_c, sc_pp, sc_ref, sc_row, sc_agg, sc_tup, sc_fn, ScL, some_imp, List.forall_mem_map, Nat.le_refl, go_sem, simprocAttr]) (by simp only [ScM, zOk, inL, eq_self, used_is, sc_any, sc_c, sc_pp, sc_ref, sc_row, sc_agg, sc_tup, sc_fn, ScL, some_imp, List.forall_mem_map, Nat.le_refl, go_sem, simprocAttr]) (by simp) fun hb hbL => ?_
      clear hb hbL
      refine walkBF (And.intro hnp (And.intro @ncells_mk (And.intro @len_ncells (And.intro e2 (And.intro e3 (And.intro e4 (And.intro e5 (And.intro e6 (And.intro e7 (And.intro e8 (And.intro e14 (And.intro e10 (And.intro g9 e20))))))))))))) ?_
      ((refine AO.step fun K hK => ?_; simp only [go_sem, Int.reduceBEq, Int.reduceLE, Int.reduceLT, Int.reduceNeg, Nat.reduceAdd, Nat.reduceEqDiff, Nat.reduceLT, Nat.reduceLeDiff, Nat.reduceMul, Nat.reduceSub, reduceCtorEq, ↓reduceIte, ncells_mk, List.length_map]; (first | refine gsel_go ?_ | skip)); refine .inr (.inr (.inl ⟨?vy7, [1000000], ?va7, ?vl7, ?vm7, ?cond7, ?cont7⟩)); (case cond7 => ((repeat' apply And.intro) <;> (try ((with_reducible show ToldM _ _ _ _ _ _); exact hT))); (all_goals first | trivial | (simp only [ncells_mk, List.length_map, go_sem, simprocAttr]; done) | (simp; done) | rfl)); (first | refine hK _ _ _ ?_ | (simp only [ncells_mk, List.length_map, go_sem, simprocAttr]; first | refine hK _ _ _ ?_ | refine ⟨rfl, hK _ _ _ ?_⟩)); clear hK K)
      refine walkBF (@ncells_mk) ?_
      refine ⟨by first | exact .inr rfl | exact .inl rfl, ?_⟩; rw [Tryz.results71]; simp only [resOk, resV, go_sem, simprocAttr]
      exact Frz.aggL (.cons (.c _) (.cons (.c _) (.cons (.c _) (.cons (.nil 1) (.cons (.nil 6) (.cons (.nil 1) .nil))))))
    · refine VC.toldM ent_71 [] Tryz.func71 rfl Tryz.ntmps71 (by simp) (by simp only [ScM, zOk, inL, eq_self, used_is, sc_any, sc_c, sc_pp, sc_ref, sc_row, sc_agg, sc_tup, sc_fn, ScL, some_imp, List.forall_mem_map, Nat.le_refl, go_sem, simprocAttr]) (by simp only [ScM, zOk, inL, eq_self, used_is, sc_any, sc_c, sc_pp, sc_ref, sc_row, sc_agg, sc_tup, sc_fn, ScL, some_imp, List.forall_mem_map, Nat.le_refl, go_sem, simprocAttr]) (by simp only [ScM, zOk, inL, eq_self, used_is, sc_any, sc_c, sc_pp, sc_ref, sc_row, sc_agg, sc_tup, sc_fn, ScL, some_imp, List.forall_mem_map, Nat.le_refl, go_sem, simprocAttr]) (by simp only [ScM, zOk, inL, eq_self, used_is, sc_any, sc_c, sc_pp, sc_ref, sc_row, sc_agg, sc_tup, sc_fn, ScL, some_imp, List.forall_mem_map, Nat.le_refl, go_sem, simprocAttr]) (by simp) fun hb hbL => ?_
      clear hb hbL
      refine walkBF (And.intro hnp (And.intro @ncells_mk (And.intro @len_ncells (And.intro e2 (And.intro e3 (And.intro e4 (And.intro e5 (And.intro e6 (And.intro e7 (And.intro e8 (And.intro e14 (And.intro e10 (And.intro g9 (And.intro g11 e20)))))))))))))) ?_
      ((refine AO.step fun K hK => ?_; simp only [go_sem, Int.reduceBEq, Int.reduceLE, Int.reduceLT, Int.reduceNeg, Nat.reduceAdd, Nat.reduceEqDiff, Nat.reduceLT, Nat.reduceLeDiff, Nat.reduceMul, Nat.reduceSub, reduceCtorEq, ↓reduceIte, ncells_mk, List.length_map]; (first | refine gsel_go ?_ | skip)); refine .inr (.inr (.inl ⟨?vy8, [1000000], ?va8, ?vl8, ?vm8, ?cond8, ?cont8⟩)); (case cond8 => ((repeat' apply And.intro) <;> (try ((with_reducible show ToldM _ _ _ _ _ _); exact hT))); (all_goals first | trivial | (simp only [ncells_mk, List.length_map, go_sem, simprocAttr]; done) | (simp; done) | rfl)); (first | refine hK _ _ _ ?_ | (simp only [ncells_mk, List.length_map, go_sem, simprocAttr]; first | refine hK _ _ _ ?_ | refine ⟨rfl, hK _ _ _ ?_⟩)); clear hK K)
      refine walkBF (@ncells_mk) ?_
      refine ⟨by first | exact .inr rfl | exact .inl rfl, ?_⟩; rw [Tryz.results71]; simp only [resOk, resV, go_sem, simprocAttr]
      exact Frz.aggL (.cons (.c _) (.cons (.c _) (.cons (.c _) (.cons (.nil 1) (.cons (.nil 6) (.cons (.nil 1) .nil))))))
    · refine VC.toldM ent_71 [] Tryz.func71 rfl Tryz.ntmps71 (by simp) (by simp only [ScM, zOk, inL, eq_self, used_is, sc_any, sc_c, sc_pp, sc_ref, sc_row, sc_agg, sc_tup, sc_fn, ScL, some_imp, List.forall_mem_map, Nat.le_refl, go_sem, simprocAttr]) (by simp only [ScM, zOk, inL, eq_self, used_is, sc_any, sc_c, sc_pp, sc_ref, sc_row, sc_agg, sc_tup, sc_fn, ScL, some_imp, List.forall_mem_map, Nat.le_refl, go_sem, simprocAttr]) (by simp only [ScM, zOk, inL, eq_self, used_is, sc_any, sc_c, sc_pp, sc_ref, sc_row, sc_agg, sc_tup, sc_fn, ScL, some_imp, List.forall_mem_map, Nat.le_refl, go_sem, simprocAttr]) (by simp only [ScM, zOk, inL, eq_self, used_is, sc_any, sc_c, sc_pp, sc_ref, sc_row, sc_agg, sc_tup, sc_fn, ScL, some_imp, List.forall_mem_map, Nat.le_refl, go_sem, simprocAttr]) (by simp) fun hb hbL => ?_
      clear hb hbL
      refine walkBF (And.intro hnp (And.intro @ncells_mk (And.intro @len_ncells (And.intro e2 (And.intro e3 (And.intro e4 (And.intro e5 (And.intro e6 (And.intro e7 (And.intro e8 (And.intro e14 (And.intro e10 (And.intro g9 (And.intro g11 (And.intro g12 e20))))))))))))))) ?_
      ((refine AO.step fun K hK => ?_; simp only [go_sem, Int.reduceBEq, Int.reduceLE, Int.reduceLT, Int.reduceNeg, Nat.reduceAdd, Nat.reduceEqDiff, Nat.reduceLT, Nat.reduceLeDiff, Nat.reduceMul, Nat.reduceSub, reduceCtorEq, ↓reduceIte, ncells_mk, List.length_map]; (first | refine gsel_go ?_ | skip)); refine .inr (.inr (.inl ⟨?vy9, [1000000], ?va9, ?vl9, ?vm9, ?cond9, ?cont9⟩)); (case cond9 => ((repeat' apply And.intro) <;> (try ((with_reducible show ToldM _ _ _ _ _ _); exact hT))); (all_goals first | trivial | (simp only [ncells_mk, List.length_map, go_sem, simprocAttr]; done) | (simp; done) | rfl)); (first | refine hK _ _ _ ?_ | (simp only [ncells_mk, List.length_map, go_sem, simprocAttr]; first | refine hK _ _ _ ?_ | refine ⟨rfl, hK _ _ _ ?_⟩)); clear hK K)
      refine walkBF (@ncells_mk) ?_
      refine ⟨by first | exact .inr rfl | exact .inl rfl, ?_⟩; rw [Tryz.results71]; simp only [resOk, resV, go_sem, simprocAttr]
      exact Frz.aggL (.cons (.c _) (.cons (.c _) (.cons (.c _) (.cons (.nil 1) (.cons (.nil 6) (.cons (.nil 1) .nil))))))
    · refine VC.toldM ent_71 [] Tryz.func71 rfl Tryz.ntmps71 (by simp) (by simp only [ScM, zOk, inL, eq_self, used_is, sc_any, sc_c, sc_pp, sc_ref, sc_row, sc_agg, sc_tup, sc_fn, ScL, some_imp, List.forall_mem_map, Nat.le_refl, go_sem, simprocAttr]) (by simp only [ScM, zOk, inL, eq_self, used_is, sc_any, sc_c, sc_pp, sc_ref, sc_row, sc_agg, sc_tup, sc_fn, ScL, some_imp, List.forall_mem_map, Nat.le_refl, go_sem, simprocAttr]) (by simp only [ScM, zOk, inL, eq_self, used_is, sc_any, sc_c, sc_pp, sc_ref, sc_row, sc_agg, sc_tup, sc_fn, ScL, some_imp, List.forall_mem_map, Nat.le_refl, go_sem, simprocAttr]) (by simp only [ScM, zOk, inL, eq_self, used_is, sc_any, sc_c, sc_pp, sc_ref, sc_row, sc_agg, sc_tup, sc_fn, ScL, some_imp, List.forall_mem_map, Nat.le_refl, go_sem, simprocAttr]) (by simp) fun hb hbL => ?_
      clear hb hbL
      refine walkBF (And.intro hnp (And.intro @ncells_mk (And.intro @len_ncells (And.intro e2 (And.intro e3 (And.intro e4 (And.intro e5 (And.intro e6 (And.intro e7 (And.intro e8 (And.intro e14 (And.intro e10 (And.intro g9 (And.intro g11 (And.intro g12 (And.intro g13 e20)))))))))))))))) ?_
      ((refine AO.step fun K hK => ?_; simp only [go_sem, Int.reduceBEq, Int.reduceLE, Int.reduceLT, Int.reduceNeg, Nat.reduceAdd, Nat.reduceEqDiff, Nat.reduceLT, Nat.reduceLeDiff, Nat.reduceMul, Nat.reduceSub, reduceCtorEq, ↓reduceIte, ncells_mk, List.length_map]; (first | refine gsel_go ?_ | skip)); refine .inr (.inr (.inl ⟨?vy10, [1000000], ?va10, ?vl10, ?vm10, ?cond10, ?cont10⟩)); (case cond10 => ((repeat' apply And.intro) <;> (try ((with_reducible show ToldM _ _ _ _ _ _); exact hT))); (all_goals first | trivial | (simp only [ncells_mk, List.length_map, go_sem, simprocAttr]; done) | (simp; done) | rfl)); (first | refine hK _ _ _ ?_ | (simp only [ncells_mk, List.length_map, go_sem, simprocAttr]; first | refine hK _ _ _ ?_ | refine ⟨rfl, hK _ _ _ ?_⟩)); clear hK K)
      refine walkBF (@ncells_mk) ?_
      refine ⟨by first | exact .inr rfl | exact .inl rfl, ?_⟩; rw [Tryz.results71]; simp only [resOk, resV, go_sem, simprocAttr]
      exact Frz.aggL (.cons (.c _) (.cons (.c _) (.cons (.c _) (.cons (.nil 1) (.cons (.nil 6) (.cons (.nil 1) .nil))))))
  refine hcase _ _ _ _ rfl rfl rfl rfl ?_
  rcases hk with h | h | h | h <;> rw [h] <;> simp
set_option maxRecDepth 100000 in
set_option maxHeartbeats 1600000 in
theorem dvalc_told (ns : List NT) (r : Int) (B : List UInt8) (a : Nat) (nd : NT) (hnd : ns[a]? = some nd) (hk : nd.kind = 9 ∨ nd.kind = 11 ∨ nd.kind = 12 ∨ nd.kind = 13) (dep : Nat) (hd : dep < 20) (p q : Nat) (e e' : Int) (v : VT)
    (hT : ToldM Tryz.prog 129 [.ref 1000000 1 0 0, nd.av, .ref 1000001 1 0 0, .c (.v (.int .i64 ((dep + 1 : Nat) : Int)))] [dB ns r B p e, v0B nd.kind] [some (dB ns r B q e'), some (vvB v)] (.tup [])) :
    ToldM Tryz.prog 71 [.ref 1000000 1 0 0, .c (.v (.int .i64 (a : Int))), .c (.v (.int .i64 (dep : Int)))] [dB ns r B p e] [some (dB ns r B q e')] v.av := by
  have hnp : (ns.map NT.cells)[a]? = some nd.cells := by rw [List.getElem?_map, hnd]; rfl
  have ha : a < ns.length := (List.getElem?_eq_some_iff.1 hnd).1
  have e2 : (nd.kind == 2) = false := by rcases hk with h | h | h | h <;> rw [h] <;> rfl
  have e3 : (nd.kind == 3) = false := by rcases hk with h | h | h | h <;> rw [h] <;> rfl
  have e4 : (nd.kind == 4) = false := by rcases hk with h | h | h | h <;> rw [h] <;> rfl
  have e5 : (nd.kind == 5) = false := by rcases hk with h | h | h | h <;> rw [h] <;> rfl
  have e6 : (nd.kind == 6) = false := by rcases hk with h | h | h | h <;> rw [h] <;> rfl
  have e7 : (nd.kind == 7) = false := by rcases hk with h | h | h | h <;> rw [h] <;> rfl
  have e8 : (nd.kind == 8) = false := by rcases hk with h | h | h | h <;> rw [h] <;> rfl
  have e14 : (nd.kind == 14) = false := by rcases hk with h | h | h | h <;> rw [h] <;> rfl
  have e10 : (nd.kind == 10) = false := by rcases hk with h | h | h | h <;> rw [h] <;> rfl
  have e20 : ((dep : Int) == 20) = false := by simp; omega
  have hw : IntKind.i64.wrap ((dep : Int) + 1) = ((dep + 1 : Nat) : Int) := by rw [wrap64_id (by omega) (by omega)]; omega
  rw [NT.av_eq] at hT
  rw [VT.av_eq]
  unfold dB v0B vvB at *
  have hvl := len_vcells v
  have hvt := take_vcellsC v
  generalize v.cells = vc at hT hvl hvt
  have hcase : ∀ (b9 b11 b12 b13 : Bool), (nd.kind == 9) = b9 → (nd.kind == 11) = b11 → (nd.kind == 12) = b12 → (nd.kind == 13) = b13 → (b9 = true ∨ (b9 = false ∧ b11 = true) ∨ (b9 = false ∧ b11 = false ∧ b12 = true) ∨ (b9 = false ∧ b11 = false ∧ b12 = false ∧ b13 = true)) → ToldM Tryz.prog 71 [.ref 1000000 1 0 0, .c (.v (.int .i64 (a : Int))), .c (.v (.int .i64 (dep : Int)))] [⟨false, 109, 5, [[.c (.sl 10 (ns.map NT.cells)), .c (.v (.int .i64 r)), .c (.sl 1 (bytePV B)), .c (.v (.int .i64 (p : Int))), .c (.v (.int .i64 e))]]⟩] [some ⟨false, 109, 5, [[.c (.sl 10 (ns.map NT.cells)), .c (.v (.int .i64 r)), .c (.sl 1 (bytePV B)), .c (.v (.int .i64 (q : Int))), .c (.v (.int .i64 e'))]]⟩] (.agg (vc.map .c)) := by
    intro b9 b11 b12 b13 g9 g11 g12 g13 hb
    rcases hb with rfl | ⟨rfl, rfl⟩ | ⟨rfl, rfl, rfl⟩ | ⟨rfl, rfl, rfl, rfl⟩
    · refine VC.toldM ent_71 [] Tryz.func71 rfl Tryz.ntmps71 (by simp) (by simp only [ScM, zOk, inL, eq_self, used_is, sc_any, sc_c, sc_pp, sc_ref, sc_row, sc_agg, sc_tup, sc_fn, ScL, some_imp, List.forall_mem_map, Nat.le_refl, go_sem, simprocAttr]) (by simp only [ScM, zOk, inL, eq_self, used_is, sc_any, sc_c, sc_pp, sc_ref, sc_row, sc_agg, sc_tup, sc_fn, ScL, some_imp, List.forall_mem_map, Nat.le_refl, go_sem, simprocAttr]) (by simp only [ScM, zOk, inL, eq_self, used_is, sc_any, sc_c, sc_pp, sc_ref, sc_row, sc_agg, sc_tup, sc_fn, ScL, some_imp, List.forall_mem_map, Nat.le_refl, go_sem, simprocAttr]) (by simp only [ScM, zOk, inL, eq_self, used_is, sc_any, sc_c, sc_pp, sc_ref, sc_row, sc_agg, sc_tup, sc_fn, ScL, some_imp, List.forall_mem_map, Nat.le_refl, go_sem, simprocAttr]) (by simp) fun hb hbL => ?_
      clear hb hbL
      refine walkBF (And.intro hnp (And.intro @ncells_mk (And.intro @len_ncells (And.intro e2 (And.intro e3 (And.intro e4 (And.intro e5 (And.intro e6 (And.intro e7 (And.intro e8 (And.intro e14 (And.intro e10 (And.intro g9 (And.intro e20 hw)))))))))))))) ?_
      ((refine AO.step fun K hK => ?_; simp only [go_sem, Int.reduceBEq, Int.reduceLE, Int.reduceLT, Int.reduceNeg, Nat.reduceAdd, Nat.reduceEqDiff, Nat.reduceLT, Nat.reduceLeDiff, Nat.reduceMul, Nat.reduceSub, reduceCtorEq, ↓reduceIte, ncells_mk, List.length_map]; (first | refine gsel_go ?_ | skip)); refine .inr (.inr (.inl ⟨?vy11, [1000000, 112], ?va11, ?vl11, ?vm11, ?cond11, ?cont11⟩)); (case cond11 => ((repeat' apply And.intro) <;> (try ((with_reducible show ToldM _ _ _ _ _ _); exact hT))); (all_goals first | trivial | (simp only [ncells_mk, List.length_map, go_sem, simprocAttr]; done) | (simp; done) | rfl)); (first | refine hK _ _ _ ?_ | (simp only [ncells_mk, List.length_map, go_sem, simprocAttr]; first | refine hK _ _ _ ?_ | refine ⟨rfl, hK _ _ _ ?_⟩)); clear hK K)
      refine walkBF (And.intro @ncells_mk (And.intro hvl hvt)) ?_
      refine ⟨by first | exact .inr rfl | exact .inl rfl, ?_⟩; rw [Tryz.results71]; simp only [resOk, resV, go_sem, simprocAttr]
      refine ⟨by omega, ?_⟩
      (try rw [hvt])
      exact .cs _ _
    · refine VC.toldM ent_71 [] Tryz.func71 rfl Tryz.ntmps71 (by simp) (by simp only [ScM, zOk, inL, eq_self, used_is, sc_any, sc_c, sc_pp, sc_ref, sc_row, sc_agg, sc_tup, sc_fn, ScL, some_imp, List.forall_mem_map, Nat.le_refl, go_sem, simprocAttr]) (by simp only [ScM, zOk, inL, eq_self, used_is, sc_any, sc_c, sc_pp, sc_ref, sc_row, sc_agg, sc_tup, sc_fn, ScL, some_imp, List.forall_mem_map, Nat.le_refl, go_sem, simprocAttr]) (by simp only [ScM, zOk, inL, eq_self, used_is, sc_any, sc_c, sc_pp, sc_ref, sc_row, sc_agg, sc_tup, sc_fn, ScL, some_imp, List.forall_mem_map, Nat.le_refl, go_sem, simprocAttr]) (by simp only [ScM, zOk, inL, eq_self, used_is, sc_any, sc_c, sc_pp, sc_ref, sc_row, sc_agg, sc_tup, sc_fn, ScL, some_imp, List.forall_mem_map, Nat.le_refl, go_sem, simprocAttr]) (by simp) fun hb hbL => ?_
      clear hb hbL
      refine walkBF (And.intro hnp (And.intro @ncells_mk (And.intro @len_ncells (And.intro e2 (And.intro e3 (And.intro e4 (And.intro e5 (And.intro e6 (And.intro e7 (And.intro e8 (And.intro e14 (And.intro e10 (And.intro g9 (And.intro g11 (And.intro e20 hw))))))))))))))) ?_
      ((refine AO.step fun K hK => ?_; simp only [go_sem, Int.reduceBEq, Int.reduceLE, Int.reduceLT, Int.reduceNeg, Nat.reduceAdd, Nat.reduceEqDiff, Nat.reduceLT, Nat.reduceLeDiff, Nat.reduceMul, Nat.reduceSub, reduceCtorEq, ↓reduceIte, ncells_mk, List.length_map]; (first | refine gsel_go ?_ | skip)); refine .inr (.inr (.inl ⟨?vy12, [1000000, 112], ?va12, ?vl12, ?vm12, ?cond12, ?cont12⟩)); (case cond12 => ((repeat' apply And.intro) <;> (try ((with_reducible show ToldM _ _ _ _ _ _); exact hT))); (all_goals first | trivial | (simp only [ncells_mk, List.length_map, go_sem, simprocAttr]; done) | (simp; done) | rfl)); (first | refine hK _ _ _ ?_ | (simp only [ncells_mk, List.length_map, go_sem, simprocAttr]; first | refine hK _ _ _ ?_ | refine ⟨rfl, hK _ _ _ ?_⟩)); clear hK K)
      refine walkBF (And.intro @ncells_mk (And.intro hvl hvt)) ?_
      refine ⟨by first | exact .inr rfl | exact .inl rfl, ?_⟩; rw [Tryz.results71]; simp only [resOk, resV, go_sem, simprocAttr]
      refine ⟨by omega, ?_⟩
      (try rw [hvt])
      exact .cs _ _
    · refine VC.toldM ent_71 [] Tryz.func71 rfl Tryz.ntmps71 (by simp) (by simp only [ScM, zOk, inL, eq_self, used_is, sc_any, sc_c, sc_pp, sc_ref, sc_row, sc_agg, sc_tup, sc_fn, ScL, some_imp, List.forall_mem_map, Nat.le_refl, go_sem, simprocAttr]) (by simp only [ScM, zOk, inL, eq_self, used_is, sc_any, sc_c, sc_pp, sc_ref, sc_row, sc_agg, sc_tup, sc_fn, ScL, some_imp, List.forall_mem_map, Nat.le_refl, go_sem, simprocAttr]) (by simp only [ScM, zOk, inL, eq_self, used_is, sc_any, sc_c, sc_pp, sc_ref, sc_row, sc_agg, sc_tup, sc_fn, ScL, some_imp, List.forall_mem_map, Nat.le_refl, go_sem, simprocAttr]) (by simp only [ScM, zOk, inL, eq_self, used_is, sc_any, sc_c, sc_pp, sc_ref, sc_row, sc_agg, sc_tup, sc_fn, ScL, some_imp, List.forall_mem_map, Nat.le_refl, go_sem, simprocAttr]) (by simp) fun hb hbL => ?_
      clear hb hbL
      refine walkBF (And.intro hnp (And.intro @ncells_mk (And.intro @len_ncells (And.intro e2 (And.intro e3 (And.intro e4 (And.intro e5 (And.intro e6 (And.intro e7 (And.intro e8 (And.intro e14 (And.intro e10 (And.intro g9 (And.intro g11 (And.intro g12 (And.intro e20 hw)))))))))))))))) ?_
      ((refine AO.step fun K hK => ?_; simp only [go_sem, Int.reduceBEq, Int.reduceLE, Int.reduceLT, Int.reduceNeg, Nat.reduceAdd, Nat.reduceEqDiff, Nat.reduceLT, Nat.reduceLeDiff, Nat.reduceMul, Nat.reduceSub, reduceCtorEq, ↓reduceIte, ncells_mk, List.length_map]; (first | refine gsel_go ?_ | skip)); refine .inr (.inr (.inl ⟨?vy13, [1000000, 112], ?va13, ?vl13, ?vm13, ?cond13, ?cont13⟩)); (case cond13 => ((repeat' apply And.intro) <;> (try ((with_reducible show ToldM _ _ _ _ _ _); exact hT))); (all_goals first | trivial | (simp only [ncells_mk, List.length_map, go_sem, simprocAttr]; done) | (simp; done) | rfl)); (first | refine hK _ _ _ ?_ | (simp only [ncells_mk, List.length_map, go_sem, simprocAttr]; first | refine hK _ _ _ ?_ | refine ⟨rfl, hK _ _ _ ?_⟩)); clear hK K)
      refine walkBF (And.intro @ncells_mk (And.intro hvl hvt)) ?_
      refine ⟨by first | exact .inr rfl | exact .inl rfl, ?_⟩; rw [Tryz.results71]; simp only [resOk, resV, go_sem, simprocAttr]
      refine ⟨by omega, ?_⟩
      (try rw [hvt])
      exact .cs _ _
    · refine VC.toldM ent_71 [] Tryz.func71 rfl Tryz.ntmps71 (by simp) (by simp only [ScM, zOk, inL, eq_self, used_is, sc_any, sc_c, sc_pp, sc_ref, sc_row, sc_agg, sc_tup, sc_fn, ScL, some_imp, List.forall_mem_map, Nat.le_refl, go_sem, simprocAttr]) (by simp only [ScM, zOk, inL, eq_self, used_is, sc_any, sc_c, sc_pp, sc_ref, sc_row, sc_agg, sc_tup, sc_fn, ScL, some_imp, List.forall_mem_map, Nat.le_refl, go_sem, simprocAttr]) (by simp only [ScM, zOk, inL, eq_self, used_is, sc_any, sc_c, sc_pp, sc_ref, sc_row, sc_agg, sc_tup, sc_fn, ScL, some_imp, List.forall_mem_map, Nat.le_refl, go_sem, simprocAttr]) (by simp only [ScM, zOk, inL, eq_self, used_is, sc_any, sc_c, sc_pp, sc_ref, sc_row, sc_agg, sc_tup, sc_fn, ScL, some_imp, List.forall_mem_map, Nat.le_refl, go_sem, simprocAttr]) (by simp) fun hb hbL => ?_
      clear hb hbL
      refine walkBF (And.intro hnp (And.intro @ncells_mk (And.intro @len_ncells (And.intro e2 (And.intro e3 (And.intro e4 (And.intro e5 (And.intro e6 (And.intro e7 (And.intro e8 (And.intro e14 (And.intro e10 (And.intro g9 (And.intro g11 (And.intro g12 (And.intro g13 (And.intro e20 hw))))))))))))))))) ?_
      ((refine AO.step fun K hK => ?_; simp only [go_sem, Int.reduceBEq, Int.reduceLE, Int.reduceLT, Int.reduceNeg, Nat.reduceAdd, Nat.reduceEqDiff, Nat.reduceLT, Nat.reduceLeDiff, Nat.reduceMul, Nat.reduceSub, reduceCtorEq, ↓reduceIte, ncells_mk, List.length_map]; (first | refine gsel_go ?_ | skip)); refine .inr (.inr (.inl ⟨?vy14, [1000000, 112], ?va14, ?vl14, ?vm14, ?cond14, ?cont14⟩)); (case cond14 => ((repeat' apply And.intro) <;> (try ((with_reducible show ToldM _ _ _ _ _ _); exact hT))); (all_goals first | trivial | (simp only [ncells_mk, List.length_map, go_sem, simprocAttr]; done) | (simp; done) | rfl)); (first | refine hK _ _ _ ?_ | (simp only [ncells_mk, List.length_map, go_sem, simprocAttr]; first | refine hK _ _ _ ?_ | refine ⟨rfl, hK _ _ _ ?_⟩)); clear hK K)
      refine walkBF (And.intro @ncells_mk (And.intro hvl hvt)) ?_
      refine ⟨by first | exact .inr rfl | exact .inl rfl, ?_⟩; rw [Tryz.results71]; simp only [resOk, resV, go_sem, simprocAttr]
      refine ⟨by omega, ?_⟩
      (try rw [hvt])
      exact .cs _ _
  refine hcase _ _ _ _ rfl rfl rfl rfl ?_
  rcases hk with h | h | h | h <;> rw [h] <;> simp

def xE (ns : List NT) (r : Int) (cuts : List Int) (c : Nat) : Blkd := ⟨false, 130, 4, [[.c (.sl 10 (ns.map NT.cells)), .c (.v (.int .i64 r)), .c (.sl 1 (cuts.map iPV)), .c (.v (.int .i64 (c : Int)))]]⟩
set_option maxRecDepth 100000 in
set_option maxHeartbeats 800000 in
theorem ecut_told (ns : List NT) (r : Int) (cuts : List Int) (hcr : ∀ n ∈ cuts, -9223372036854775808 ≤ n ∧ n ≤ 9223372036854775807) (hcl : cuts.length ≤ 1000000000) (c left : Nat) (hc : c ≤ 1000000000) (hl : left ≤ 1000000000) :
    ToldM Tryz.prog 218 [.ref 1000000 1 0 0, .c (.v (.int .i64 (left : Int)))] [xE ns r cuts c] [some (xE ns r cuts (cutM cuts c left).2.2)] (.tup [.c (.v (.int .i64 ((cutM cuts c left).1 : Int))), .c (.v (.bool (cutM cuts c left).2.1))]) := by
  by_cases hn : cuts = []
  · subst hn
    have e : cutM [] c left = (left, false, c) := rfl
    rw [e]
    unfold xE
    refine VC.toldM ent_218 [] Tryz.func218 rfl Tryz.ntmps218 (by simp) (by simp only [ScM, zOk, inL, eq_self, used_is, sc_any, sc_c, sc_pp, sc_ref, sc_row, sc_agg, sc_tup, sc_fn, ScL, some_imp, List.forall_mem_map, Nat.le_refl, go_sem, simprocAttr]) (by simp only [ScM, zOk, inL, eq_self, used_is, sc_any, sc_c, sc_pp, sc_ref, sc_row, sc_agg, sc_tup, sc_fn, ScL, some_imp, List.forall_mem_map, Nat.le_refl, go_sem, simprocAttr]) (by simp only [ScM, zOk, inL, eq_self, used_is, sc_any, sc_c, sc_pp, sc_ref, sc_row, sc_agg, sc_tup, sc_fn, ScL, some_imp, List.forall_mem_map, Nat.le_refl, go_sem, simprocAttr]) (by simp only [ScM, zOk, inL, eq_self, used_is, sc_any, sc_c, sc_pp, sc_ref, sc_row, sc_agg, sc_tup, sc_fn, ScL, some_imp, List.forall_mem_map, Nat.le_refl, go_sem, simprocAttr]) (by simp) fun hb hbL => ?_
    clear hb hbL
    refine walkB ?_
    refine ⟨by first | exact .inr rfl | exact .inl rfl, ?_⟩; rw [Tryz.results218]; simp only [resOk, resV, go_sem, simprocAttr]
    exact ⟨.c _, .c _⟩
  · have hpos : 0 < cuts.length := List.length_pos_iff.2 hn
    have hmod := Nat.mod_lt c hpos
    obtain ⟨n, hx⟩ : ∃ n, cuts[c % cuts.length]? = some n := ⟨cuts[c % cuts.length], List.getElem?_eq_getElem hmod⟩
    obtain ⟨n1, n2⟩ := hcr n (List.mem_of_getElem? hx)
    have e : cutM cuts c left = (min left (n.natAbs % 9223372036854775808 % 4 + 1), decide (n < 0), c + 1) := by rw [cutM, hx]
    rw [e]
    have hxp : (cuts.map iPV)[c % cuts.length]? = some (iPV n) := by rw [List.getElem?_map, hx]; rfl
    have e0 : ((cuts.length : Int) == 0) = false := beq_eq_false_iff_ne.2 (by omega)
    have hm : Int.tmod (c : Int) (cuts.length : Int) = ((c % cuts.length : Nat) : Int) := by simp [Int.tmod]
    have hw1 : IntKind.i64.wrap ((c : Int) + 1) = ((c + 1 : Nat) : Int) := by rw [wrap64_id (by omega) (by omega)]; rfl
    obtain ⟨u, hu⟩ : ∃ u, u = n.natAbs := ⟨_, rfl⟩
    obtain ⟨w, hw⟩ : ∃ w, w = u % 9223372036854775808 % 4 + 1 := ⟨_, rfl⟩
    rw [← hu, ← hw]
    have hs : Int.tmod ((IntKind.u64.wrap ((u : Int) * 2 ^ min 1 64)).fdiv (2 ^ min 1 64)) 4 = ((u % 9223372036854775808 % 4 : Nat) : Int) := by
      rw [show (2 : Int) ^ min 1 64 = 2 from rfl, IntKind.wrap_u64, Int.fdiv_eq_ediv_of_nonneg _ (by decide)]
      have : (u : Int) * 2 % 18446744073709551616 / 2 = ((u % 9223372036854775808 : Nat) : Int) := by omega
      rw [this]
      simp [Int.tmod]
    have hs2 : IntKind.i64.wrap ((u % 9223372036854775808 % 4 : Nat) : Int) = ((u % 9223372036854775808 % 4 : Nat) : Int) := wrap64_id (by omega) (by omega)
    have hs3 : IntKind.i64.wrap (((u % 9223372036854775808 % 4 : Nat) : Int) + 1) = (w : Int) := by rw [wrap64_id (by omega) (by omega), hw]; rfl
    have hmn : min (left : Int) (w : Int) = ((min left w : Nat) : Int) := by omega
    generalize u % 9223372036854775808 % 4 = z at hs hs2 hs3
    unfold xE
    by_cases h0 : n < 0
    · have d0 : decide (n < 0) = true := by simpa using h0
      rw [d0]
      have hun : IntKind.u64.wrap (0 - IntKind.u64.wrap n) = (u : Int) := by
        rw [IntKind.wrap_u64, IntKind.wrap_u64]
        omega
      refine VC.toldM ent_218 [] Tryz.func218 rfl Tryz.ntmps218 (by simp) (by simp only [ScM, zOk, inL, eq_self, used_is, sc_any, sc_c, sc_pp, sc_ref, sc_row, sc_agg, sc_tup, sc_fn, ScL, some_imp, List.forall_mem_map, Nat.le_refl, go_sem, simprocAttr]) (by simp only [ScM, zOk, inL, eq_self, used_is, sc_any, sc_c, sc_pp, sc_ref, sc_row, sc_agg, sc_tup, sc_fn, ScL, some_imp, List.forall_mem_map, Nat.le_refl, go_sem, simprocAttr]) (by simp only [ScM, zOk, inL, eq_self, used_is, sc_any, sc_c, sc_pp, sc_ref, sc_row, sc_agg, sc_tup, sc_fn, ScL, some_imp, List.forall_mem_map, Nat.le_refl, go_sem, simprocAttr]) (by simp only [ScM, zOk, inL, eq_self, used_is, sc_any, sc_c, sc_pp, sc_ref, sc_row, sc_agg, sc_tup, sc_fn, ScL, some_imp, List.forall_mem_map, Nat.le_refl, go_sem, simprocAttr]) (by simp) fun hb hbL => ?_
      clear hb hbL
      refine walkBF (And.intro e0 (And.intro hm (And.intro hxp (And.intro @iPV_eq (And.intro hw1 (And.intro d0 (And.intro hun (And.intro hs (And.intro hs2 (And.intro hs3 hmn)))))))))) ?_
      refine ⟨by first | exact .inr rfl | exact .inl rfl, ?_⟩; rw [Tryz.results218]; simp only [resOk, resV, go_sem, simprocAttr]
      exact ⟨.c _, .c _⟩
    · have d0 : decide (n < 0) = false := by simpa using h0
      rw [d0]
      have hun : IntKind.u64.wrap n = (u : Int) := by
        rw [IntKind.wrap_u64]
        omega
      refine VC.toldM ent_218 [] Tryz.func218 rfl Tryz.ntmps218 (by simp) (by simp only [ScM, zOk, inL, eq_self, used_is, sc_any, sc_c, sc_pp, sc_ref, sc_row, sc_agg, sc_tup, sc_fn, ScL, some_imp, List.forall_mem_map, Nat.le_refl, go_sem, simprocAttr]) (by simp only [ScM, zOk, inL, eq_self, used_is, sc_any, sc_c, sc_pp, sc_ref, sc_row, sc_agg, sc_tup, sc_fn, ScL, some_imp, List.forall_mem_map, Nat.le_refl, go_sem, simprocAttr]) (by simp only [ScM, zOk, inL, eq_self, used_is, sc_any, sc_c, sc_pp, sc_ref, sc_row, sc_agg, sc_tup, sc_fn, ScL, some_imp, List.forall_mem_map, Nat.le_refl, go_sem, simprocAttr]) (by simp only [ScM, zOk, inL, eq_self, used_is, sc_any, sc_c, sc_pp, sc_ref, sc_row, sc_agg, sc_tup, sc_fn, ScL, some_imp, List.forall_mem_map, Nat.le_refl, go_sem, simprocAttr]) (by simp) fun hb hbL => ?_
      clear hb hbL
      refine walkBF (And.intro e0 (And.intro hm (And.intro hxp (And.intro @iPV_eq (And.intro hw1 (And.intro d0 (And.intro hun (And.intro hs (And.intro hs2 (And.intro hs3 hmn)))))))))) ?_
      refine ⟨by first | exact .inr rfl | exact .inl rfl, ?_⟩; rw [Tryz.results218]; simp only [resOk, resV, go_sem, simprocAttr]
      exact ⟨.c _, .c _⟩

def pE : Blkd := ⟨false, 128, 1, [[.ref 1000000 1 0 0]]⟩
theorem drop_eq' {α : Type} {l : List α} {i : Nat} {x : α} (h : l[i]? = some x) : l.drop i = x :: l.drop (i + 1) := by
  obtain ⟨hlt, rfl⟩ := List.getElem?_eq_some_iff.1 h
  exact List.drop_eq_getElem_cons hlt
set_option maxRecDepth 100000 in
set_option maxHeartbeats 3200000 in
theorem blocks_told (ns : List NT) (r : Int) (cuts : List Int) (hcr : ∀ n ∈ cuts, -9223372036854775808 ≤ n ∧ n ≤ 9223372036854775807) (hcl : cuts.length ≤ 1000000000) (g : FuncId) (c1 c2 : List PV) (fs : List Enc) (hup : ∀ f ∈ fs, Up f) (hfl : fs.length ≤ 1000000)
    (hg : ∀ (i : Nat) (f : Enc), fs[i]? = some f → ∀ (l : List UInt8) (c : Nat), (l ++ (f c).1).length ≤ 90000000 → (f c).2 ≤ 900000000 →
      ToldM Tryz.prog g [.row 1000001 l.length, .c (.v (.int .i64 (i : Int))), .ref 1000002 1 0 0, .pp c1, .pp c2] [xE ns r cuts c, bB l, pE] [some (xE ns r cuts (f c).2), some (bB (l ++ (f c).1)), some pE] (.row 1000001 (l ++ (f c).1).length))
    (l : List UInt8) (c : Nat) (h1 : (l ++ (blkF cuts fs.length fs c).1).length ≤ 90000000) (h2 : (blkF cuts fs.length fs c).2 ≤ 900000000) :
    ToldM Tryz.prog 153 [.ref 1000000 1 0 0, .row 1000001 l.length, .c (.v (.int .i64 (fs.length : Int))), .fn (.func g) [] [.ref 1000002 1 0 0, .pp c1, .pp c2]] [xE ns r cuts c, bB l, pE] [some (xE ns r cuts (blkF cuts fs.length fs c).2), some (bB (l ++ (blkF cuts fs.length fs c).1)), some pE] (.row 1000001 (l ++ (blkF cuts fs.length fs c).1).length) := by
  obtain ⟨O, hO⟩ : ∃ O, O = l ++ (blkF cuts fs.length fs c).1 := ⟨_, rfl⟩
  obtain ⟨C, hC⟩ : ∃ C, C = (blkF cuts fs.length fs c).2 := ⟨_, rfl⟩
  rw [← hO] at h1 ⊢
  rw [← hC] at h2 ⊢
  unfold bB xE pE at hg ⊢
  refine VC.toldM ent_153 [] Tryz.func153 rfl Tryz.ntmps153 (by simp) (by simp only [ bA_len, bA_sc, ScM, zOk, inL, eq_self, used_is, sc_any, sc_c, sc_pp, sc_ref, sc_row, sc_agg, sc_tup, sc_fn, ScL, some_imp, List.forall_mem_map, Nat.le_refl, go_sem, simprocAttr]) (by simp only [ bA_len, bA_sc, ScM, zOk, inL, eq_self, used_is, sc_any, sc_c, sc_pp, sc_ref, sc_row, sc_agg, sc_tup, sc_fn, ScL, some_imp, List.forall_mem_map, Nat.le_refl, go_sem, simprocAttr]) (by simp only [ bA_len, bA_sc, ScM, zOk, inL, eq_self, used_is, sc_any, sc_c, sc_pp, sc_ref, sc_row, sc_agg, sc_tup, sc_fn, ScL, some_imp, List.forall_mem_map, Nat.le_refl, go_sem, simprocAttr]) (by simp only [ bA_len, bA_sc, ScM, zOk, inL, eq_self, used_is, sc_any, sc_c, sc_pp, sc_ref, sc_row, sc_agg, sc_tup, sc_fn, ScL, some_imp, List.forall_mem_map, Nat.le_refl, go_sem, simprocAttr]) (by simp) fun hb hbL => ?_
  clear hb hbL
  refine walkG ?_
  refine VC.loop (ι := {q : Nat × List UInt8 × Nat × Nat // q.1 ≤ fs.length ∧ fs.length - q.1 ≤ q.2.2.2 ∧ q.2.1 ++ (blkF cuts q.2.2.2 (fs.drop q.1) q.2.2.1).1 = O ∧ (blkF cuts q.2.2.2 (fs.drop q.1) q.2.2.1).2 = C})
    (fun q => [(0, .ref 1000000 1 0 0), (1, .row 1000001 q.1.2.1.length), (2, .c (.v (.int .i64 (fs.length : Int)))), (3, .fn (.func g) [] [.ref 1000002 1 0 0, .pp c1, .pp c2]), (9, .c (.v (.int .i64 (q.1.1 : Int))))])
    (fun q => [(1000001, ⟨true, 5, 1, bA q.1.2.1⟩), (1000000, ⟨false, 130, 4, [[.c (.sl 10 (ns.map NT.cells)), .c (.v (.int .i64 r)), .c (.sl 1 (cuts.map iPV)), .c (.v (.int .i64 (q.1.2.2.1 : Int)))]]⟩), (1000002, ⟨false, 128, 1, [[.ref 1000000 1 0 0]]⟩)]) 400 (fun q => fs.length - q.1.1)
    ⟨(0, l, c, fs.length), Nat.zero_le _, by simp only []; omega, by simp only []; rw [List.drop_zero, hO], by simp only []; rw [List.drop_zero, hC]⟩ ?_ ?_
  · simp only [bA_len, bA_sc, Weak, eq_self, used_is, sc_any, sc_c, sc_pp, sc_ref, sc_row, sc_agg, sc_fn, ScL, some_imp, List.forall_mem_map, go_sem, Int.reduceBEq, Int.reduceLE, Int.reduceLT, Int.reduceNeg, Nat.reduceAdd, Nat.reduceEqDiff, Nat.reduceLT, Nat.reduceLeDiff, Nat.reduceMul, Nat.reduceSub, reduceCtorEq, ↓reduceIte]
    exact Nat.le_refl _
  clear hO hC
  rintro ⟨⟨i, m, d, k⟩, hi, hk, hm, hd⟩
  simp only [] at hi hk hm hd ⊢
  refine walkG ?_
  refine VC.cond (by rfl) (by trivial) (fun hc => ?_) (fun hc => ?_)
  · have hlt : i < fs.length := by simp at hc; omega
    obtain ⟨f0, hf0⟩ : ∃ f, fs[i]? = some f := ⟨fs[i], List.getElem?_eq_getElem hlt⟩
    obtain ⟨k, rfl⟩ : ∃ k', k = k' + 1 := ⟨k - 1, by omega⟩
    have hdl : (fs.drop (i + 1)).length + 1 = fs.length - i := by rw [List.length_drop]; omega
    rw [drop_eq' hf0, blkF, hdl] at hm hd
    rw [← drop_eq' hf0] at hm hd
    have hw1 : IntKind.i64.wrap ((fs.length : Int) - (i : Int)) = ((fs.length - i : Nat) : Int) := by rw [wrap64_id (by omega) (by omega)]; omega
    have hup1 := seqF_up ((fs.drop i).take (cutM cuts d (fs.length - i)).1) (fun f hf => hup f (List.mem_of_mem_drop (List.mem_of_mem_take hf))) (cutM cuts d (fs.length - i)).2.2
    have hup2 := blkF_up cuts k ((fs.drop i).drop (cutM cuts d (fs.length - i)).1) (fun f hf => hup f (List.mem_of_mem_drop (List.mem_of_mem_drop hf))) (seqF ((fs.drop i).take (cutM cuts d (fs.length - i)).1) (cutM cuts d (fs.length - i)).2.2).2
    have hcp := cutM_pos cuts d (fs.length - i) (by omega)
    simp only [] at hm hd
    have hCut := ecut_told ns r cuts hcr hcl d (fs.length - i) (by omega) (by omega)
    obtain ⟨n, sized, e, hQ⟩ : ∃ n s e, cutM cuts d (fs.length - i) = (n, s, e) := ⟨_, _, _, rfl⟩
    rw [hQ] at hm hd hup1 hup2 hcp hCut
    simp only [] at hm hd hup1 hup2 hcp hCut
    unfold xE at hCut
    obtain ⟨S, hS⟩ : ∃ S, S = seqF ((fs.drop i).take n) e := ⟨_, rfl⟩
    rw [← hS] at hm hd hup1 hup2
    rw [List.drop_drop] at hm hd hup2
    have hSl : S.1.length ≤ 90000000 := by
      have := congrArg List.length hm
      simp at this
      omega
    have hml : m.length + (headB n sized S.1.length).length + S.1.length ≤ 90000000 := by
      have := congrArg List.length hm
      simp at this
      omega
    refine walkGF (hw1) ?_
    ((refine AO.step fun K hK => ?_; simp only [go_sem, Int.reduceBEq, Int.reduceLE, Int.reduceLT, Int.reduceNeg, Nat.reduceAdd, Nat.reduceEqDiff, Nat.reduceLT, Nat.reduceLeDiff, Nat.reduceMul, Nat.reduceSub, reduceCtorEq, ↓reduceIte]; (first | refine gsel_go ?_ | skip)); refine .inr (.inr (.inl ⟨?vy1, [1000000], ?va1, ?vl1, ?vm1, ?cond1, ?cont1⟩)); (case cond1 => ((repeat' apply And.intro) <;> (try ((with_reducible show ToldM _ _ _ _ _ _); exact hCut))); (all_goals first | trivial | (simp only [go_sem, simprocAttr]; done) | (simp; done) | rfl)); (first | refine hK _ _ _ ?_ | (simp only [go_sem, simprocAttr]; first | refine hK _ _ _ ?_ | refine ⟨rfl, hK _ _ _ ?_⟩)); clear hK K)
    refine walkG ?_
    refine VC.nil 12 5 1 (by rfl) (by trivial) (by rfl) ?_
    refine VC.loop (ι := {q : Nat × List UInt8 × Nat // i ≤ q.1 ∧ q.1 ≤ i + n ∧ q.2.1 ++ (seqF ((fs.drop q.1).take (i + n - q.1)) q.2.2).1 = S.1 ∧ (seqF ((fs.drop q.1).take (i + n - q.1)) q.2.2).2 = S.2})
      (fun q => [(0, .ref 1000000 1 0 0), (1, .row 1000001 m.length), (2, .c (.v (.int .i64 (fs.length : Int)))), (3, .fn (.func g) [] [.ref 1000002 1 0 0, .pp c1, .pp c2]), (9, .c (.v (.int .i64 (i : Int)))), (10, .c (.v (.int .i64 (n : Int)))), (11, .c (.v (.bool sized))), (12, .row 528 q.1.2.1.length), (13, .c (.v (.int .i64 (q.1.1 : Int))))])
      (fun q => [(1000001, ⟨true, 5, 1, bA m⟩), (1000000, ⟨false, 130, 4, [[.c (.sl 10 (ns.map NT.cells)), .c (.v (.int .i64 r)), .c (.sl 1 (cuts.map iPV)), .c (.v (.int .i64 (q.1.2.2 : Int)))]]⟩), (1000002, ⟨false, 128, 1, [[.ref 1000000 1 0 0]]⟩), (528, ⟨true, 5, 1, bA q.1.2.1⟩)]) 2000 (fun q => i + n - q.1.1)
      ⟨(i, [], e), Nat.le_refl _, by simp only []; omega, by simp only []; rw [hS, show i + n - i = n by omega]; rfl, by simp only []; rw [hS, show i + n - i = n by omega]⟩ ?_ ?_
    · simp only [bA_len, bA_sc, Weak, eq_self, used_is, sc_any, sc_c, sc_pp, sc_ref, sc_row, sc_agg, sc_fn, ScL, some_imp, List.forall_mem_map, go_sem, Int.reduceBEq, Int.reduceLE, Int.reduceLT, Int.reduceNeg, Nat.reduceAdd, Nat.reduceEqDiff, Nat.reduceLT, Nat.reduceLeDiff, Nat.reduceMul, Nat.reduceSub, reduceCtorEq, ↓reduceIte]
      simp [bA_nil]
    rintro ⟨⟨j, blk, cc⟩, hj1, hj2, hblk, hcc⟩
    simp only [] at hj1 hj2 hblk hcc ⊢
    have hwn : IntKind.i64.wrap ((i : Int) + (n : Int)) = ((i + n : Nat) : Int) := by rw [wrap64_id (by omega) (by omega)]; omega
    refine walkGF (hwn) ?_
    refine VC.cond (by rfl) (by trivial) (fun hc2 => ?_) (fun hc2 => ?_)
    · have hjl : j < i + n := by simp at hc2; omega
      obtain ⟨f, hf⟩ : ∃ f, fs[j]? = some f := ⟨fs[j]'(by omega), List.getElem?_eq_getElem (by omega)⟩
      rw [drop_eq' hf, show i + n - j = (i + n - (j + 1)) + 1 by omega, List.take_succ_cons, seqF] at hblk hcc
      simp only [] at hblk hcc
      have hup3 := seqF_up ((fs.drop (j + 1)).take (i + n - (j + 1))) (fun f hf => hup f (List.mem_of_mem_drop (List.mem_of_mem_take hf))) (f cc).2
      have hG := hg j f hf blk cc (by
        have := congrArg List.length hblk
        simp at this ⊢
        omega) (by omega)
      rw [← List.append_assoc] at hblk
      obtain ⟨nb, hnb⟩ : ∃ nb, nb = blk ++ (f cc).1 := ⟨_, rfl⟩
      rw [← hnb] at hG hblk
      have hw : IntKind.i64.wrap ((j : Int) + 1) = (j : Int) + 1 := wrap64_id (by omega) (by omega)
      have hnl : nb.length ≤ 90000000 := by
        have := congrArg List.length hblk
        simp at this
        omega
      refine walkGF (@bA_len) ?_
      ((refine AO.step fun K hK => ?_; simp only [go_sem, Int.reduceBEq, Int.reduceLE, Int.reduceLT, Int.reduceNeg, Nat.reduceAdd, Nat.reduceEqDiff, Nat.reduceLT, Nat.reduceLeDiff, Nat.reduceMul, Nat.reduceSub, reduceCtorEq, ↓reduceIte, bA_len, bA_ren]; (first | refine gsel_go ?_ | skip)); refine .inr (.inr (.inl ⟨?vy2, [1000000, 528, 1000002], ?va2, ?vl2, ?vm2, ?cond2, ?cont2⟩)); (case cond2 => ((repeat' apply And.intro) <;> (try ((with_reducible show ToldM _ _ _ _ _ _); exact hG))); (all_goals first | trivial | (simp only [bA_len, bA_ren, go_sem, simprocAttr]; done) | (simp; done) | rfl)); (first | refine hK _ _ _ ?_ | (simp only [bA_len, bA_ren, go_sem, simprocAttr]; first | refine hK _ _ _ ?_ | refine ⟨rfl, hK _ _ _ ?_⟩)); clear hK K)
      refine walkGF (And.intro @bA_len (And.intro @bA_ren hw)) ?_
      refine .next ⟨(j + 1, nb, (f cc).2), by simp only []; omega, by simp only []; omega, hblk, hcc⟩ ?_ (by simp only []; omega)
      simp only [bA_len, bA_sc, bA_ren, Weak, eq_self, used_is, sc_any, sc_c, sc_pp, sc_ref, sc_row, sc_agg, sc_fn, ScL, some_imp, List.forall_mem_map, go_sem, Int.reduceBEq, Int.reduceLE, Int.reduceLT, Int.reduceNeg, Nat.reduceAdd, Nat.reduceEqDiff, Nat.reduceLT, Nat.reduceLeDiff, Nat.reduceMul, Nat.reduceSub, reduceCtorEq, ↓reduceIte]
      exact ⟨cI (by omega), Nat.le_refl _, Nat.le_refl _⟩
    · have hje : j = i + n := by simp at hc2; omega
      rw [hje, Nat.sub_self, List.take_zero, seqF, List.append_nil] at hblk
      rw [hje, Nat.sub_self, List.take_zero, seqF] at hcc
      simp only [] at hblk hcc
      subst hblk hcc
      have hbl2 : (bytePV S.1).length = S.1.length := by simp [bytePV]
      refine VC.frz [528] [(0, .ref 1000000 1 0 0), (1, .row 1000001 m.length), (2, .c (.v (.int .i64 (fs.length : Int)))), (3, .fn (.func g) [] [.ref 1000002 1 0 0, .pp c1, .pp c2]), (9, .c (.v (.int .i64 (i : Int)))), (10, .c (.v (.int .i64 (n : Int)))), (11, .c (.v (.bool sized))), (12, .c (.sl 1 (bytePV S.1)))] [(1000001, ⟨true, 5, 1, bA m⟩), (1000000, ⟨false, 130, 4, [[.c (.sl 10 (ns.map NT.cells)), .c (.v (.int .i64 r)), .c (.sl 1 (cuts.map iPV)), .c (.v (.int .i64 (S.2 : Int)))]]⟩), (1000002, ⟨false, 128, 1, [[.ref 1000000 1 0 0]]⟩)] 4000 ?_ ?_
      · simp only [bA_len, bA_sc, WeakF, used_is, sc_any, sc_c, sc_pp, sc_ref, sc_row, sc_agg, sc_fn, ScL, some_imp, List.forall_mem_map, go_sem, Int.reduceBEq, Int.reduceLE, Int.reduceLT, Int.reduceNeg, Nat.reduceAdd, Nat.reduceEqDiff, Nat.reduceLT, Nat.reduceLeDiff, Nat.reduceMul, Nat.reduceSub, reduceCtorEq, ↓reduceIte]
        exact ⟨⟨.same _, .same _, .same _, .same _, .same _, .same _, .same _, .row (B := ⟨true, 5, 1, bA S.1⟩) (es := bytePV S.1) (by simp) rfl rfl (bA_len _) (bA_pv _)⟩, ⟨.same _, .same _, .same _⟩, Nat.le_refl _⟩
      have hwf : IntKind.i64.wrap ((i : Int) + (n : Int)) = ((i + n : Nat) : Int) := hwn
      have hgo : ∀ m', m' = m ++ (headB n sized S.1.length ++ S.1) → m' ++ (blkF cuts k (fs.drop (i + n)) S.2).1 = O := fun m' h => by
        rw [h, ← hm]
        simp [List.append_assoc]
      cases sized with
      | true =>
        have hV1 := vput_told m (-(n : Int)) (by omega) (by omega) (by omega)
        have hl1 := vput_len (-(n : Int)) (by omega) (by omega)
        have hl2 := vput_len (S.1.length : Int) (by omega) (by omega)
        obtain ⟨m1, hm1⟩ : ∃ m1, m1 = m ++ vput (-(n : Int)) := ⟨_, rfl⟩
        have hm1l : m1.length ≤ m.length + 10 := by rw [hm1]; simp; omega
        have hV2 := vput_told m1 (S.1.length : Int) (by omega) (by omega) (by omega)
        obtain ⟨m2, hm2⟩ : ∃ m2, m2 = m1 ++ vput (S.1.length : Int) := ⟨_, rfl⟩
        have hm2l : m2.length ≤ m1.length + 10 := by rw [hm2]; simp; omega
        obtain ⟨m3, hm3⟩ : ∃ m3, m3 = m2 ++ S.1 := ⟨_, rfl⟩
        have hg3 := hgo m3 (by rw [hm3, hm2, hm1, headB, if_pos rfl]; simp [List.append_assoc])
        have hbo : bA m2 ++ (bytePV S.1).map (fun e => e.map AV.c) = bA m3 := by rw [hm3, ← bA_app]; congr 1; exact (bA_pv S.1).symm
        have hle : m2.length + S.1.length = m3.length := by rw [hm3]; simp
        have hwn2 : IntKind.i64.wrap (0 - (n : Int)) = -(n : Int) := by rw [wrap64_id (by omega) (by omega)]; omega
        rw [← hm1] at hV1
        rw [← hm2] at hV2
        unfold bB at hV1 hV2
        refine walkBF (And.intro @bA_len (And.intro hbl2 hwn2)) ?_
        ((refine AO.step fun K hK => ?_; simp only [go_sem, Int.reduceBEq, Int.reduceLE, Int.reduceLT, Int.reduceNeg, Nat.reduceAdd, Nat.reduceEqDiff, Nat.reduceLT, Nat.reduceLeDiff, Nat.reduceMul, Nat.reduceSub, reduceCtorEq, ↓reduceIte, bA_len, bA_ren]; (first | refine gsel_go ?_ | skip)); refine .inr (.inr (.inl ⟨?vy3, [1000001], ?va3, ?vl3, ?vm3, ?cond3, ?cont3⟩)); (case cond3 => ((repeat' apply And.intro) <;> (try ((with_reducible show ToldM _ _ _ _ _ _); exact hV1))); (all_goals first | trivial | (simp only [bA_len, bA_ren, go_sem, simprocAttr]; done) | (simp; done) | rfl)); (first | refine hK _ _ _ ?_ | (simp only [bA_len, bA_ren, go_sem, simprocAttr]; first | refine hK _ _ _ ?_ | refine ⟨rfl, hK _ _ _ ?_⟩)); clear hK K)
        refine walkGF (And.intro @bA_len (And.intro @bA_ren hbl2)) ?_
        ((refine AO.step fun K hK => ?_; simp only [go_sem, Int.reduceBEq, Int.reduceLE, Int.reduceLT, Int.reduceNeg, Nat.reduceAdd, Nat.reduceEqDiff, Nat.reduceLT, Nat.reduceLeDiff, Nat.reduceMul, Nat.reduceSub, reduceCtorEq, ↓reduceIte, bA_len, bA_ren]; (first | refine gsel_go ?_ | skip)); refine .inr (.inr (.inl ⟨?vy4, [1000001], ?va4, ?vl4, ?vm4, ?cond4, ?cont4⟩)); (case cond4 => ((repeat' apply And.intro) <;> (try ((with_reducible show ToldM _ _ _ _ _ _); exact hV2))); (all_goals first | trivial | (simp only [bA_len, bA_ren, go_sem, simprocAttr]; done) | (simp; done) | rfl)); (first | refine hK _ _ _ ?_ | (simp only [bA_len, bA_ren, go_sem, simprocAttr]; first | refine hK _ _ _ ?_ | refine ⟨rfl, hK _ _ _ ?_⟩)); clear hK K)
        refine walkGF (And.intro @bA_len (And.intro @bA_ren (And.intro hbl2 (And.intro hbo (And.intro hle hwf))))) ?_
        refine .next ⟨(i + n, m3, S.2, k), by simp only []; omega, by simp only []; omega, hg3, hd⟩ ?_ (by simp only []; omega)
        simp only [bA_len, bA_sc, bA_ren, Weak, eq_self, used_is, sc_any, sc_c, sc_pp, sc_ref, sc_row, sc_agg, sc_fn, ScL, some_imp, List.forall_mem_map, go_sem, Int.reduceBEq, Int.reduceLE, Int.reduceLT, Int.reduceNeg, Nat.reduceAdd, Nat.reduceEqDiff, Nat.reduceLT, Nat.reduceLeDiff, Nat.reduceMul, Nat.reduceSub, reduceCtorEq, ↓reduceIte]
        exact Nat.le_refl _
      | false =>
        have hV1 := vput_told m (n : Int) (by omega) (by omega) (by omega)
        have hl1 := vput_len (n : Int) (by omega) (by omega)
        obtain ⟨m2, hm2⟩ : ∃ m2, m2 = m ++ vput (n : Int) := ⟨_, rfl⟩
        have hm2l : m2.length ≤ m.length + 10 := by rw [hm2]; simp; omega
        obtain ⟨m3, hm3⟩ : ∃ m3, m3 = m2 ++ S.1 := ⟨_, rfl⟩
        have hg3 := hgo m3 (by rw [hm3, hm2, headB, if_neg (by simp)]; simp [List.append_assoc])
        have hbo : bA m2 ++ (bytePV S.1).map (fun e => e.map AV.c) = bA m3 := by rw [hm3, ← bA_app]; congr 1; exact (bA_pv S.1).symm
        have hle : m2.length + S.1.length = m3.length := by rw [hm3]; simp
        have hwn2 : IntKind.i64.wrap (n : Int) = (n : Int) := wrap64_id (by omega) (by omega)
        rw [← hm2] at hV1
        unfold bB at hV1
        refine walkBF (And.intro @bA_len (And.intro hbl2 hwn2)) ?_
        ((refine AO.step fun K hK => ?_; simp only [go_sem, Int.reduceBEq, Int.reduceLE, Int.reduceLT, Int.reduceNeg, Nat.reduceAdd, Nat.reduceEqDiff, Nat.reduceLT, Nat.reduceLeDiff, Nat.reduceMul, Nat.reduceSub, reduceCtorEq, ↓reduceIte, bA_len, bA_ren]; (first | refine gsel_go ?_ | skip)); refine .inr (.inr (.inl ⟨?vy5, [1000001], ?va5, ?vl5, ?vm5, ?cond5, ?cont5⟩)); (case cond5 => ((repeat' apply And.intro) <;> (try ((with_reducible show ToldM _ _ _ _ _ _); exact hV1))); (all_goals first | trivial | (simp only [bA_len, bA_ren, go_sem, simprocAttr]; done) | (simp; done) | rfl)); (first | refine hK _ _ _ ?_ | (simp only [bA_len, bA_ren, go_sem, simprocAttr]; first | refine hK _ _ _ ?_ | refine ⟨rfl, hK _ _ _ ?_⟩)); clear hK K)
        refine walkGF (And.intro @bA_len (And.intro @bA_ren (And.intro hbl2 (And.intro hbo (And.intro hle hwf))))) ?_
        refine .next ⟨(i + n, m3, S.2, k), by simp only []; omega, by simp only []; omega, hg3, hd⟩ ?_ (by simp only []; omega)
        simp only [bA_len, bA_sc, bA_ren, Weak, eq_self, used_is, sc_any, sc_c, sc_pp, sc_ref, sc_row, sc_agg, sc_fn, ScL, some_imp, List.forall_mem_map, go_sem, Int.reduceBEq, Int.reduceLE, Int.reduceLT, Int.reduceNeg, Nat.reduceAdd, Nat.reduceEqDiff, Nat.reduceLT, Nat.reduceLeDiff, Nat.reduceMul, Nat.reduceSub, reduceCtorEq, ↓reduceIte]
        exact Nat.le_refl _
  · have hie : i = fs.length := by simp at hc; omega
    have hdr : fs.drop i = [] := by rw [hie, List.drop_length]
    have hbl : blkF cuts k (fs.drop i) d = (vput 0, d) := by
      rw [hdr]
      cases k <;> rw [blkF]
    rw [hbl] at hm hd
    simp only [] at hm hd
    subst hd
    have hml : m.length ≤ 90000000 := by
      have := congrArg List.length hm
      simp at this
      omega
    have hV := vput_told m 0 (by omega) (by decide) (by decide)
    rw [hm] at hV
    unfold bB at hV
    refine walkGF (@bA_len) ?_
    ((refine AO.step fun K hK => ?_; simp only [go_sem, Int.reduceBEq, Int.reduceLE, Int.reduceLT, Int.reduceNeg, Nat.reduceAdd, Nat.reduceEqDiff, Nat.reduceLT, Nat.reduceLeDiff, Nat.reduceMul, Nat.reduceSub, reduceCtorEq, ↓reduceIte, bA_len, bA_ren]; (first | refine gsel_go ?_ | skip)); refine .inr (.inr (.inl ⟨?vy6, [1000001], ?va6, ?vl6, ?vm6, ?cond6, ?cont6⟩)); (case cond6 => ((repeat' apply And.intro) <;> (try ((with_reducible show ToldM _ _ _ _ _ _); exact hV))); (all_goals first | trivial | (simp only [bA_len, bA_ren, go_sem, simprocAttr]; done) | (simp; done) | rfl)); (first | refine hK _ _ _ ?_ | (simp only [bA_len, bA_ren, go_sem, simprocAttr]; first | refine hK _ _ _ ?_ | refine ⟨rfl, hK _ _ _ ?_⟩)); clear hK K)
    refine walkGF (And.intro @bA_len @bA_ren) ?_
    refine ⟨by first | exact .inr rfl | exact .inl rfl, ?_⟩; rw [Tryz.results153]; simp only [bA_ren, bA_len, resOk, resV, go_sem, simprocAttr]
    exact .keepW rfl

def idxP {α : Type} (p : α → Bool) (l : List α) : Int := match l.findIdx? p with | some i => (i : Int) | none => -1
theorem idxP_at {α : Type} {p : α → Bool} {l : List α} {i : Nat} {x : α} (h : l[i]? = some x) (hx : p x = true) (h0 : ∀ j y, j < i → l[j]? = some y → p y = false) : idxP p l = (i : Int) := by
  unfold idxP
  obtain ⟨hlt, he⟩ := List.getElem?_eq_some_iff.1 h
  have : l.findIdx? p = some i := by
    rw [List.findIdx?_eq_some_iff_getElem]
    refine ⟨hlt, by rw [he]; exact hx, fun j hj => ?_⟩
    have := h0 j _ hj (List.getElem?_eq_getElem (by omega))
    simp [this]
  rw [this]
theorem idxP_none {α : Type} {p : α → Bool} {l : List α} (h0 : ∀ j y, j < l.length → l[j]? = some y → p y = false) : idxP p l = -1 := by
  unfold idxP
  have : l.findIdx? p = none := by
    rw [List.findIdx?_eq_none_iff]
    intro x hx
    obtain ⟨j, hj, he⟩ := List.getElem_of_mem hx
    exact h0 j x hj (by rw [List.getElem?_eq_getElem hj, he])
  rw [this]
theorem idxP_any {α : Type} (p : α → Bool) (l : List α) : decide (idxP p l ≥ 0) = l.any p := by
  unfold idxP
  cases h : l.findIdx? p with
  | some i =>
    have := (List.findIdx?_eq_some_iff_getElem.1 h)
    obtain ⟨h1, h2, _⟩ := this
    have h3 : l.any p = true := List.any_eq_true.2 ⟨l[i], List.getElem_mem _, h2⟩
    rw [h3]
    simp
  | none =>
    rw [List.findIdx?_eq_none_iff] at h
    have h3 : l.any p = false := List.any_eq_false.2 fun x hx => by simpa using h x hx
    rw [h3]
    rfl
theorem sc_pureL {used : Nat → Prop} {h : Nat → Option Blkd} {l : List AV} (hp : AV.pureL l = true) : (∀ x ∈ l, Sc used h x) = True := eq_true fun x hx => (pure_ofL l hp x hx).sc
theorem pureL_app (l m : List AV) : AV.pureL (l ++ m) = (AV.pureL l && AV.pureL m) := by
  induction l with
  | nil => simp [AV.pureL]
  | cons x l ih => simp [AV.pureL, ih, Bool.and_assoc]

set_option maxRecDepth 100000 in
set_option maxHeartbeats 400000 in
theorem ixfS_told {g : FuncId} {fs cs : List AV} (hp : AV.pureL fs = true) (hp' : AV.pureL cs = true) (l : List (List UInt8)) (p : List UInt8 → Bool) (hk : ∀ x ∈ l, Told Tryz.prog g (fs ++ ([.c (.v (.string (str x)))] ++ cs)) (.c (.v (.bool (p x))))) :
    Told Tryz.prog 232 [.c (.sl 1 (l.map sPV)), .fn (.func g) fs cs] (.c (.v (.int .i64 (idxP p l)))) := by
  refine VC.told ent_232 Tryz.func232 rfl Tryz.ntmps232 (by simp) (by simp [AV.pureB, AV.pureL, hp, hp']) rfl fun hb => ?_
  simp only [List.mem_cons, List.not_mem_nil, or_false, forall_eq_or_imp, forall_eq, abd_c, pbd_sl, List.length_map] at hb
  have h1 := hb.1.1
  clear hb
  refine walkG ?_
  refine VC.loop (ι := {i : Nat // i ≤ l.length ∧ ∀ j x, j < i → l[j]? = some x → p x = false}) (fun i => [(0, .c (.sl 1 (l.map sPV))), (1, .fn (.func g) fs cs), (7, .c (.v (.int .i64 l.length))), (8, .c (.v (.int .i64 i.1)))]) (fun _ => []) 0 (fun i => l.length - i.1) ⟨0, Nat.zero_le _, by intro j x hj; omega⟩ ?_ ?_
  · simp only [sc_pureL hp, sc_pureL hp', Weak, eq_self, used_is, sc_any, sc_c, sc_pp, sc_ref, sc_row, sc_agg, sc_fn, ScL, some_imp, List.forall_mem_map, go_sem, Int.reduceBEq, Int.reduceLE, Int.reduceLT, Int.reduceNeg, Nat.reduceAdd, Nat.reduceEqDiff, Nat.reduceLT, Nat.reduceLeDiff, Nat.reduceMul, Nat.reduceSub, reduceCtorEq, ↓reduceIte]
    all_goals rfl
  rintro ⟨i, hi, ht⟩
  refine walkG ?_
  refine VC.cond (by rfl) (by trivial) (fun hc => ?_) (fun hc => ?_)
  · simp only [decide_eq_true_eq] at hc
    obtain ⟨x, hx⟩ : ∃ x, l[i]? = some x := ⟨l[i]'(by omega), List.getElem?_eq_getElem _⟩
    have hw : IntKind.i64.wrap ((i : Int) + 1) = (i : Int) + 1 := wrap64_id (by omega) (by omega)
    have hkx := hk x (List.mem_of_getElem? hx)
    (repeat (first | refine pass ?_ | refine VC.region (by rfl) (by rfl) ?_ | (refine AO.step fun K hK => ?_; simp only [List.getElem?_map, hx, sPV, go_sem, Int.reduceBEq, Int.reduceLE, Int.reduceLT, Int.reduceNeg, Nat.reduceAdd, Nat.reduceEqDiff, Nat.reduceLT, Nat.reduceLeDiff, Nat.reduceMul, Nat.reduceSub, reduceCtorEq, ↓reduceIte]; (first | refine gsel_skip ?_ | refine gsel_go ?_ | skip); (first | refine hK _ _ _ ?_ | refine ⟨by first | omega | exact ⟨_, rfl, rfl⟩ | exact fun _ => ⟨_, rfl, rfl⟩ | (intro h; simp only [List.getElem?_map, hx, sPV, h, true_and]; omega) | (clear hK; intro h; simp_all <;> omega), hK _ _ _ ?_⟩); clear hK K) | refine VC.draw mixP (by rfl) (by rfl) ?_ | refine ⟨okd_of (by kernel_rfl), ?_⟩ | refine BQ.other (by decide) ?_ | refine VC.seq ?_ | refine AO.nil ?_ | refine VC.block ?_))
    ((refine AO.step fun K hK => ?_; simp only [go_sem, Int.reduceBEq, Int.reduceLE, Int.reduceLT, Int.reduceNeg, Nat.reduceAdd, Nat.reduceEqDiff, Nat.reduceLT, Nat.reduceLeDiff, Nat.reduceMul, Nat.reduceSub, reduceCtorEq, ↓reduceIte, sPV, hp, hp', pureL_app, pureL_c, List.append_assoc]; (first | refine gsel_go ?_ | skip)); refine .inl ⟨_, hkx, hK _ _ _ ?_⟩; clear hK K)
    refine walkG ?_
    refine VC.cond (by rfl) (by trivial) (fun hpx => ?_) (fun hpx => ?_)
    · have hr := idxP_at hx hpx ht
      refine walkG ?_
      refine ⟨by first | exact .inr rfl | exact .inl rfl, ?_⟩; rw [Tryz.results232]; simp only [resOk, resV, go_sem, simprocAttr]
      rw [hr]
      exact .c _
    · refine walkGF (hw) ?_
      refine .next ⟨i + 1, by omega, fun j y hj hy => ?_⟩ ?_ (by simp only []; omega)
      · rcases Nat.lt_or_ge j i with h | h
        · exact ht j y h hy
        · obtain rfl : j = i := by omega
          rw [hx] at hy
          obtain rfl := Option.some.inj hy
          exact hpx
      simp only [sc_pureL hp, sc_pureL hp', Weak, eq_self, used_is, sc_any, sc_c, sc_pp, sc_ref, sc_row, sc_agg, sc_fn, ScL, some_imp, List.forall_mem_map, go_sem, Int.reduceBEq, Int.reduceLE, Int.reduceLT, Int.reduceNeg, Nat.reduceAdd, Nat.reduceEqDiff, Nat.reduceLT, Nat.reduceLeDiff, Nat.reduceMul, Nat.reduceSub, reduceCtorEq, ↓reduceIte]
      exact cI (by omega)
  · simp only [decide_eq_false_iff_not] at hc
    obtain rfl : i = l.length := by omega
    have hr := idxP_none ht
    refine walkG ?_
    refine ⟨by first | exact .inr rfl | exact .inl rfl, ?_⟩; rw [Tryz.results232]; simp only [resOk, resV, go_sem, simprocAttr]
    rw [hr]
    exact .c _
set_option maxRecDepth 100000 in
set_option maxHeartbeats 400000 in
theorem cnfS_told {g : FuncId} {fs cs : List AV} (hp : AV.pureL fs = true) (hp' : AV.pureL cs = true) (l : List (List UInt8)) (p : List UInt8 → Bool) (hk : ∀ x ∈ l, Told Tryz.prog g (fs ++ ([.c (.v (.string (str x)))] ++ cs)) (.c (.v (.bool (p x))))) :
    Told Tryz.prog 180 [.c (.sl 1 (l.map sPV)), .fn (.func g) fs cs] (.c (.v (.bool (l.any p)))) := by
  have hi := ixfS_told hp hp' l p hk
  refine VC.told ent_180 Tryz.func180 rfl Tryz.ntmps180 (by simp) (by simp [AV.pureB, AV.pureL, hp, hp']) rfl fun hb => ?_
  clear hb
  refine walkG ?_
  refine walkCF (And.intro hp hp') (hi) ?_
  refine walkG ?_
  refine ⟨by first | exact .inr rfl | exact .inl rfl, ?_⟩; rw [Tryz.results180]; simp only [resOk, resV, go_sem, simprocAttr]
  exact frz_c (by rw [idxP_any])

theorem vbare_eq (k n b : Int) (s : List UInt8) (m : Nat) (ks : List (List UInt8)) : vbare k n b s m ks =
    (!(if (k == 2 || k == 3 || k == 4 || k == 10 || k == 13) = true then false else (n != 0)) && (!(if (k == 5 || k == 6) = true then false else (b != 0)) && (!(if (k == 7 || k == 8 || k == 14) = true then false else decide ((s.length : Int) > 0)) &&
    (!(if (k == 9 || k == 11 || k == 12 || k == 13) = true then false else decide ((m : Int) > 0)) && !(if (k == 12) = true then false else decide ((ks.length : Int) > 0)))))) := by
  have e1 : ∀ {α : Type} (l : List α), l.isEmpty = !decide ((l.length : Int) > 0) := fun l => by
    cases l with
    | nil => rfl
    | cons x l => simp
  have e2 : (m == 0) = !decide ((m : Int) > 0) := by cases m <;> simp
  unfold vbare
  rw [e1 s, e1 ks, e2]
  congr 1
  · cases (k == 2 || k == 3 || k == 4 || k == 10 || k == 13) <;> simp [bne]
  congr 1
  · cases (k == 5 || k == 6) <;> simp [bne]
  congr 1
  · cases (k == 7 || k == 8 || k == 14) <;> simp
  congr 1
  · cases (k == 9 || k == 11 || k == 12 || k == 13) <;> simp
  · cases (k == 12) <;> simp
set_option maxRecDepth 100000 in
set_option maxHeartbeats 1600000 in
theorem vbare_told (k n b : Int) (s : List UInt8) (xs : List VT) (ks : List (List UInt8)) : Told Tryz.prog 156 [(VT.mk k n b s xs ks).av] (.c (.v (.bool (vbare k n b s xs.length ks)))) := by
  obtain ⟨V, hV⟩ : ∃ V, V = vbare k n b s xs.length ks := ⟨_, rfl⟩
  rw [← hV]
  rw [vbare_eq] at hV
  rw [VT.av_eq, vcells_mk]
  refine VC.told ent_156 Tryz.func156 rfl Tryz.ntmps156 (by simp) (by first | rfl | simp [AV.pureB, AV.pureL, pureL_c, pures]) (by first | rfl | simp [AV.pureB, AV.pureL, pureL_c, pures]) fun hb => ?_
  clear hb
  refine walkGF (@bytePV_len) ?_
  obtain ⟨p1, hp1⟩ : ∃ p : Bool, p = (n != 0) := ⟨_, rfl⟩
  obtain ⟨p2, hp2⟩ : ∃ p : Bool, p = (b != 0) := ⟨_, rfl⟩
  obtain ⟨p3, hp3⟩ : ∃ p : Bool, p = decide ((s.length : Int) > 0) := ⟨_, rfl⟩
  obtain ⟨p4, hp4⟩ : ∃ p : Bool, p = decide ((xs.length : Int) > 0) := ⟨_, rfl⟩
  obtain ⟨p5, hp5⟩ : ∃ p : Bool, p = decide ((ks.length : Int) > 0) := ⟨_, rfl⟩
  rw [← hp1, ← hp2, ← hp3, ← hp4, ← hp5] at hV ⊢
  clear hp1 hp2 hp3 hp4 hp5
  rcases (by omega : k = 2 ∨ k = 3 ∨ k = 4 ∨ k = 5 ∨ k = 6 ∨ k = 7 ∨ k = 8 ∨ k = 9 ∨ k = 10 ∨ k = 11 ∨ k = 12 ∨ k = 13 ∨ k = 14 ∨ (k ≠ 2 ∧ k ≠ 3 ∧ k ≠ 4 ∧ k ≠ 5 ∧ k ≠ 6 ∧ k ≠ 7 ∧ k ≠ 8 ∧ k ≠ 9 ∧ k ≠ 10 ∧ k ≠ 11 ∧ k ≠ 12 ∧ k ≠ 13 ∧ k ≠ 14)) with rfl | rfl | rfl | rfl | rfl | rfl | rfl | rfl | rfl | rfl | rfl | rfl | rfl | hne
  rotate_left 13
  · obtain ⟨h2, h3, h4, h5, h6, h7, h8, h9, h10, h11, h12, h13, h14⟩ := hne
    have e2 : (k == 2) = false := by simpa using h2
    have e3 : (k == 3) = false := by simpa using h3
    have e4 : (k == 4) = false := by simpa using h4
    have e5 : (k == 5) = false := by simpa using h5
    have e6 : (k == 6) = false := by simpa using h6
    have e7 : (k == 7) = false := by simpa using h7
    have e8 : (k == 8) = false := by simpa using h8
    have e9 : (k == 9) = false := by simpa using h9
    have e10 : (k == 10) = false := by simpa using h10
    have e11 : (k == 11) = false := by simpa using h11
    have e12 : (k == 12) = false := by simpa using h12
    have e13 : (k == 13) = false := by simpa using h13
    have e14 : (k == 14) = false := by simpa using h14
    simp only [e2, e3, e4, e5, e6, e7, e8, e9, e10, e11, e12, e13, e14, Bool.false_or, Bool.false_eq_true, if_false] at hV
    rw [e2]
    refine walkBF (And.intro e2 (And.intro e3 (And.intro e4 (And.intro e5 (And.intro e6 (And.intro e7 (And.intro e8 (And.intro e9 (And.intro e10 (And.intro e11 (And.intro e12 (And.intro e13 e14)))))))))))) ?_
    refine ⟨by first | exact .inr rfl | exact .inl rfl, ?_⟩; rw [Tryz.results156]; simp only [resOk, resV, go_sem, simprocAttr]
    refine frz_c ?_
    rw [hV]
    simp [Bool.and_assoc]
  all_goals
    simp only [Int.reduceBEq, Bool.false_or, Bool.or_false, Bool.true_or, Bool.or_true, Bool.false_eq_true, if_false, if_true, Bool.not_false, Bool.true_and, Bool.and_true] at hV
    refine walkB ?_
    refine ⟨by first | exact .inr rfl | exact .inl rfl, ?_⟩; rw [Tryz.results156]; simp only [resOk, resV, go_sem, simprocAttr]
    refine frz_c ?_
    rw [hV]
    try simp [Bool.and_assoc]
set_option maxRecDepth 100000 in
set_option maxHeartbeats 400000 in
theorem key1_told (y : List UInt8) (hl : y.length ≤ 1000000) : Told Tryz.prog 220 [.c (.v (.string (str y)))] (.c (.v (.bool (!keyM y)))) := by
  have hR := uright_told y (by omega)
  have e : (!keyM y) = (decide ((y.length : Int) > 20000) || !isRight y) := by
    unfold keyM
    rw [Bool.not_and]
    congr 1
    rw [← decide_not]
    exact decide_eq_decide.2 (by omega)
  rw [e]
  clear e
  have hbs : bytePV (str y).data.toList = bytePV y := by rw [str_dl]
  refine VC.told ent_220 Tryz.func220 rfl Tryz.ntmps220 (by simp) (by first | rfl | simp [AV.pureB, AV.pureL, pureL_c, pures]) (by first | rfl | simp [AV.pureB, AV.pureL, pureL_c, pures]) fun hb => ?_
  clear hb
  refine walkGF (And.intro @str_size hbs) ?_
  refine walkDF (hbs) (hR) ?_
  refine walkG ?_
  refine ⟨by first | exact .inr rfl | exact .inl rfl, ?_⟩; rw [Tryz.results220]; simp only [resOk, resV, go_sem, simprocAttr]
  exact .c _
theorem any_not (ks : List (List UInt8)) : (!ks.any fun y => !keyM y) = ks.all keyM := by
  induction ks with
  | nil => rfl
  | cons y ks ih => simp only [List.any_cons, List.all_cons, Bool.not_or, Bool.not_not, ih]
set_option maxRecDepth 100000 in
set_option maxHeartbeats 400000 in
theorem vkeyed_told (ks : List (List UInt8)) (hk : ∀ y ∈ ks, y.length ≤ 1000000) : Told Tryz.prog 160 [.c (.sl 1 (ks.map sPV))] (.c (.v (.bool (ks.all keyM)))) := by
  have hC := cnfS_told (g := 220) (fs := []) (cs := []) rfl rfl ks (fun y => !keyM y) fun y hy => key1_told y (hk y hy)
  rw [← any_not]
  generalize (ks.any fun y => !keyM y) = B at hC ⊢
  refine VC.told ent_160 Tryz.func160 rfl Tryz.ntmps160 (by simp) (by first | rfl | simp [AV.pureB, AV.pureL, pureL_c, pures]) (by first | rfl | simp [AV.pureB, AV.pureL, pureL_c, pures]) fun hb => ?_
  clear hb
  refine walkG ?_
  refine walkC (hC) ?_
  refine walkG ?_
  refine ⟨by first | exact .inr rfl | exact .inl rfl, ?_⟩; rw [Tryz.results160]; simp only [resOk, resV, go_sem, simprocAttr]
  exact .c _
end
end Go.Proofs.YtllnlmchjljhlaaGreatDoor
