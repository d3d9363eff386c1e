/- Texts that lead to the law DfltValues, joined. -/
import Derived.Test.YtkaogeogjjcdhaaGreatDoorPkDfltValuesA
import Derived.Test.YtkaogeogjjcdhaaGreatDoorPkDfltValuesXAbB
import Derived.Test.YtkaogeogjjcdhaaGreatDoorShi
namespace Go.Proofs.YtkaogeogjjcdhaaGreatDoor
open Go.RowKit
set_option linter.unusedVariables false
set_option linter.unusedSimpArgs false
section
attribute [local go_sem] opx opE ev okx gcond bnd okO AV.get AV.okb cAV upd_at putd_some putd_none wrs_nil wrs_cons look_nil look_cons st argT_at bpick_and bpick_or bpick_true bpick_false binV binI binS binVOk binOk isShift binSOk unV unVOk loadV loadP cellsA zeroA Blkd.len setE grown moreA moreR moreOk eqRes pv fillA fillE putSeg AV.cellish AV.pureL AV.pureB lentL_is ex_some AV.ren AV.renL renL_c Blkd.ren rho wrM renN lentOk rhoE keepM endOk tyA_2 tyA_3 tyA_4 tyA_5 tyA_6 tyA_7 tyA_8 tyA_9 tyA_10 tyA_11 tyA_12 tyA_13 tyA_14 tyA_15 tyA_16 tyA_17 tyA_18 tyA_19 tyA_21 tyA_22 tyA_23 tyA_24 tyA_29 tyA_30 tyA_31 tyA_32 tyA_33 tyA_34 tyA_35 tyA_36 tyA_37 tyA_38 tyA_39 tyA_40 tyA_41 tyA_42 tyA_43 tyA_48 tyA_89 tyA_93 tyA_107 tyA_108 tyA_109 tyA_113 tyA_114 tyA_115 tyA_116 tyA_117 tyA_119 tyA_120 tyA_121 tyA_122 tyA_131 tyA_134 tyA_135 tyA_136 tyA_137 tyA_138 tyA_154 tyA_156 tyA_157 tyA_158 tyA_159 tyA_170 tyA_180 tyA_181 tyA_182 tyA_196 tyA_202 tyA_208 tyA_209 tyA_210 tyA_211 tyA_212 tyA_213 tyA_229 tyA_230 tyA_231 tyA_241 tyA_264 tyA_268 tyA_293 tyA_294 tyA_295 tyA_311 tyA_313 tyA_321 tyA_326 tyA_334 tyA_338 tyA_340 tyA_343 tyA_344 tyA_345 tyA_346 tyA_347 tyA_348 tyA_349 tyA_351 tyA_352 Option.map_some Option.map_none Option.getD_some Option.getD_none Option.bind_some Option.bind_none List.getElem?_cons_zero List.getElem?_cons_succ List.getElem?_nil List.getElem?_toArray List.length_cons List.length_nil List.length_map List.forall_mem_map List.map_cons List.map_nil List.drop_zero List.drop_succ_cons List.drop_nil List.take_zero List.take_succ_cons List.take_nil List.mem_cons List.not_mem_nil or_false forall_eq_or_imp forall_eq List.set_cons_zero List.set_cons_succ List.cons_append List.nil_append List.append_nil List.foldl_cons List.foldl_nil List.replicate_succ List.replicate_zero List.all_cons List.all_nil if_true if_false Bool.false_eq_true ne_eq not_false_eq_true not_true_eq_false true_and and_true and_self true_implies imp_self implies_true forall_const beq_self_eq_true Bool.and_true Bool.true_and Bool.and_false Bool.false_and Bool.or_true Bool.true_or Bool.or_false Bool.false_or Bool.not_true Bool.not_false Bool.not_eq_eq_eq_not intKindOf Value.oneCell' Int.toNat_natCast beq_true beq_false Bool.not_eq_true false_implies false_or true_or or_true Nat.zero_add Nat.add_zero decide_true decide_false Int.cast_ofNat_Int Int.toNat_zero Int.toNat_one eq_self
section
open Go.RowKit Go.Sort
set_option maxRecDepth 100000 in
set_option maxHeartbeats 400000 in
theorem valuesS_told (l : List (List UInt8)) : Told Tryz.prog 251 [.c (.sl 1 (l.map sPV))] (.fn (.func 281) [] [.pp [.sl 1 (l.map sPV)]]) := by
  refine VC.told ent_251 Tryz.func251 rfl Tryz.ntmps251 (by simp) (by first | rfl | simp [AV.pureB, AV.pureL, pureL_c, pures]) (by first | rfl | simp [AV.pureB, AV.pureL, pureL_c, pures]) fun hb => ?_
  clear hb
  refine walkG ?_
  refine ⟨by first | exact .inr rfl | exact .inl rfl, ?_⟩; rw [Tryz.results251]; simp only [resOk, resV, go_sem, Int.reduceBEq, Int.reduceLE, Int.reduceLT, Int.reduceNeg, Nat.reduceAdd, Nat.reduceEqDiff, Nat.reduceLT, Nat.reduceLeDiff, Nat.reduceMul, Nat.reduceSub, reduceCtorEq, ↓reduceIte]
  exact .fnL .nil (.cons (.refP (es := [.sl 1 (l.map sPV)]) rfl rfl rfl rfl rfl) .nil)
set_option maxRecDepth 100000 in
set_option maxHeartbeats 400000 in
theorem collect_told (l : List (List UInt8)) (hl : l.length ≤ 4294967296) : ToldM Tryz.prog 279 [.fn (.func 281) [] [.pp [.sl 1 (l.map sPV)]]] [] [some (sB l)] (.row 1000000 l.length) := by
  have h := appendSeq_told l hl
  unfold sB at h ⊢
  refine VC.toldM ent_279 [16] Tryz.func279 rfl Tryz.ntmps279 (by simp) (by simp only [ sA_len, sA_sc, ScM, zOk, inL, eq_self, used_is, sc_any, sc_c, sc_pp, sc_ref, sc_row, sc_agg, sc_tup, sc_fn, ScL, some_imp, List.forall_mem_map, Nat.le_refl, go_sem, simprocAttr]) (by simp only [ sA_len, sA_sc, ScM, zOk, inL, eq_self, used_is, sc_any, sc_c, sc_pp, sc_ref, sc_row, sc_agg, sc_tup, sc_fn, ScL, some_imp, List.forall_mem_map, Nat.le_refl, go_sem, simprocAttr]) (by simp only [ sA_len, sA_sc, ScM, zOk, inL, eq_self, used_is, sc_any, sc_c, sc_pp, sc_ref, sc_row, sc_agg, sc_tup, sc_fn, ScL, some_imp, List.forall_mem_map, Nat.le_refl, go_sem, simprocAttr]) (by simp only [ sA_len, sA_sc, ScM, zOk, inL, eq_self, used_is, sc_any, sc_c, sc_pp, sc_ref, sc_row, sc_agg, sc_tup, sc_fn, ScL, some_imp, List.forall_mem_map, Nat.le_refl, go_sem, simprocAttr]) (by simp) fun hb hbL => ?_
  clear hb hbL
  refine walkG ?_
  ((refine AO.step fun K hK => ?_; simp only [go_sem, Int.reduceBEq, Int.reduceLE, Int.reduceLT, Int.reduceNeg, Nat.reduceAdd, Nat.reduceEqDiff, Nat.reduceLT, Nat.reduceLeDiff, Nat.reduceMul, Nat.reduceSub, reduceCtorEq, ↓reduceIte, sA_ren]; (first | refine gsel_go ?_ | skip)); refine .inr (.inr (.inl ⟨?vy1, [], ?va1, ?vl1, ?vm1, ?cond1, ?cont1⟩)); (case cond1 => ((repeat' apply And.intro) <;> (try ((with_reducible show ToldM _ _ _ _ _ _); exact h))); (all_goals first | trivial | (simp only [sA_ren, go_sem, simprocAttr]; done) | (simp; done) | rfl)); (first | refine hK _ _ _ ?_ | (simp only [sA_ren, go_sem, simprocAttr]; first | refine hK _ _ _ ?_ | refine ⟨rfl, hK _ _ _ ?_⟩)); clear hK K)
  refine walkGF (And.intro @sA_ren @sA_len) ?_
  refine ⟨by first | exact .inr rfl | exact .inl rfl, ?_⟩; rw [Tryz.results279]; simp only [sA_ren, sA_len, resOk, resV, go_sem, Int.reduceBEq, Int.reduceLE, Int.reduceLT, Int.reduceNeg, Nat.reduceAdd, Nat.reduceEqDiff, Nat.reduceLT, Nat.reduceLeDiff, Nat.reduceMul, Nat.reduceSub, reduceCtorEq, ↓reduceIte]
  exact .keepW rfl
set_option maxRecDepth 100000 in
set_option maxHeartbeats 400000 in
theorem sorted_told (l : List (List UInt8)) (hl : l.length ≤ 4294967296) : ToldM Tryz.prog 250 [.fn (.func 281) [] [.pp [.sl 1 (l.map sPV)]]] [] [some (sB (srt l))] (.row 1000000 l.length) := by
  have h := collect_told l hl
  have h2 := sort_told l hl
  have hsl := srt_len l
  unfold sB at h h2 ⊢
  refine VC.toldM ent_250 [16] Tryz.func250 rfl Tryz.ntmps250 (by simp) (by simp only [ sA_len, sA_sc, hsl, ScM, zOk, inL, eq_self, used_is, sc_any, sc_c, sc_pp, sc_ref, sc_row, sc_agg, sc_tup, sc_fn, ScL, some_imp, List.forall_mem_map, Nat.le_refl, go_sem, simprocAttr]) (by simp only [ sA_len, sA_sc, hsl, ScM, zOk, inL, eq_self, used_is, sc_any, sc_c, sc_pp, sc_ref, sc_row, sc_agg, sc_tup, sc_fn, ScL, some_imp, List.forall_mem_map, Nat.le_refl, go_sem, simprocAttr]) (by simp only [ sA_len, sA_sc, hsl, ScM, zOk, inL, eq_self, used_is, sc_any, sc_c, sc_pp, sc_ref, sc_row, sc_agg, sc_tup, sc_fn, ScL, some_imp, List.forall_mem_map, Nat.le_refl, go_sem, simprocAttr]) (by simp only [ sA_len, sA_sc, hsl, ScM, zOk, inL, eq_self, used_is, sc_any, sc_c, sc_pp, sc_ref, sc_row, sc_agg, sc_tup, sc_fn, ScL, some_imp, List.forall_mem_map, Nat.le_refl, go_sem, simprocAttr]) (by simp) fun hb hbL => ?_
  clear hb hbL
  refine walkG ?_
  ((refine AO.step fun K hK => ?_; simp only [go_sem, Int.reduceBEq, Int.reduceLE, Int.reduceLT, Int.reduceNeg, Nat.reduceAdd, Nat.reduceEqDiff, Nat.reduceLT, Nat.reduceLeDiff, Nat.reduceMul, Nat.reduceSub, reduceCtorEq, ↓reduceIte, sA_ren]; (first | refine gsel_go ?_ | skip)); refine .inr (.inr (.inl ⟨?vy2, [], ?va2, ?vl2, ?vm2, ?cond2, ?cont2⟩)); (case cond2 => ((repeat' apply And.intro) <;> (try ((with_reducible show ToldM _ _ _ _ _ _); exact h))); (all_goals first | trivial | (simp only [sA_ren, go_sem, simprocAttr]; done) | (simp; done) | rfl)); (first | refine hK _ _ _ ?_ | (simp only [sA_ren, go_sem, simprocAttr]; first | refine hK _ _ _ ?_ | refine ⟨rfl, hK _ _ _ ?_⟩)); clear hK K)
  refine walkGF (And.intro @sA_ren @sA_len) ?_
  ((refine AO.step fun K hK => ?_; simp only [go_sem, Int.reduceBEq, Int.reduceLE, Int.reduceLT, Int.reduceNeg, Nat.reduceAdd, Nat.reduceEqDiff, Nat.reduceLT, Nat.reduceLeDiff, Nat.reduceMul, Nat.reduceSub, reduceCtorEq, ↓reduceIte, sA_ren]; (first | refine gsel_go ?_ | skip)); refine .inr (.inr (.inl ⟨?vy3, [16], ?va3, ?vl3, ?vm3, ?cond3, ?cont3⟩)); (case cond3 => ((repeat' apply And.intro) <;> (try ((with_reducible show ToldM _ _ _ _ _ _); exact h2))); (all_goals first | trivial | (simp only [sA_ren, go_sem, simprocAttr]; done) | (simp; done) | rfl)); (first | refine hK _ _ _ ?_ | (simp only [sA_ren, go_sem, simprocAttr]; first | refine hK _ _ _ ?_ | refine ⟨rfl, hK _ _ _ ?_⟩)); clear hK K)
  refine walkGF (And.intro @sA_ren @sA_len) ?_
  refine ⟨by first | exact .inr rfl | exact .inl rfl, ?_⟩; rw [Tryz.results250]; simp only [sA_ren, sA_len, resOk, resV, go_sem, Int.reduceBEq, Int.reduceLE, Int.reduceLT, Int.reduceNeg, Nat.reduceAdd, Nat.reduceEqDiff, Nat.reduceLT, Nat.reduceLeDiff, Nat.reduceMul, Nat.reduceSub, reduceCtorEq, ↓reduceIte]
  exact .keepW rfl
set_option maxRecDepth 100000 in
set_option maxHeartbeats 400000 in
theorem keyed1_told (s : List UInt8) (hs : s.length ≤ 140737488355328) : Told Tryz.prog 252 [.c (.v (.string (str s)))] (.c (.v (.bool (!isRight s)))) := by
  have h := uright_told s (by omega)
  refine VC.told ent_252 Tryz.func252 rfl Tryz.ntmps252 (by simp) (by first | rfl | simp [AV.pureB, AV.pureL, pureL_c, pures]) (by first | rfl | simp [AV.pureB, AV.pureL, pureL_c, pures]) fun hb => ?_
  clear hb
  refine walkGF (And.intro @str_size hs) ?_
  refine walkCF (@str_dl) (h) ?_
  refine walkG ?_
  refine ⟨by first | exact .inr rfl | exact .inl rfl, ?_⟩; rw [Tryz.results252]; simp only [resOk, resV, go_sem, Int.reduceBEq, Int.reduceLE, Int.reduceLT, Int.reduceNeg, Nat.reduceAdd, Nat.reduceEqDiff, Nat.reduceLT, Nat.reduceLeDiff, Nat.reduceMul, Nat.reduceSub, reduceCtorEq, ↓reduceIte]
  exact .c _
def jkeyed : JT → Bool
  | .mk k n s ks xs => if k ≠ 6 then ks.isEmpty else decide (ks.length = xs.length) && (decide ((Lib.compact (srt ks)).length = ks.length) && ks.all isRight)
set_option maxRecDepth 100000 in
set_option maxHeartbeats 800000 in
theorem jkeyed_told (t : JT) (ht : t.sm 4294967296) : Told Tryz.prog 199 [t.av] (.c (.v (.bool (jkeyed t)))) := by
  cases t with
  | mk k n s ks xs =>
  obtain ⟨_, hk, hks, _, _⟩ := ht
  have hV := valuesS_told ks
  have hS := sorted_told ks hk
  have hC := compact_told (srt ks) (by rw [srt_len]; exact hk)
  have hF := cnfS_told (g := 252) (fs := []) (cs := []) rfl rfl ks (fun s => !isRight s) fun s hs => keyed1_told s (by have := hks s hs; omega)
  unfold sB at hS hC
  rw [srt_len] at hC
  refine VC.told ent_199 Tryz.func199 rfl Tryz.ntmps199 (by simp) rfl rfl fun hb => ?_
  clear hb
  refine walkGF (And.intro @JT.av_eq @cells_mk) ?_
  refine VC.cond (by rfl) (by trivial) (fun h6 => ?_) (fun h6 => ?_)
  · refine walkGF (@cells_mk) ?_
    refine ⟨by first | exact .inr rfl | exact .inl rfl, ?_⟩; rw [Tryz.results199]; simp only [resOk, resV, go_sem, Int.reduceBEq, Int.reduceLE, Int.reduceLT, Int.reduceNeg, Nat.reduceAdd, Nat.reduceEqDiff, Nat.reduceLT, Nat.reduceLeDiff, Nat.reduceMul, Nat.reduceSub, reduceCtorEq, ↓reduceIte]
    refine frz_c ?_
    simp only [bne_iff_ne] at h6
    simp only [jkeyed]
    rw [if_pos h6]
    cases ks <;> simp <;> omega
  · refine walkGF (@cells_mk) ?_
    refine walkC (hV) ?_
    refine walkG ?_
    ((refine AO.step fun K hK => ?_; simp only [go_sem, Int.reduceBEq, Int.reduceLE, Int.reduceLT, Int.reduceNeg, Nat.reduceAdd, Nat.reduceEqDiff, Nat.reduceLT, Nat.reduceLeDiff, Nat.reduceMul, Nat.reduceSub, reduceCtorEq, ↓reduceIte, sA_ren]; (first | refine gsel_go ?_ | skip)); refine .inr (.inr (.inl ⟨?vy4, [], ?va4, ?vl4, ?vm4, ?cond4, ?cont4⟩)); (case cond4 => ((repeat' apply And.intro) <;> (try ((with_reducible show ToldM _ _ _ _ _ _); exact hS))); (all_goals first | trivial | (simp only [sA_ren, go_sem, simprocAttr]; done) | (simp; done) | rfl)); (first | refine hK _ _ _ ?_ | (simp only [sA_ren, go_sem, simprocAttr]; first | refine hK _ _ _ ?_ | refine ⟨rfl, hK _ _ _ ?_⟩)); clear hK K)
    simp only [bne_eq_false_iff_eq] at h6
    subst h6
    by_cases hkx : ks.length = xs.length
    · have hg : ((ks.length : Int) == (xs.length : Int)) = true := by simp [hkx]
      refine walkGF (And.intro @sA_ren (And.intro @sA_len (And.intro @cells_mk hg))) ?_
      ((refine AO.step fun K hK => ?_; simp only [go_sem, Int.reduceBEq, Int.reduceLE, Int.reduceLT, Int.reduceNeg, Nat.reduceAdd, Nat.reduceEqDiff, Nat.reduceLT, Nat.reduceLeDiff, Nat.reduceMul, Nat.reduceSub, reduceCtorEq, ↓reduceIte, sA_ren, sA_len, srt_len]; (first | refine gsel_go ?_ | skip)); refine .inr (.inr (.inl ⟨?vy5, [64], ?va5, ?vl5, ?vm5, ?cond5, ?cont5⟩)); (case cond5 => ((repeat' apply And.intro) <;> (try ((with_reducible show ToldM _ _ _ _ _ _); exact hC))); (all_goals first | trivial | (simp only [sA_ren, sA_len, srt_len, go_sem, simprocAttr]; done) | (simp; done) | rfl)); (first | refine hK _ _ _ ?_ | (simp only [sA_ren, sA_len, srt_len, go_sem, simprocAttr]; first | refine hK _ _ _ ?_ | refine ⟨rfl, hK _ _ _ ?_⟩)); clear hK K)
      refine walkGF (And.intro @sA_ren (And.intro @sA_len (And.intro @cells_mk hg))) ?_
      refine walkDF (@cells_mk) (hF) ?_
      refine walkG ?_
      refine ⟨by first | exact .inr rfl | exact .inl rfl, ?_⟩; rw [Tryz.results199]; simp only [resOk, resV, go_sem, Int.reduceBEq, Int.reduceLE, Int.reduceLT, Int.reduceNeg, Nat.reduceAdd, Nat.reduceEqDiff, Nat.reduceLT, Nat.reduceLeDiff, Nat.reduceMul, Nat.reduceSub, reduceCtorEq, ↓reduceIte]
      refine frz_c ?_
      have e1 : (!ks.any fun s => !isRight s) = ks.all isRight := by rw [List.not_any_eq_all_not]; simp
      have e2 : (((Lib.compact (srt ks)).length : Int) == (ks.length : Int)) = decide ((Lib.compact (srt ks)).length = ks.length) := by
        rw [Bool.eq_iff_iff]
        simp
        omega
      rw [e1, e2]
      simp [jkeyed, hkx]
    · have hg : ((ks.length : Int) == (xs.length : Int)) = false := by simp; omega
      refine walkGF (And.intro @sA_ren (And.intro @sA_len (And.intro @cells_mk hg))) ?_
      refine ⟨by first | exact .inr rfl | exact .inl rfl, ?_⟩; rw [Tryz.results199]; simp only [resOk, resV, go_sem, Int.reduceBEq, Int.reduceLE, Int.reduceLT, Int.reduceNeg, Nat.reduceAdd, Nat.reduceEqDiff, Nat.reduceLT, Nat.reduceLeDiff, Nat.reduceMul, Nat.reduceSub, reduceCtorEq, ↓reduceIte]
      refine frz_c ?_
      simp [jkeyed, hkx]
end

set_option maxRecDepth 100000 in
set_option maxHeartbeats 400000 in
theorem ixfJ_told {g : FuncId} {fs cs : List AV} (hp : AV.pureL fs = true) (hp' : AV.pureL cs = true) (l : List (JT)) (p : JT → Bool) (hk : ∀ x ∈ l, Told Tryz.prog g (fs ++ ([x.av] ++ cs)) (.c (.v (.bool (p x))))) :
    Told Tryz.prog 254 [.c (.sl 5 (l.map JT.cells)), .fn (.func g) fs cs] (.c (.v (.int .i64 (idxP p l)))) := by
  refine VC.told ent_254 Tryz.func254 rfl Tryz.ntmps254 (by simp) (by simp [AV.pureB, AV.pureL, hp, hp']) rfl fun hb => ?_
  simp only [List.mem_cons, List.not_mem_nil, or_false, forall_eq_or_imp, forall_eq, abd_c, pbd_sl, List.length_map] at hb
  have h1 := hb.1.1
  clear hb
  refine walkG ?_
  refine VC.loop (ι := {i : Nat // i ≤ l.length ∧ ∀ j x, j < i → l[j]? = some x → p x = false}) (fun i => [(0, .c (.sl 5 (l.map JT.cells))), (1, .fn (.func g) fs cs), (7, .c (.v (.int .i64 l.length))), (8, .c (.v (.int .i64 i.1)))]) (fun _ => []) 0 (fun i => l.length - i.1) ⟨0, Nat.zero_le _, by intro j x hj; omega⟩ ?_ ?_
  · simp only [sc_pureL hp, sc_pureL hp', Weak, eq_self, used_is, sc_any, sc_c, sc_pp, sc_ref, sc_row, sc_agg, sc_fn, ScL, some_imp, List.forall_mem_map, go_sem, Int.reduceBEq, Int.reduceLE, Int.reduceLT, Int.reduceNeg, Nat.reduceAdd, Nat.reduceEqDiff, Nat.reduceLT, Nat.reduceLeDiff, Nat.reduceMul, Nat.reduceSub, reduceCtorEq, ↓reduceIte]
    all_goals rfl
  rintro ⟨i, hi, ht⟩
  refine walkG ?_
  refine VC.cond (by rfl) (by trivial) (fun hc => ?_) (fun hc => ?_)
  · simp only [decide_eq_true_eq] at hc
    obtain ⟨x, hx⟩ : ∃ x, l[i]? = some x := ⟨l[i]'(by omega), List.getElem?_eq_getElem _⟩
    have hw : IntKind.i64.wrap ((i : Int) + 1) = (i : Int) + 1 := wrap64_id (by omega) (by omega)
    have hkx := hk x (List.mem_of_getElem? hx)
    (repeat (first | refine pass ?_ | refine VC.region (by rfl) (by rfl) ?_ | (refine AO.step fun K hK => ?_; simp only [List.getElem?_map, hx, JT.av, len_cells, take_cells, take_cellsC, go_sem, Int.reduceBEq, Int.reduceLE, Int.reduceLT, Int.reduceNeg, Nat.reduceAdd, Nat.reduceEqDiff, Nat.reduceLT, Nat.reduceLeDiff, Nat.reduceMul, Nat.reduceSub, reduceCtorEq, ↓reduceIte]; (first | refine gsel_skip ?_ | refine gsel_go ?_ | skip); (first | refine hK _ _ _ ?_ | refine ⟨by first | omega | exact ⟨_, rfl, rfl⟩ | exact fun _ => ⟨_, rfl, rfl⟩ | (intro h; simp only [List.getElem?_map, hx, JT.av, len_cells, take_cells, take_cellsC, h, true_and]; omega) | (clear hK; intro h; simp_all <;> omega), hK _ _ _ ?_⟩); clear hK K) | refine VC.draw mixP (by rfl) (by rfl) ?_ | refine ⟨okd_of (by kernel_rfl), ?_⟩ | refine BQ.other (by decide) ?_ | refine VC.seq ?_ | refine AO.nil ?_ | refine VC.block ?_))
    ((refine AO.step fun K hK => ?_; simp only [go_sem, Int.reduceBEq, Int.reduceLE, Int.reduceLT, Int.reduceNeg, Nat.reduceAdd, Nat.reduceEqDiff, Nat.reduceLT, Nat.reduceLeDiff, Nat.reduceMul, Nat.reduceSub, reduceCtorEq, ↓reduceIte, JT.av, len_cells, take_cells, take_cellsC, hp, hp', pureL_app, pureL_c, List.append_assoc]; (first | refine gsel_go ?_ | skip)); refine .inl ⟨_, hkx, hK _ _ _ ?_⟩; clear hK K)
    refine walkG ?_
    refine VC.cond (by rfl) (by trivial) (fun hpx => ?_) (fun hpx => ?_)
    · have hr := idxP_at hx hpx ht
      refine walkG ?_
      refine ⟨by first | exact .inr rfl | exact .inl rfl, ?_⟩; rw [Tryz.results254]; simp only [resOk, resV, go_sem, Int.reduceBEq, Int.reduceLE, Int.reduceLT, Int.reduceNeg, Nat.reduceAdd, Nat.reduceEqDiff, Nat.reduceLT, Nat.reduceLeDiff, Nat.reduceMul, Nat.reduceSub, reduceCtorEq, ↓reduceIte]
      rw [hr]
      exact .c _
    · refine walkGF (hw) ?_
      refine .next ⟨i + 1, by omega, fun j y hj hy => ?_⟩ ?_ (by simp only []; omega)
      · rcases Nat.lt_or_ge j i with h | h
        · exact ht j y h hy
        · obtain rfl : j = i := by omega
          rw [hx] at hy
          obtain rfl := Option.some.inj hy
          exact hpx
      simp only [sc_pureL hp, sc_pureL hp', Weak, eq_self, used_is, sc_any, sc_c, sc_pp, sc_ref, sc_row, sc_agg, sc_fn, ScL, some_imp, List.forall_mem_map, go_sem, Int.reduceBEq, Int.reduceLE, Int.reduceLT, Int.reduceNeg, Nat.reduceAdd, Nat.reduceEqDiff, Nat.reduceLT, Nat.reduceLeDiff, Nat.reduceMul, Nat.reduceSub, reduceCtorEq, ↓reduceIte]
      exact cI (by omega)
  · simp only [decide_eq_false_iff_not] at hc
    obtain rfl : i = l.length := by omega
    have hr := idxP_none ht
    refine walkG ?_
    refine ⟨by first | exact .inr rfl | exact .inl rfl, ?_⟩; rw [Tryz.results254]; simp only [resOk, resV, go_sem, Int.reduceBEq, Int.reduceLE, Int.reduceLT, Int.reduceNeg, Nat.reduceAdd, Nat.reduceEqDiff, Nat.reduceLT, Nat.reduceLeDiff, Nat.reduceMul, Nat.reduceSub, reduceCtorEq, ↓reduceIte]
    rw [hr]
    exact .c _
set_option maxRecDepth 100000 in
set_option maxHeartbeats 400000 in
theorem cnfJ_told {g : FuncId} {fs cs : List AV} (hp : AV.pureL fs = true) (hp' : AV.pureL cs = true) (l : List (JT)) (p : JT → Bool) (hk : ∀ x ∈ l, Told Tryz.prog g (fs ++ ([x.av] ++ cs)) (.c (.v (.bool (p x))))) :
    Told Tryz.prog 200 [.c (.sl 5 (l.map JT.cells)), .fn (.func g) fs cs] (.c (.v (.bool (l.any p)))) := by
  have hi := ixfJ_told hp hp' l p hk
  refine VC.told ent_200 Tryz.func200 rfl Tryz.ntmps200 (by simp) (by simp [AV.pureB, AV.pureL, hp, hp']) rfl fun hb => ?_
  clear hb
  refine walkG ?_
  refine walkCF (And.intro hp hp') (hi) ?_
  refine walkG ?_
  refine ⟨by first | exact .inr rfl | exact .inl rfl, ?_⟩; rw [Tryz.results200]; simp only [resOk, resV, go_sem, Int.reduceBEq, Int.reduceLE, Int.reduceLT, Int.reduceNeg, Nat.reduceAdd, Nat.reduceEqDiff, Nat.reduceLT, Nat.reduceLeDiff, Nat.reduceMul, Nat.reduceSub, reduceCtorEq, ↓reduceIte]
  exact frz_c (by rw [idxP_any])

def JT.kids : JT → List JT
  | .mk _ _ _ _ xs => xs
mutual
theorem sm_le {N M : Nat} (h : N ≤ M) : ∀ t : JT, t.sm N → t.sm M
  | .mk k n s ks xs => fun ⟨h1, h2, h3, h4, h5⟩ => ⟨Nat.le_trans h1 h, Nat.le_trans h2 h, fun y hy => Nat.le_trans (h3 y hy) h, Nat.le_trans h4 h, smL_le h xs h5⟩
theorem smL_le {N M : Nat} (h : N ≤ M) : ∀ xs : List JT, JT.smL N xs → JT.smL M xs
  | [] => fun _ => trivial
  | x :: xs => fun hx => ⟨sm_le h x hx.1, smL_le h xs hx.2⟩
end
mutual
def jright (d : Nat) : JT → Bool
  | .mk k n s ks xs => jbare (.mk k n s ks xs) && jkeyed (.mk k n s ks xs) && !(decide (32 ≤ d) && (decide (k = 5) || decide (k = 6))) && jrights (d + 1) xs
def jrights (d : Nat) : List JT → Bool
  | [] => true
  | x :: xs => jright d x && jrights d xs
end
theorem jrights_any (d : Nat) : ∀ xs : List JT, (!xs.any fun x => !jright d x) = jrights d xs
  | [] => rfl
  | x :: xs => by rw [jrights, ← jrights_any d xs]; simp
set_option maxRecDepth 100000 in
set_option maxHeartbeats 400000 in
theorem right1_told {x : JT} {z : Int} {b : Bool} (h0 : 0 ≤ z) (h1 : z ≤ 32) (h : Told Tryz.prog 115 [x.av, .c (.v (.int .i64 (z + 1)))] (.c (.v (.bool b)))) : Told Tryz.prog 201 [x.av, .pp [.v (.int .i64 z)]] (.c (.v (.bool (!b)))) := by
  have hw : IntKind.i64.wrap (z + 1) = z + 1 := wrap64_id (by omega) (by omega)
  refine VC.told ent_201 Tryz.func201 rfl Tryz.ntmps201 (by simp) (by simp [AV.pureB, AV.pureL, JT.av, pureL_c]) rfl fun hb => ?_
  clear hb
  refine walkGF (And.intro @JT.av_eq (And.intro @len_cells (And.intro @take_cells (And.intro @take_cellsC hw)))) ?_
  refine walkCF (And.intro @JT.av_eq (And.intro @len_cells (And.intro @take_cells (And.intro @take_cellsC (And.intro hw @pureL_c))))) (h) ?_
  refine walkG ?_
  refine ⟨by first | exact .inr rfl | exact .inl rfl, ?_⟩; rw [Tryz.results201]; simp only [resOk, resV, go_sem, Int.reduceBEq, Int.reduceLE, Int.reduceLT, Int.reduceNeg, Nat.reduceAdd, Nat.reduceEqDiff, Nat.reduceLT, Nat.reduceLeDiff, Nat.reduceMul, Nat.reduceSub, reduceCtorEq, ↓reduceIte]
  exact .c _
theorem bare_kids {k n : Int} {s : List UInt8} {ks : List (List UInt8)} {xs : List JT} (h : jbare (.mk k n s ks xs) = true) (h5 : k ≠ 5) (h6 : k ≠ 6) : xs = [] := by
  rw [jbare] at h
  split at h
  · simp at h; exact h.2
  · split at h
    · simp at h; exact h.2
    · split at h
      · simp at h; exact h.2
      · split at h
        · simp at h; exact h.1.2
        · rw [if_neg (by simp [h5, h6])] at h
          exact absurd h (by simp)
set_option maxRecDepth 100000 in
set_option maxHeartbeats 800000 in
theorem right_told : ∀ (m : Nat) (t : JT), SizeOf.sizeOf t ≤ m → t.sm 4294967296 → ∀ (d : Nat) (z : Int), d ≤ 32 → z = (d : Int) → Told Tryz.prog 115 [t.av, .c (.v (.int .i64 z))] (.c (.v (.bool (jright d t)))) := by
  intro m
  induction m with
  | zero => intro t ht; cases t; simp at ht
  | succ m ih =>
  intro t ht hsm d z hd hz
  have hB := jbare_told t (sm_le (by omega) t hsm)
  have hKy := jkeyed_told t hsm
  have hx : ∀ x ∈ t.kids, Told Tryz.prog 115 [x.av, .c (.v (.int .i64 (z + 1)))] (.c (.v (.bool (jright (d + 1) x)))) ∨ 32 ≤ d := by
    intro x hx
    by_cases h32 : 32 ≤ d
    · exact .inr h32
    · cases t with
      | mk k n s ks xs => exact .inl (ih x (by have := List.sizeOf_lt_of_mem (show x ∈ xs from hx); simp at ht; omega) (smL_mem hsm.2.2.2.2 x hx) (d + 1) (z + 1) (by omega) (by omega))
  clear ih ht hsm
  obtain ⟨V, hV⟩ : ∃ V, V = jright d t := ⟨_, rfl⟩
  rw [← hV]
  cases t with
  | mk k n s ks xs =>
  rw [jright] at hV
  replace hx : ∀ x ∈ xs, _ := hx
  obtain ⟨b1, hb1⟩ : ∃ b1, b1 = jbare (.mk k n s ks xs) := ⟨_, rfl⟩
  obtain ⟨b2, hb2⟩ : ∃ b2, b2 = jkeyed (.mk k n s ks xs) := ⟨_, rfl⟩
  rw [← hb1] at hB hV
  rw [← hb2] at hKy hV
  simp only [JT.av, cells_mk, List.map_cons, List.map_nil] at hB hKy
  refine VC.told ent_115 Tryz.func115 rfl Tryz.ntmps115 (by simp) rfl rfl fun hb => ?_
  clear hb
  refine walkGF (And.intro @JT.av_eq @cells_mk) ?_
  refine walkCF (And.intro @JT.av_eq @cells_mk) (hB) ?_
  refine walkGF (And.intro @JT.av_eq @cells_mk) ?_
  refine walkDF (And.intro @JT.av_eq @cells_mk) (hKy) ?_
  refine walkGF (And.intro @JT.av_eq @cells_mk) ?_
  refine VC.cond (by rfl) (by trivial) (fun hc => ?_) (fun hc => ?_)
  · have hVf : V = false := by
      rw [hV]
      cases b1 <;> cases b2 <;> simp_all
      omega
    rw [hVf]
    refine walkG ?_
    refine ⟨by first | exact .inr rfl | exact .inl rfl, ?_⟩; rw [Tryz.results115]; simp only [resOk, resV, go_sem, Int.reduceBEq, Int.reduceLE, Int.reduceLT, Int.reduceNeg, Nat.reduceAdd, Nat.reduceEqDiff, Nat.reduceLT, Nat.reduceLeDiff, Nat.reduceMul, Nat.reduceSub, reduceCtorEq, ↓reduceIte]
    exact .c _
  · have hb12 : b1 = true ∧ b2 = true ∧ (32 ≤ d → k ≠ 5 ∧ k ≠ 6) := by
      cases b1 <;> cases b2 <;> simp_all
      intro h32
      exact hc (by omega)
    obtain ⟨rfl, rfl, hk56⟩ := hb12
    have hx2 : ∀ x ∈ xs, Told Tryz.prog 115 [x.av, .c (.v (.int .i64 (z + 1)))] (.c (.v (.bool (jright (d + 1) x)))) := by
      intro x hxm
      rcases hx x hxm with h | h
      · exact h
      · obtain ⟨h5, h6⟩ := hk56 h
        rw [bare_kids hb1.symm h5 h6] at hxm
        simp at hxm
    have hVt : V = jrights (d + 1) xs := by
      rw [hV]
      by_cases h32 : 32 ≤ d
      · obtain ⟨h5, h6⟩ := hk56 h32
        simp [h5, h6]
      · simp [h32]
    have hF := cnfJ_told (g := 201) (fs := []) (cs := [.pp [.v (.int .i64 z)]]) rfl rfl xs (fun x => !jright (d + 1) x) fun x hxm => right1_told (by omega) (by omega) (hx2 x hxm)
    refine VC.skip ?_; refine SQ.normal ?_
    refine VC.frz [8] [(2, .ref 0 1 0 0), (3, .pp [.v (.int .i64 z)])] [(0, ⟨false, 36, 5, [(JT.mk k n s ks xs).cells.map .c]⟩)] 400 ?_ ?_
    · simp only [cells_mk, WeakF, used_is, sc_any, sc_c, sc_pp, sc_ref, sc_row, sc_agg, sc_fn, ScL, some_imp, List.forall_mem_map, go_sem, Int.reduceBEq, Int.reduceLE, Int.reduceLT, Int.reduceNeg, Nat.reduceAdd, Nat.reduceEqDiff, Nat.reduceLT, Nat.reduceLeDiff, Nat.reduceMul, Nat.reduceSub, reduceCtorEq, ↓reduceIte]
      exact ⟨⟨.same _, .ref (es := [.v (.int .i64 z)]) (by simp) rfl rfl rfl rfl⟩, .same _⟩
    refine walkGF (@cells_mk) ?_
    refine walkCF (@cells_mk) (hF) ?_
    refine walkG ?_
    refine ⟨by first | exact .inr rfl | exact .inl rfl, ?_⟩; rw [Tryz.results115]; simp only [resOk, resV, go_sem, Int.reduceBEq, Int.reduceLE, Int.reduceLT, Int.reduceNeg, Nat.reduceAdd, Nat.reduceEqDiff, Nat.reduceLT, Nat.reduceLeDiff, Nat.reduceMul, Nat.reduceSub, reduceCtorEq, ↓reduceIte]
    rw [hVt, ← jrights_any]
    exact .c _
def jR (t : JT) : Bool := jright 0 t
set_option maxRecDepth 100000 in
set_option maxHeartbeats 400000 in
theorem jRight_told (t : JT) (ht : t.sm 4294967296) : Told Tryz.prog 76 [t.av] (.c (.v (.bool (jR t)))) := by
  have h := right_told _ t (Nat.le_refl _) ht 0 0 (by omega) rfl
  refine VC.told ent_76 Tryz.func76 rfl Tryz.ntmps76 (by simp) (by simp [AV.pureB, AV.pureL, JT.av, pureL_c]) rfl fun hb => ?_
  clear hb
  refine walkGF (And.intro @JT.av_eq (And.intro @len_cells (And.intro @take_cells @take_cellsC))) ?_
  refine walkCF (And.intro @JT.av_eq (And.intro @len_cells (And.intro @take_cells (And.intro @take_cellsC @pureL_c)))) (h) ?_
  refine walkG ?_
  refine ⟨by first | exact .inr rfl | exact .inl rfl, ?_⟩; rw [Tryz.results76]; simp only [resOk, resV, go_sem, Int.reduceBEq, Int.reduceLE, Int.reduceLT, Int.reduceNeg, Nat.reduceAdd, Nat.reduceEqDiff, Nat.reduceLT, Nat.reduceLeDiff, Nat.reduceMul, Nat.reduceSub, reduceCtorEq, ↓reduceIte]
  exact .c _
end

theorem nodup_of {ks : List (List UInt8)} (h : (Lib.compact (srt ks)).length = ks.length) : ks.Nodup := by
  have hperm : (srt ks).Perm ks := List.mergeSort_perm ks _
  have hlen := srt_len ks
  have hsort : (srt ks).Pairwise fun a b => a ≤ b := by
    have := List.pairwise_mergeSort (le := fun x y : List UInt8 => decide (x ≤ y)) (fun a b c h1 h2 => by simp only [decide_eq_true_eq] at h1 h2 ⊢; exact List.le_trans h1 h2) (fun a b => by simp only [Bool.or_eq_true, decide_eq_true_eq]; exact List.le_total a b) ks
    exact this.imp fun h => by simpa using h
  generalize srt ks = L at h hperm hlen hsort
  refine hperm.nodup_iff.1 ?_
  have hk : ∀ j, j < L.length → Lib.keeps L.toArray j = true := by
    rw [← hlen] at h
    unfold Lib.compact Lib.compactUpTo at h
    rw [List.length_map] at h
    have h2 : ((List.range L.length).filter (Lib.keeps L.toArray)).length = (List.range L.length).length := by rw [h, List.length_range]
    intro j hj
    exact List.length_filter_eq_length_iff.1 h2 j (List.mem_range.2 hj)
  rw [List.nodup_iff_pairwise_ne, List.pairwise_iff_getElem]
  intro i j hi hj hij heq
  have h1 := List.pairwise_iff_getElem.1 hsort
  have hk1 := hk (i + 1) (by omega)
  have hle1 := h1 i (i + 1) hi (by omega) (by omega)
  have hle2 : L[i + 1]'(by omega) ≤ L[j] := by
    rcases Nat.lt_or_ge (i + 1) j with h2 | h2
    · exact h1 (i + 1) j (by omega) hj h2
    · have : i + 1 = j := by omega
      subst this
      exact List.le_refl _
  rw [← heq] at hle2
  have he := List.le_antisymm hle1 hle2
  unfold Lib.keeps at hk1
  have g1 : L.toArray[i + 1]! = L[i + 1]'(by omega) := by simp [show i + 1 < L.length by omega]
  have g2 : L.toArray[i + 1 - 1]! = L[i] := by simp [hi]
  rw [g1, g2, he] at hk1
  simp at hk1
theorem compact_nodup {ks : List (List UInt8)} (h : ks.Nodup) : (Lib.compact (srt ks)).length = ks.length := by
  have hperm : (srt ks).Perm ks := List.mergeSort_perm ks _
  have hlen := srt_len ks
  have hnd := hperm.nodup_iff.2 h
  generalize srt ks = L at hperm hlen hnd ⊢
  have hk : ∀ j, j < L.length → Lib.keeps L.toArray j = true := by
    intro j hj
    unfold Lib.keeps
    by_cases h0 : j = 0
    · simp [h0]
    · have g1 : L.toArray[j]! = L[j] := by simp [hj]
      have g2 : L.toArray[j - 1]! = L[j - 1]'(by omega) := by simp [show j - 1 < L.length by omega]
      rw [g1, g2]
      have := List.pairwise_iff_getElem.1 (List.nodup_iff_pairwise_ne.1 hnd) (j - 1) j (by omega) hj (by omega)
      exact decide_eq_true (.inr fun e => this e.symm)
  unfold Lib.compact Lib.compactUpTo
  rw [List.length_map, List.length_filter_eq_length_iff.2 fun j hj => hk j (List.mem_range.1 hj), List.length_range, hlen]

def rfail : JT → Bool
  | .mk k n s ks xs => decide (k < 1) || decide (k > 6) || (decide (k ≠ 2) && decide (k ≠ 3) && decide (n ≠ 0)) || (decide (k = 2) && decide (n ≠ 0) && decide (n ≠ 1)) || (decide (k ≠ 4) && !s.isEmpty) || !isRight s
      || (decide (k < 5) && !xs.isEmpty) || (decide (k ≠ 6) && !ks.isEmpty) || (decide (k = 6) && decide (ks.length ≠ xs.length))
mutual
def rshape : JT → Bool
  | .mk k n s ks xs => !rfail (.mk k n s ks xs) && (ks.all isRight && decide ks.Nodup) && rshapes xs
def rshapes : List JT → Bool
  | [] => true
  | x :: xs => rshape x && rshapes xs
end
theorem right_empty : isRight [] = true := by decide +kernel
theorem deeps_le (m : Nat) : ∀ (xs : List JT) (n : Nat), tdeeps n xs ≤ m ↔ n ≤ m ∧ ∀ x ∈ xs, 1 + tdeep x ≤ m
  | [], n => by simp [tdeeps]
  | x :: xs, n => by
    rw [tdeeps, deeps_le m xs]
    simp only [List.mem_cons, forall_eq_or_imp]
    constructor
    · rintro ⟨h1, h2⟩; exact ⟨by omega, by omega, h2⟩
    · rintro ⟨h1, h2, h3⟩; exact ⟨by omega, h3⟩
theorem keyed_iff {k n : Int} {s : List UInt8} {ks : List (List UInt8)} {xs : List JT} : jkeyed (.mk k n s ks xs) = ((if k ≠ 6 then ks.isEmpty else decide (ks.length = xs.length)) && (ks.all isRight && decide ks.Nodup)) := by
  rw [jkeyed]
  by_cases h6 : k = 6
  · rw [if_neg (by simp [h6]), if_neg (by simp [h6])]
    have : decide ((Lib.compact (srt ks)).length = ks.length) = decide ks.Nodup := by
      rw [Bool.eq_iff_iff]
      simp only [decide_eq_true_eq]
      exact ⟨nodup_of, compact_nodup⟩
    rw [this, Bool.and_comm (ks.all isRight)]
  · rw [if_pos h6, if_pos h6]
    cases ks with
    | nil => simp
    | cons y ks => simp
theorem bare_iff (k n : Int) (s : List UInt8) (ks : List (List UInt8)) (xs : List JT) : (jbare (.mk k n s ks xs) && (if k ≠ 6 then ks.isEmpty else decide (ks.length = xs.length))) = !rfail (.mk k n s ks xs) := by
  rw [Bool.eq_iff_iff]
  unfold rfail
  rw [jbare]
  have hr := right_empty
  by_cases h1 : k = 1
  · subst h1; cases s <;> cases xs <;> cases ks <;> simp [hr]
  by_cases h2 : k = 2
  · subst h2; cases s <;> cases xs <;> cases ks <;> simp [hr]
    all_goals omega
  by_cases h3 : k = 3
  · subst h3; cases s <;> cases xs <;> cases ks <;> simp [hr]
  by_cases h4 : k = 4
  · subst h4; cases s <;> cases xs <;> cases ks <;> simp [hr]
  by_cases h5 : k = 5
  · subst h5; cases s <;> cases xs <;> cases ks <;> simp [hr]
  by_cases h6 : k = 6
  · subst h6; cases s <;> cases xs <;> cases ks <;> simp [hr]
  · have : k < 1 ∨ k > 6 := by omega
    simp [h1, h2, h3, h4, h5, h6, this]
    omega
mutual
theorem right_shape (d : Nat) (hd : d ≤ 32) : ∀ t : JT, jright d t = (decide (d + tdeep t ≤ 32) && rshape t)
  | .mk k n s ks xs => by
    rw [jright, rshape, keyed_iff, ← bare_iff, tdeep]
    by_cases hb : jbare (.mk k n s ks xs) = true
    · by_cases h56 : k = 5 ∨ k = 6
      · rw [if_pos h56]
        by_cases h32 : d = 32
        · subst h32
          have := (deeps_le 0 xs 1)
          have h1 : ¬ 32 + tdeeps 1 xs ≤ 32 := by
            intro h
            have := (deeps_le 0 xs 1).1 (by omega)
            omega
          rw [Bool.eq_iff_iff]
          simp [h1]
          omega
        · rw [rights_shapes (d + 1) (by omega) xs]
          have h2 : decide (d + tdeeps 1 xs ≤ 32) = (xs.all fun x => decide (d + 1 + tdeep x ≤ 32)) := by
            rw [Bool.eq_iff_iff]
            simp only [decide_eq_true_eq, List.all_eq_true]
            have := deeps_le (32 - d) xs 1
            constructor
            · intro h x hx
              have := (this.1 (by omega)).2 x hx
              omega
            · intro h
              have := this.2 ⟨by omega, fun x hx => by have := h x hx; omega⟩
              omega
          have h3 : decide (32 ≤ d) = false := by simp; omega
          rw [h2, hb, h3]
          simp only [Bool.false_and, Bool.not_false, Bool.and_true, Bool.true_and]
          generalize (xs.all fun x => decide (d + 1 + tdeep x ≤ 32)) = A
          generalize ((if k ≠ 6 then ks.isEmpty else decide (ks.length = xs.length)) && (ks.all isRight && decide ks.Nodup)) = Z
          cases A <;> cases Z <;> simp
      · rw [if_neg h56, bare_kids hb (fun h => h56 (.inl h)) (fun h => h56 (.inr h))]
        have h5 : decide (k = 5) = false := by simp; exact fun h => h56 (.inl h)
        have h6 : decide (k = 6) = false := by simp; exact fun h => h56 (.inr h)
        rw [h5, h6]
        simp [jrights, rshapes, hd, Bool.and_assoc]
    · simp [hb]
theorem rights_shapes (d : Nat) (hd : d ≤ 32) : ∀ xs : List JT, jrights d xs = ((xs.all fun x => decide (d + tdeep x ≤ 32)) && rshapes xs)
  | [] => rfl
  | x :: xs => by
    rw [jrights, rshapes, right_shape d hd x, rights_shapes d hd xs, List.all_cons]
    cases decide (d + tdeep x ≤ 32) <;> cases rshape x <;> simp
end
theorem jR_shape (t : JT) : jR t = (decide (tdeep t ≤ 32) && rshape t) := by
  unfold jR
  rw [right_shape 0 (by omega) t, Nat.zero_add]
section
attribute [local go_sem] opx opE ev okx gcond bnd okO AV.get AV.okb cAV upd_at putd_some putd_none wrs_nil wrs_cons look_nil look_cons st argT_at bpick_and bpick_or bpick_true bpick_false binV binI binS binVOk binOk isShift binSOk unV unVOk loadV loadP cellsA zeroA Blkd.len setE grown moreA moreR moreOk eqRes pv fillA fillE putSeg AV.cellish AV.pureL AV.pureB lentL_is ex_some AV.ren AV.renL renL_c Blkd.ren rho wrM renN lentOk rhoE keepM endOk tyA_2 tyA_3 tyA_4 tyA_5 tyA_6 tyA_7 tyA_8 tyA_9 tyA_10 tyA_11 tyA_12 tyA_13 tyA_14 tyA_15 tyA_16 tyA_17 tyA_18 tyA_19 tyA_21 tyA_22 tyA_23 tyA_24 tyA_29 tyA_30 tyA_31 tyA_32 tyA_33 tyA_34 tyA_35 tyA_36 tyA_37 tyA_38 tyA_39 tyA_40 tyA_41 tyA_42 tyA_43 tyA_48 tyA_89 tyA_93 tyA_107 tyA_108 tyA_109 tyA_113 tyA_114 tyA_115 tyA_116 tyA_117 tyA_119 tyA_120 tyA_121 tyA_122 tyA_131 tyA_134 tyA_135 tyA_136 tyA_137 tyA_138 tyA_154 tyA_156 tyA_157 tyA_158 tyA_159 tyA_170 tyA_180 tyA_181 tyA_182 tyA_196 tyA_202 tyA_208 tyA_209 tyA_210 tyA_211 tyA_212 tyA_213 tyA_229 tyA_230 tyA_231 tyA_241 tyA_264 tyA_268 tyA_293 tyA_294 tyA_295 tyA_311 tyA_313 tyA_321 tyA_326 tyA_334 tyA_338 tyA_340 tyA_343 tyA_344 tyA_345 tyA_346 tyA_347 tyA_348 tyA_349 tyA_351 tyA_352 Option.map_some Option.map_none Option.getD_some Option.getD_none Option.bind_some Option.bind_none List.getElem?_cons_zero List.getElem?_cons_succ List.getElem?_nil List.getElem?_toArray List.length_cons List.length_nil List.length_map List.forall_mem_map List.map_cons List.map_nil List.drop_zero List.drop_succ_cons List.drop_nil List.take_zero List.take_succ_cons List.take_nil List.mem_cons List.not_mem_nil or_false forall_eq_or_imp forall_eq List.set_cons_zero List.set_cons_succ List.cons_append List.nil_append List.append_nil List.foldl_cons List.foldl_nil List.replicate_succ List.replicate_zero List.all_cons List.all_nil if_true if_false Bool.false_eq_true ne_eq not_false_eq_true not_true_eq_false true_and and_true and_self true_implies imp_self implies_true forall_const beq_self_eq_true Bool.and_true Bool.true_and Bool.and_false Bool.false_and Bool.or_true Bool.true_or Bool.or_false Bool.false_or Bool.not_true Bool.not_false Bool.not_eq_eq_eq_not intKindOf Value.oneCell' Int.toNat_natCast beq_true beq_false Bool.not_eq_true false_implies false_or true_or or_true Nat.zero_add Nat.add_zero decide_true decide_false Int.cast_ofNat_Int Int.toNat_zero Int.toNat_one eq_self

theorem taken_next {α : Type} [DecidableEq α] {ks ls : List α} {i : Nat} {x y : α} (hx : ks[i]? = some x) (hy : ls[i]? = some y) (ht : ks.take i = ls.take i) : ks.take (i + 1) = ls.take (i + 1) ↔ x = y := by
  rw [List.take_add_one, List.take_add_one, hx, hy, ht]
  simp
set_option maxRecDepth 100000 in
set_option maxHeartbeats 400000 in
theorem sequal_told (ks ls : List (List UInt8)) : Told Tryz.prog 66 [.c (.sl 1 (ks.map sPV)), .c (.sl 1 (ls.map sPV))] (.c (.v (.bool (ks == ls)))) := by
  refine VC.told ent_66 Tryz.func66 rfl Tryz.ntmps66 (by simp) rfl rfl fun hb => ?_
  simp only [abd_c, pbd_sl, List.mem_cons, List.not_mem_nil, or_false, forall_eq_or_imp, forall_eq, List.length_map] at hb
  have h1 := hb.1.1
  have h2 := hb.2.1
  clear hb
  refine walkG ?_
  refine VC.cond (by rfl) (by trivial) (fun hc => ?_) (fun hc => ?_)
  · have hne : (ks == ls) = false := by
      rw [beq_eq_false_iff_ne]
      intro e
      subst e
      simp at hc
    refine walkG ?_
    refine ⟨.inr rfl, ?_⟩
    rw [Tryz.results66, hne]
    simp only [resOk, resV, go_sem, Int.reduceBEq, Int.reduceLE, Int.reduceLT, Int.reduceNeg, Nat.reduceAdd, Nat.reduceEqDiff, Nat.reduceLT, Nat.reduceLeDiff, Nat.reduceMul, Nat.reduceSub, reduceCtorEq, ↓reduceIte]
    exact .c _
  · have hlen : ks.length = ls.length := by
      simp at hc
      omega
    refine walkG ?_
    refine VC.loop (ι := {i : Nat // i ≤ ks.length ∧ ks.take i = ls.take i}) (fun i => [(0, .c (.sl 1 (ks.map sPV))), (1, .c (.sl 1 (ls.map sPV))), (12, .c (.v (.int .i64 ks.length))), (13, .c (.v (.int .i64 i.1)))]) (fun _ => []) 0 (fun i => ks.length - i.1) ⟨0, Nat.zero_le _, rfl⟩ ?_ ?_
    · simp only [Weak, eq_self, used_is, sc_any, sc_c, sc_pp, sc_ref, sc_row, sc_agg, sc_fn, ScL, some_imp, List.forall_mem_map, go_sem, Int.reduceBEq, Int.reduceLE, Int.reduceLT, Int.reduceNeg, Nat.reduceAdd, Nat.reduceEqDiff, Nat.reduceLT, Nat.reduceLeDiff, Nat.reduceMul, Nat.reduceSub, reduceCtorEq, ↓reduceIte]
      all_goals rfl
    rintro ⟨i, hi, ht⟩
    refine walkG ?_
    refine VC.cond (by rfl) (by trivial) (fun hc => ?_) (fun hc => ?_)
    · simp only [decide_eq_true_eq] at hc
      obtain ⟨x, hx⟩ : ∃ x, ks[i]? = some x := ⟨ks[i], List.getElem?_eq_getElem (by omega)⟩
      obtain ⟨y, hy⟩ : ∃ y, ls[i]? = some y := ⟨ls[i], List.getElem?_eq_getElem (by omega)⟩
      have hw : IntKind.i64.wrap ((i : Int) + 1) = (i : Int) + 1 := wrap64_id (by omega) (by omega)
      have htn := taken_next hx hy ht
      (repeat (first | refine pass ?_ | refine VC.region (by rfl) (by rfl) ?_ | (refine AO.step fun K hK => ?_; simp only [List.getElem?_map, hx, hy, sPV, str_toList, go_sem, Int.reduceBEq, Int.reduceLE, Int.reduceLT, Int.reduceNeg, Nat.reduceAdd, Nat.reduceEqDiff, Nat.reduceLT, Nat.reduceLeDiff, Nat.reduceMul, Nat.reduceSub, reduceCtorEq, ↓reduceIte]; (first | refine gsel_skip ?_ | refine gsel_go ?_ | skip); (first | refine hK _ _ _ ?_ | refine ⟨by first | omega | exact ⟨_, rfl, rfl⟩ | exact fun _ => ⟨_, rfl, rfl⟩ | (intro h; simp only [List.getElem?_map, hx, hy, sPV, str_toList, h, true_and]; omega) | (clear hK; intro h; simp_all <;> omega), hK _ _ _ ?_⟩); clear hK K) | refine VC.draw mixP (by rfl) (by rfl) ?_ | refine ⟨okd_of (by kernel_rfl), ?_⟩ | refine BQ.other (by decide) ?_ | refine VC.seq ?_ | refine AO.nil ?_ | refine VC.block ?_))
      refine VC.cond (by rfl) (by trivial) (fun hc2 => ?_) (fun hc2 => ?_)
      · have hne : (ks == ls) = false := by
          rw [beq_eq_false_iff_ne]
          intro e
          subst e
          rw [hx] at hy
          obtain rfl := Option.some.inj hy
          simp at hc2
        refine walkG ?_
        refine ⟨.inr rfl, ?_⟩
        rw [Tryz.results66, hne]
        simp only [resOk, resV, go_sem, Int.reduceBEq, Int.reduceLE, Int.reduceLT, Int.reduceNeg, Nat.reduceAdd, Nat.reduceEqDiff, Nat.reduceLT, Nat.reduceLeDiff, Nat.reduceMul, Nat.reduceSub, reduceCtorEq, ↓reduceIte]
        exact .c _
      · have hxy : x = y := by simpa using hc2
        refine walkGF (hw) ?_
        refine .next ⟨i + 1, by omega, htn.2 hxy⟩ ?_ (by simp only []; omega)
        simp only [Weak, eq_self, used_is, sc_any, sc_c, sc_pp, sc_ref, sc_row, sc_agg, sc_fn, ScL, some_imp, List.forall_mem_map, go_sem, Int.reduceBEq, Int.reduceLE, Int.reduceLT, Int.reduceNeg, Nat.reduceAdd, Nat.reduceEqDiff, Nat.reduceLT, Nat.reduceLeDiff, Nat.reduceMul, Nat.reduceSub, reduceCtorEq, ↓reduceIte]
        exact cI (by omega)
    · simp only [decide_eq_false_iff_not] at hc
      obtain rfl : i = ks.length := by omega
      have heq : (ks == ls) = true := by
        rw [List.take_length, hlen, List.take_length] at ht
        simp [ht]
      refine walkG ?_
      refine ⟨.inr rfl, ?_⟩
      rw [Tryz.results66, heq]
      simp only [resOk, resV, go_sem, Int.reduceBEq, Int.reduceLE, Int.reduceLT, Int.reduceNeg, Nat.reduceAdd, Nat.reduceEqDiff, Nat.reduceLT, Nat.reduceLeDiff, Nat.reduceMul, Nat.reduceSub, reduceCtorEq, ↓reduceIte]
      exact .c _
noncomputable def jeq (a b : JT) : Bool := @decide (a = b) (Classical.propDecidable _)
theorem jeq_iff (a b : JT) : jeq a b = true ↔ a = b := by simp [jeq]
theorem jeq_self (a : JT) : jeq a a = true := (jeq_iff a a).2 rfl
noncomputable def jeqL (a b : List JT) : Bool := @decide (a = b) (Classical.propDecidable _)
theorem jeqL_iff (a b : List JT) : jeqL a b = true ↔ a = b := by simp [jeqL]
theorem jeqL_false (a b : List JT) : jeqL a b = false ↔ a ≠ b := by simp [jeqL]
theorem jeq_mk (k n k' n' : Int) (s s' : List UInt8) (ks ks' : List (List UInt8)) (xs xs' : List JT) : jeq (.mk k n s ks xs) (.mk k' n' s' ks' xs') = ((((k == k' && n == n') && s == s') && ks == ks') && jeqL xs xs') := by
  rw [Bool.eq_iff_iff]
  simp only [jeq_iff, Bool.and_eq_true, beq_iff_eq, jeqL_iff, JT.mk.injEq]
  constructor
  · rintro ⟨rfl, rfl, rfl, rfl, rfl⟩; simp
  · rintro ⟨⟨⟨⟨rfl, rfl⟩, rfl⟩, rfl⟩, rfl⟩; simp
set_option maxRecDepth 100000 in
set_option maxHeartbeats 400000 in
theorem eqfunc_told (xs ys : List JT) (hcall : ∀ x ∈ xs, ∀ y, Told Tryz.prog 104 [x.av, y.av] (.c (.v (.bool (jeq x y))))) :
    Told Tryz.prog 188 [.c (.sl 5 (xs.map JT.cells)), .c (.sl 5 (ys.map JT.cells)), .fn (.func 104) [] []] (.c (.v (.bool (jeqL xs ys)))) := by
  refine VC.told ent_188 Tryz.func188 rfl Tryz.ntmps188 (by simp) rfl rfl fun hb => ?_
  simp only [abd_c, pbd_sl, List.mem_cons, List.not_mem_nil, or_false, forall_eq_or_imp, forall_eq, List.length_map] at hb
  have h1 := hb.1.1
  have h2 := hb.2.1.1
  clear hb
  refine walkG ?_
  refine VC.cond (by rfl) (by trivial) (fun hc => ?_) (fun hc => ?_)
  · have hne : jeqL xs ys = false := by
      rw [jeqL_false]
      intro e
      subst e
      simp at hc
    refine walkG ?_
    refine ⟨.inr rfl, ?_⟩
    rw [Tryz.results188, hne]
    simp only [resOk, resV, go_sem, Int.reduceBEq, Int.reduceLE, Int.reduceLT, Int.reduceNeg, Nat.reduceAdd, Nat.reduceEqDiff, Nat.reduceLT, Nat.reduceLeDiff, Nat.reduceMul, Nat.reduceSub, reduceCtorEq, ↓reduceIte]
    exact .c _
  · have hlen : xs.length = ys.length := by
      simp at hc
      omega
    refine walkG ?_
    refine VC.loop (ι := {i : Nat // i ≤ xs.length ∧ xs.take i = ys.take i}) (fun i => [(1, .c (.sl 5 (ys.map JT.cells))), (2, .fn (.func 104) [] []), (15, .c (.sl 5 (xs.map JT.cells))), (16, .c (.v (.int .i64 xs.length))), (17, .c (.v (.int .i64 i.1)))]) (fun _ => []) 0 (fun i => xs.length - i.1) ⟨0, Nat.zero_le _, rfl⟩ ?_ ?_
    · simp only [Weak, eq_self, used_is, sc_any, sc_c, sc_pp, sc_ref, sc_row, sc_agg, sc_fn, ScL, some_imp, List.forall_mem_map, go_sem, Int.reduceBEq, Int.reduceLE, Int.reduceLT, Int.reduceNeg, Nat.reduceAdd, Nat.reduceEqDiff, Nat.reduceLT, Nat.reduceLeDiff, Nat.reduceMul, Nat.reduceSub, reduceCtorEq, ↓reduceIte]
      all_goals rfl
    rintro ⟨i, hi, ht⟩
    refine walkG ?_
    refine VC.cond (by rfl) (by trivial) (fun hc => ?_) (fun hc => ?_)
    · simp only [decide_eq_true_eq] at hc
      obtain ⟨x, hx⟩ : ∃ x, xs[i]? = some x := ⟨xs[i], List.getElem?_eq_getElem (by omega)⟩
      obtain ⟨y, hy⟩ : ∃ y, ys[i]? = some y := ⟨ys[i], List.getElem?_eq_getElem (by omega)⟩
      have hw : IntKind.i64.wrap ((i : Int) + 1) = (i : Int) + 1 := wrap64_id (by omega) (by omega)
      have hcl := hcall x (List.mem_of_getElem? hx) y
      (repeat (first | refine pass ?_ | refine VC.region (by rfl) (by rfl) ?_ | (refine AO.step fun K hK => ?_; simp only [List.getElem?_map, hx, hy, len_cells, take_cells, take_cellsC, go_sem, Int.reduceBEq, Int.reduceLE, Int.reduceLT, Int.reduceNeg, Nat.reduceAdd, Nat.reduceEqDiff, Nat.reduceLT, Nat.reduceLeDiff, Nat.reduceMul, Nat.reduceSub, reduceCtorEq, ↓reduceIte]; (first | refine gsel_skip ?_ | refine gsel_go ?_ | skip); (first | refine hK _ _ _ ?_ | refine ⟨by first | omega | exact ⟨_, rfl, rfl⟩ | exact fun _ => ⟨_, rfl, rfl⟩ | (intro h; simp only [List.getElem?_map, hx, hy, len_cells, take_cells, take_cellsC, h, true_and]; omega) | (clear hK; intro h; simp_all <;> omega), hK _ _ _ ?_⟩); clear hK K) | refine VC.draw mixP (by rfl) (by rfl) ?_ | refine ⟨okd_of (by kernel_rfl), ?_⟩ | refine BQ.other (by decide) ?_ | refine VC.seq ?_ | refine AO.nil ?_ | refine VC.block ?_))
      (refine AO.step fun K hK => ?_; simp only [go_sem, Int.reduceBEq, Int.reduceLE, Int.reduceLT, Int.reduceNeg, Nat.reduceAdd, Nat.reduceEqDiff, Nat.reduceLT, Nat.reduceLeDiff, Nat.reduceMul, Nat.reduceSub, reduceCtorEq, ↓reduceIte, pureL_c]; (first | refine gsel_go ?_ | skip))
      refine .inl ⟨_, hcl, hK _ _ _ ?_⟩
      clear hK K
      refine walkG ?_
      refine VC.cond (by rfl) (by trivial) (fun hc2 => ?_) (fun hc2 => ?_)
      · have hne : jeqL xs ys = false := by
          rw [jeqL_false]
          intro e
          subst e
          rw [hx] at hy
          obtain rfl := Option.some.inj hy
          rw [jeq_self] at hc2
          simp at hc2
        refine walkG ?_
        refine ⟨.inr rfl, ?_⟩
        rw [Tryz.results188, hne]
        simp only [resOk, resV, go_sem, Int.reduceBEq, Int.reduceLE, Int.reduceLT, Int.reduceNeg, Nat.reduceAdd, Nat.reduceEqDiff, Nat.reduceLT, Nat.reduceLeDiff, Nat.reduceMul, Nat.reduceSub, reduceCtorEq, ↓reduceIte]
        exact .c _
      · have hxy : x = y := by
          rw [← jeq_iff]
          simpa using hc2
        refine walkGF (hw) ?_
        refine .next ⟨i + 1, by omega, ?_⟩ ?_ (by simp only []; omega)
        · rw [List.take_add_one, List.take_add_one, hx, hy, ht, hxy]
        simp only [Weak, eq_self, used_is, sc_any, sc_c, sc_pp, sc_ref, sc_row, sc_agg, sc_fn, ScL, some_imp, List.forall_mem_map, go_sem, Int.reduceBEq, Int.reduceLE, Int.reduceLT, Int.reduceNeg, Nat.reduceAdd, Nat.reduceEqDiff, Nat.reduceLT, Nat.reduceLeDiff, Nat.reduceMul, Nat.reduceSub, reduceCtorEq, ↓reduceIte]
        exact cI (by omega)
    · simp only [decide_eq_false_iff_not] at hc
      obtain rfl : i = xs.length := by omega
      have heq : jeqL xs ys = true := by
        rw [List.take_length, hlen, List.take_length] at ht
        rw [jeqL_iff, ht]
      refine walkG ?_
      refine ⟨.inr rfl, ?_⟩
      rw [Tryz.results188, heq]
      simp only [resOk, resV, go_sem, Int.reduceBEq, Int.reduceLE, Int.reduceLT, Int.reduceNeg, Nat.reduceAdd, Nat.reduceEqDiff, Nat.reduceLT, Nat.reduceLeDiff, Nat.reduceMul, Nat.reduceSub, reduceCtorEq, ↓reduceIte]
      exact .c _
set_option maxRecDepth 100000 in
set_option maxHeartbeats 400000 in
theorem same_told : ∀ (m : Nat) (a b : JT), SizeOf.sizeOf a ≤ m → Told Tryz.prog 104 [a.av, b.av] (.c (.v (.bool (jeq a b)))) := by
  intro m
  induction m with
  | zero => intro a b ha; cases a; simp at ha
  | succ m ih =>
  intro a b ha
  cases a with
  | mk k n s ks xs =>
  cases b with
  | mk k' n' s' ks' xs' =>
  refine VC.told ent_104 Tryz.func104 rfl Tryz.ntmps104 (by simp) rfl rfl fun hb => ?_
  clear hb
  simp only [JT.av, cells_mk, List.map_cons, List.map_nil]
  have hE := eqfunc_told xs xs' fun x hx y => ih x y (by
    have h1 := List.sizeOf_lt_of_mem hx
    simp at ha
    omega)
  refine walkGF (@str_toList) ?_
  (refine AO.step fun K hK => ?_; simp only [go_sem, Int.reduceBEq, Int.reduceLE, Int.reduceLT, Int.reduceNeg, Nat.reduceAdd, Nat.reduceEqDiff, Nat.reduceLT, Nat.reduceLeDiff, Nat.reduceMul, Nat.reduceSub, reduceCtorEq, ↓reduceIte]; (first | refine gsel_go ?_ | skip))
  refine .inl ⟨_, fun _ => sequal_told ks ks', hK _ _ _ ?_⟩
  clear hK K
  refine walkG ?_
  (refine AO.step fun K hK => ?_; simp only [go_sem, Int.reduceBEq, Int.reduceLE, Int.reduceLT, Int.reduceNeg, Nat.reduceAdd, Nat.reduceEqDiff, Nat.reduceLT, Nat.reduceLeDiff, Nat.reduceMul, Nat.reduceSub, reduceCtorEq, ↓reduceIte]; (first | refine gsel_go ?_ | skip))
  refine .inl ⟨_, fun _ => hE, hK _ _ _ ?_⟩
  clear hK K
  refine walkG ?_
  refine ⟨.inr rfl, ?_⟩
  rw [Tryz.results104]
  simp only [resOk, resV, go_sem, Int.reduceBEq, Int.reduceLE, Int.reduceLT, Int.reduceNeg, Nat.reduceAdd, Nat.reduceEqDiff, Nat.reduceLT, Nat.reduceLeDiff, Nat.reduceMul, Nat.reduceSub, reduceCtorEq, ↓reduceIte]
  rw [jeq_mk]
  exact .c _
end

/-! Names. -/
def isLet (c : UInt8) : Bool := (decide (97 ≤ c.toNat) && decide (c.toNat ≤ 122)) || ((decide (65 ≤ c.toNat) && decide (c.toNat ≤ 90)) || decide (c.toNat = 95))
def isDig (c : UInt8) : Bool := decide (48 ≤ c.toNat) && decide (c.toNat ≤ 57)
def simp1 : List UInt8 → Bool
  | [] => false
  | c :: cs => isLet c && cs.all fun c => isLet c || isDig c
def simpleM (s : List UInt8) : Bool := decide (s.length ≤ 100) && simp1 s
def fullF : Nat → List UInt8 → Bool
  | 0, _ => false
  | n + 1, s => simp1 (s.takeWhile (· != 46)) && (match s.dropWhile (· != 46) with | [] => true | _ :: r => fullF n r)
def fullM (s : List UInt8) : Bool := decide (s.length ≤ 100) && fullF (s.length + 1) s
theorem fullF_fuel : ∀ (n m : Nat) (s : List UInt8), s.length < n → s.length < m → fullF n s = fullF m s
  | 0, _, _, h, _ => by omega
  | _, 0, _, _, h => by omega
  | n + 1, m + 1, s, h1, h2 => by
    rw [fullF, fullF]
    congr 1
    have hd : (s.dropWhile (· != 46)).length ≤ s.length := (List.dropWhile_sublist _).length_le
    split
    · rfl
    · rename_i x r hr
      rw [hr] at hd
      simp at hd
      exact fullF_fuel n m r (by omega) (by omega)
def kwords : List (List UInt8) := [[], [110, 117, 108, 108], [98, 111, 111, 108, 101, 97, 110], [105, 110, 116], [108, 111, 110, 103], [102, 108, 111, 97, 116], [100, 111, 117, 98, 108, 101], [98, 121, 116, 101, 115], [115, 116, 114, 105, 110, 103], [114, 101, 99, 111, 114, 100], [101, 110, 117, 109], [97, 114, 114, 97, 121], [109, 97, 112], [], [102, 105, 120, 101, 100]]
def kindM (s : List UInt8) : Nat := if s = [] then 0 else match kwords.findIdx? (· == s) with | some i => i | none => 0
/-! Schemas that may be. -/
def diffM (rule : List UInt8 → Bool) (l : List (List UInt8)) : Bool := l.all rule && decide l.Nodup
def allM (rule : List UInt8 → Bool) (l : List (List UInt8)) : Bool := decide (l.length ≤ 40) && l.all rule
def jzero : JT := .mk 0 0 [] [] []
def bareM (n : NT) : Bool :=
  (namedK n.kind || (n.name.isEmpty && n.aliases.isEmpty)) && ((n.kind == 9 || n.fields.isEmpty) && ((n.kind == 10 || (n.symbols.isEmpty && (!n.has && n.dflt.isEmpty))) && ((n.kind == 14 || n.size == 0) && ((n.kind == 11 || n.kind == 12 || n.items == 0) && (n.kind == 13 || n.branches.isEmpty)))))
noncomputable def fieldM (f : FT) : Bool := allM simpleM f.aliases && (if f.has = true then jR f.dflt else jeq f.dflt jzero)
noncomputable def fieldsM (l : List FT) : Bool := l.all fieldM && (decide (l.length ≤ 40) && diffM simpleM (l.map (·.name)))
def branchM (ns : List NT) (l : List Int) (k : Int) : Bool := kindAt ns k.toNat != 13 && !l.any fun m => m == k || (!namedK (kindAt ns k.toNat) && kindAt ns m.toNat == kindAt ns k.toNat)
def branchesM (ns : List NT) : List Int → List Int → Bool
  | _, [] => true
  | l, k :: ks => branchM ns l k && branchesM ns (l ++ [k]) ks
def unionM (ns : List NT) (l : List Int) : Bool := decide (1 ≤ l.length) && (decide (l.length ≤ 10) && branchesM ns [] l)
noncomputable def nodeM (ns : List NT) (n : NT) : Bool :=
  (decide (1 ≤ n.kind) && (decide (n.kind ≤ 14) && bareM n)) && ((!namedK n.kind || (fullM n.name && (kindM n.name == 0 && allM fullM n.aliases))) && (
    if n.kind = 9 then fieldsM n.fields else if n.kind = 10 then ((n.has == n.symbols.contains n.dflt) && (n.has || n.dflt.isEmpty)) && (decide (1 ≤ n.symbols.length) && (decide (n.symbols.length ≤ 40) && diffM simpleM n.symbols))
    else if n.kind = 14 then decide (0 ≤ n.size) && decide (n.size ≤ 1000) else if n.kind = 13 then unionM ns n.branches else true))
def weighK (f : Nat → List Int → Int × List Int) : List FT → Int → List Int → Int × List Int
  | [], n, kn => (n, kn)
  | x :: xs, n, kn => weighK f xs (min (n + (f x.type.toNat kn).1) 1001) (f x.type.toNat kn).2
def knAt (kn : List Int) (k : Nat) : Int := match kn[k]? with | some n => n | none => 0
def fieldsAt (ns : List NT) (k : Nat) : List FT := match ns[k]? with | some n => (if n.kind = 9 then n.fields else []) | none => []
def weighM (ns : List NT) : Nat → Nat → List Int → Int × List Int
  | 0, _, kn => (1001, kn)
  | d + 1, p, kn => if knAt kn p < 0 then (1001, kn) else if 0 < knAt kn p then (knAt kn p, kn) else
      ((weighK (weighM ns d) (fieldsAt ns p) 1 (kn.set p (-1))).1, (weighK (weighM ns d) (fieldsAt ns p) 1 (kn.set p (-1))).2.set p (weighK (weighM ns d) (fieldsAt ns p) 1 (kn.set p (-1))).1)
noncomputable def rightL (ns : List NT) : List NT → Nat → List Int → Bool
  | [], _, _ => true
  | n :: r, p, kn => nodeM ns n && (decide ((weighM ns (ns.length + 1) p kn).1 ≤ 1000) && rightL ns r (p + 1) (weighM ns (ns.length + 1) p kn).2)
def namesM (ns : List NT) : List (List UInt8) := (ns.filter fun n => namedK n.kind).map (·.name)
noncomputable def rightM (s : ST) : Bool := orderedM s && (rightL s.nodes s.nodes 0 (List.replicate s.nodes.length 0) && diffM fullM (namesM s.nodes))
theorem right_ordered {s : ST} (h : rightM s = true) : orderedM s = true := by
  unfold rightM at h
  simp only [Bool.and_eq_true] at h
  exact h.1
section
attribute [local go_sem] opx opE ev okx gcond bnd okO AV.get AV.okb cAV upd_at putd_some putd_none wrs_nil wrs_cons look_nil look_cons st argT_at bpick_and bpick_or bpick_true bpick_false binV binI binS binVOk binOk isShift binSOk unV unVOk loadV loadP cellsA zeroA Blkd.len setE grown moreA moreR moreOk eqRes pv fillA fillE putSeg AV.cellish AV.pureL AV.pureB lentL_is ex_some AV.ren AV.renL renL_c Blkd.ren rho wrM renN lentOk rhoE keepM endOk tyA_2 tyA_3 tyA_4 tyA_5 tyA_6 tyA_7 tyA_8 tyA_9 tyA_10 tyA_11 tyA_12 tyA_13 tyA_14 tyA_15 tyA_16 tyA_17 tyA_18 tyA_19 tyA_21 tyA_22 tyA_23 tyA_24 tyA_29 tyA_30 tyA_31 tyA_32 tyA_33 tyA_34 tyA_35 tyA_36 tyA_37 tyA_38 tyA_39 tyA_40 tyA_41 tyA_42 tyA_43 tyA_48 tyA_89 tyA_93 tyA_107 tyA_108 tyA_109 tyA_113 tyA_114 tyA_115 tyA_116 tyA_117 tyA_119 tyA_120 tyA_121 tyA_122 tyA_131 tyA_134 tyA_135 tyA_136 tyA_137 tyA_138 tyA_154 tyA_156 tyA_157 tyA_158 tyA_159 tyA_170 tyA_180 tyA_181 tyA_182 tyA_196 tyA_202 tyA_208 tyA_209 tyA_210 tyA_211 tyA_212 tyA_213 tyA_229 tyA_230 tyA_231 tyA_241 tyA_264 tyA_268 tyA_293 tyA_294 tyA_295 tyA_311 tyA_313 tyA_321 tyA_326 tyA_334 tyA_338 tyA_340 tyA_343 tyA_344 tyA_345 tyA_346 tyA_347 tyA_348 tyA_349 tyA_351 tyA_352 Option.map_some Option.map_none Option.getD_some Option.getD_none Option.bind_some Option.bind_none List.getElem?_cons_zero List.getElem?_cons_succ List.getElem?_nil List.getElem?_toArray List.length_cons List.length_nil List.length_map List.forall_mem_map List.map_cons List.map_nil List.drop_zero List.drop_succ_cons List.drop_nil List.take_zero List.take_succ_cons List.take_nil List.mem_cons List.not_mem_nil or_false forall_eq_or_imp forall_eq List.set_cons_zero List.set_cons_succ List.cons_append List.nil_append List.append_nil List.foldl_cons List.foldl_nil List.replicate_succ List.replicate_zero List.all_cons List.all_nil if_true if_false Bool.false_eq_true ne_eq not_false_eq_true not_true_eq_false true_and and_true and_self true_implies imp_self implies_true forall_const beq_self_eq_true Bool.and_true Bool.true_and Bool.and_false Bool.false_and Bool.or_true Bool.true_or Bool.or_false Bool.false_or Bool.not_true Bool.not_false Bool.not_eq_eq_eq_not intKindOf Value.oneCell' Int.toNat_natCast beq_true beq_false Bool.not_eq_true false_implies false_or true_or or_true Nat.zero_add Nat.add_zero decide_true decide_false Int.cast_ofNat_Int Int.toNat_zero Int.toNat_one eq_self

set_option maxRecDepth 100000 in
set_option maxHeartbeats 800000 in
theorem each_told (s : ST) (xs : List VT) (hl : xs.length ≤ 1000000) (f : Nat → Int) (g : FuncId) (c : List PV) (hg : ∀ i, i < xs.length → Told Tryz.prog g [.c (.v (.int .i64 (i : Int))), .pp c] (.c (.v (.int .i64 (f i)))))
    (hx : ∀ (i : Nat) (x : VT), xs[i]? = some x → Told Tryz.prog 89 [s.av, .c (.v (.int .i64 (f i))), x.av] (.c (.v (.bool (isM s.nodes (f i) x))))) :
    Told Tryz.prog 164 [s.av, .c (.sl 6 (xs.map VT.cells)), .fn (.func g) [] [.pp c]] (.c (.v (.bool (eachM s.nodes f xs && decide (xs.length ≤ 300))))) := by
  obtain ⟨V, hV⟩ : ∃ V, V = (eachM s.nodes f xs && decide (xs.length ≤ 300)) := ⟨_, rfl⟩
  rw [← hV]
  simp only [ST.av_eq, scells_mk, List.map_cons, List.map_nil] at hx
  rw [ST.av_eq, scells_mk]
  refine VC.told ent_164 Tryz.func164 rfl Tryz.ntmps164 (by simp) (by first | rfl | simp [AV.pureB, AV.pureL, pureL_c, pures]) (by first | rfl | simp [AV.pureB, AV.pureL, pureL_c, pures]) fun hb => ?_
  clear hb
  refine walkG ?_
  refine VC.loop (ι := {i : Nat // i ≤ xs.length ∧ ∀ (j : Nat) (x : VT), j < i → xs[j]? = some x → isM s.nodes (f j) x = true}) (fun q => [(1, .c (.sl 6 (xs.map VT.cells))), (2, .fn (.func g) [] [.pp c]), (3, .ref 0 1 0 0), (9, .c (.sl 6 (xs.map VT.cells))), (10, .c (.v (.int .i64 (xs.length : Int)))), (11, .c (.v (.int .i64 (q.1 : Int))))])
    (fun _ => [(0, ⟨false, 24, 2, [[.c (.sl 10 (s.nodes.map NT.cells)), .c (.v (.int .i64 s.root))]]⟩)]) 800 (fun q => xs.length - q.1) ⟨0, Nat.zero_le _, by intro j x h; omega⟩ ?_ ?_
  · simp only [Weak, eq_self, used_is, sc_any, sc_c, sc_pp, sc_ref, sc_row, sc_agg, sc_fn, ScL, some_imp, List.forall_mem_map, go_sem, Int.reduceBEq, Int.reduceLE, Int.reduceLT, Int.reduceNeg, Nat.reduceAdd, Nat.reduceEqDiff, Nat.reduceLT, Nat.reduceLeDiff, Nat.reduceMul, Nat.reduceSub, reduceCtorEq, ↓reduceIte]
  rintro ⟨i, hi, ht⟩
  simp only []
  refine walkG ?_
  refine VC.cond (by rfl) (by trivial) (fun hc => ?_) (fun hc => ?_)
  · have hlt : i < xs.length := by simp at hc; omega
    obtain ⟨x, hxi⟩ : ∃ x, xs[i]? = some x := ⟨xs[i], List.getElem?_eq_getElem hlt⟩
    have hw : IntKind.i64.wrap ((i : Int) + 1) = (i : Int) + 1 := wrap64_id (by omega) (by omega)
    have hG := hg i hlt
    have hX := hx i x hxi
    clear hg hx
    have hxp : (xs.map VT.cells)[i]? = some x.cells := by rw [List.getElem?_map, hxi]; rfl
    rw [VT.av_eq] at hX
    have hB := fun h => eachM_false (ns := s.nodes) (f := f) hxi h
    obtain ⟨B, hBt⟩ : ∃ B, B = isM s.nodes (f i) x := ⟨_, rfl⟩
    rw [← hBt] at hX hB
    replace hBt := hBt.symm
    refine walkGF (And.intro hxp (And.intro @len_vcells (And.intro @take_vcells @take_vcellsC))) ?_
    refine walkC (hG) ?_
    refine walkGF (And.intro hxp (And.intro @len_vcells (And.intro @take_vcells @take_vcellsC))) ?_
    refine walkCF (@pureL_c) (hX) ?_
    refine walkG ?_
    refine VC.cond (by rfl) (by trivial) (fun hc2 => ?_) (fun hc2 => ?_)
    · have hf : B = false := by simpa using hc2
      obtain rfl : V = false := by rw [hV, hB hf]; rfl
      refine walkG ?_
      refine ⟨by first | exact .inr rfl | exact .inl rfl, ?_⟩; rw [Tryz.results164]; simp only [resOk, resV, go_sem, Int.reduceBEq, Int.reduceLE, Int.reduceLT, Int.reduceNeg, Nat.reduceAdd, Nat.reduceEqDiff, Nat.reduceLT, Nat.reduceLeDiff, Nat.reduceMul, Nat.reduceSub, reduceCtorEq, ↓reduceIte]
      exact .c _
    · have hf : B = true := by simpa using hc2
      refine walkGF (hw) ?_
      refine .next ⟨i + 1, by omega, ?_⟩ ?_ (by simp only []; omega)
      · intro j y hj hy
        by_cases hji : j < i
        · exact ht j y hji hy
        · obtain rfl : j = i := by omega
          rw [hxi] at hy
          obtain rfl := Option.some.inj hy
          exact hBt.trans hf
      simp only [Weak, eq_self, used_is, sc_any, sc_c, sc_pp, sc_ref, sc_row, sc_agg, sc_fn, ScL, some_imp, List.forall_mem_map, go_sem, Int.reduceBEq, Int.reduceLE, Int.reduceLT, Int.reduceNeg, Nat.reduceAdd, Nat.reduceEqDiff, Nat.reduceLT, Nat.reduceLeDiff, Nat.reduceMul, Nat.reduceSub, reduceCtorEq, ↓reduceIte]
      exact cI (by omega)
  · have hie : i = xs.length := by simp at hc; omega
    have hall : eachM s.nodes f xs = true := (eachM_iff _ _ _).2 fun j x hj => ht j x (by have := (List.getElem?_eq_some_iff.1 hj).1; omega) hj
    have hv : V = decide ((xs.length : Int) ≤ 300) := by
      rw [hV, hall, Bool.true_and]
      exact decide_eq_decide.2 (by omega)
    clear hV
    refine walkG ?_
    refine ⟨by first | exact .inr rfl | exact .inl rfl, ?_⟩; rw [Tryz.results164]; simp only [resOk, resV, go_sem, Int.reduceBEq, Int.reduceLE, Int.reduceLT, Int.reduceNeg, Nat.reduceAdd, Nat.reduceEqDiff, Nat.reduceLT, Nat.reduceLeDiff, Nat.reduceMul, Nat.reduceSub, reduceCtorEq, ↓reduceIte]
    rw [hv]
    exact .c _
set_option maxRecDepth 100000 in
set_option maxHeartbeats 400000 in
theorem conf1_told (nd : NT) (i : Nat) (hi : i < nd.fields.length) : Told Tryz.prog 165 [.c (.v (.int .i64 (i : Int))), .pp nd.cells] (.c (.v (.int .i64 (typeAt nd i)))) := by
  obtain ⟨f, hf⟩ : ∃ f, nd.fields[i]? = some f := ⟨nd.fields[i], List.getElem?_eq_getElem hi⟩
  have hfp : (nd.fields.map FT.cells)[i]? = some f.cells := by rw [List.getElem?_map, hf]; rfl
  rw [show typeAt nd i = f.type by rw [typeAt, hf], ncells_mk]
  refine VC.told ent_165 Tryz.func165 rfl Tryz.ntmps165 (by simp) (by first | rfl | simp [AV.pureB, AV.pureL, pureL_c, pures]) (by first | rfl | simp [AV.pureB, AV.pureL, pureL_c, pures]) fun hb => ?_
  clear hb
  refine walkGF (And.intro hfp @fcells_mk) ?_
  refine ⟨by first | exact .inr rfl | exact .inl rfl, ?_⟩; rw [Tryz.results165]; simp only [resOk, resV, go_sem, Int.reduceBEq, Int.reduceLE, Int.reduceLT, Int.reduceNeg, Nat.reduceAdd, Nat.reduceEqDiff, Nat.reduceLT, Nat.reduceLeDiff, Nat.reduceMul, Nat.reduceSub, reduceCtorEq, ↓reduceIte]
  exact .c _
set_option maxRecDepth 100000 in
set_option maxHeartbeats 400000 in
theorem conf2_told (nd : NT) (i : Int) : Told Tryz.prog 167 [.c (.v (.int .i64 i)), .pp nd.cells] (.c (.v (.int .i64 nd.items))) := by
  rw [ncells_mk]
  refine VC.told ent_167 Tryz.func167 rfl Tryz.ntmps167 (by simp) (by first | rfl | simp [AV.pureB, AV.pureL, pureL_c, pures]) (by first | rfl | simp [AV.pureB, AV.pureL, pureL_c, pures]) fun hb => ?_
  clear hb
  refine walkG ?_
  refine ⟨by first | exact .inr rfl | exact .inl rfl, ?_⟩; rw [Tryz.results167]; simp only [resOk, resV, go_sem, Int.reduceBEq, Int.reduceLE, Int.reduceLT, Int.reduceNeg, Nat.reduceAdd, Nat.reduceEqDiff, Nat.reduceLT, Nat.reduceLeDiff, Nat.reduceMul, Nat.reduceSub, reduceCtorEq, ↓reduceIte]
  exact .c _
theorem view_fn1 {h : Nat → Option Blkd} {f : Fn} {x y : AV} (hv : View h x y) : View h (.fn f [] [x]) (.fn f [] [y]) := by
  refine .fn rfl (by simp) rfl fun k u z h1 h2 => ?_
  match k with
  | 0 => obtain rfl := Option.some.inj h1; obtain rfl := Option.some.inj h2; exact hv
  | k + 1 => simp at h1
theorem shr32 (b : Int) (hb : 0 ≤ b) : (b.fdiv (2 ^ min (Int.toNat 32) 64) == 0) = decide (b < 4294967296) := by
  rw [show (2 : Int) ^ min (Int.toNat 32) 64 = 4294967296 from rfl, Int.fdiv_eq_ediv_of_nonneg _ (by decide), Bool.eq_iff_iff]
  simp only [beq_iff_eq, decide_eq_true_eq]
  omega
theorem vbare_items {k n b : Int} {s : List UInt8} {m : Nat} {ks : List (List UInt8)} (h : vbare k n b s m ks = true) (h9 : k ≠ 9) (h11 : k ≠ 11) (h12 : k ≠ 12) (h13 : k ≠ 13) : m = 0 := by
  unfold vbare at h
  simp only [Bool.and_eq_true, Bool.or_eq_true, beq_iff_eq] at h
  omega
set_option maxRecDepth 100000 in
set_option maxHeartbeats 1600000 in
theorem conforms_told (s : ST) (hkd : ∀ n ∈ s.nodes, ∀ k ∈ kidsN n, 0 ≤ k ∧ k < (s.nodes.length : Int)) : ∀ (m : Nat) (v : VT), SizeOf.sizeOf v ≤ m → v.sm 1000000 → ∀ (a : Int), 0 ≤ a → a < (s.nodes.length : Int) → Told Tryz.prog 89 [s.av, .c (.v (.int .i64 a)), v.av] (.c (.v (.bool (isM s.nodes a v)))) := by
  intro m
  induction m with
  | zero => intro v hv; cases v; simp at hv
  | succ m ih =>
  intro v hv hsm a ha0 ha
  cases v with
  | mk k n b t xs ks =>
  obtain ⟨nd, hnd⟩ : ∃ nd, s.nodes[a.toNat]? = some nd := ⟨s.nodes[a.toNat]'(by omega), List.getElem?_eq_getElem (by omega)⟩
  have hnp : (s.nodes.map NT.cells)[a.toNat]? = some nd.cells := by rw [List.getElem?_map, hnd]; rfl
  have hkn := hkd nd (List.mem_of_getElem? hnd)
  obtain ⟨V, hV⟩ : ∃ V, V = isM s.nodes a (.mk k n b t xs ks) := ⟨_, rfl⟩
  rw [← hV]
  rw [isM_eq hnd] at hV
  obtain ⟨⟨hb0, hb1⟩, hs1, hs2, hs3, hs4, hs5⟩ := hsm
  have hit : ∀ (i : Nat) (x : VT), xs[i]? = some x → ∀ (f : Int), 0 ≤ f → f < (s.nodes.length : Int) → Told Tryz.prog 89 [s.av, .c (.v (.int .i64 f)), x.av] (.c (.v (.bool (isM s.nodes f x)))) := fun i x hx f h1 h2 => ih x (by
    have h3 := List.sizeOf_lt_of_mem (List.mem_of_getElem? hx)
    simp at hv
    omega) (vsmL_mem hs5 x (List.mem_of_getElem? hx)) f h1 h2
  have hB := vbare_told k n b t xs ks
  rw [VT.av_eq, vcells_mk] at hB
  have hR := uright_told t (by omega)
  have hKy := vkeyed_told ks hs3
  clear ih hkd
  obtain ⟨nk, a1, a2, a3, a4, a5, a6, a7, a8, a9⟩ := nd
  rw [VT.av_eq, vcells_mk, ST.av_eq, scells_mk]
  rw [ncells_mk] at hnp
  refine VC.told ent_89 Tryz.func89 rfl Tryz.ntmps89 (by simp) (by first | rfl | simp [AV.pureB, AV.pureL, pureL_c, pures]) (by first | rfl | simp [AV.pureB, AV.pureL, pureL_c, pures]) fun hb => ?_
  clear hb
  refine walkGF (hnp) ?_
  refine walkD (hB) ?_
  refine walkGF (@bytePV_len) ?_
  unfold headM at hV
  simp only [] at hV
  obtain ⟨bv, hbv⟩ : ∃ bv, bv = vbare k n b t xs.length ks := ⟨_, rfl⟩
  rw [← hbv] at hV ⊢
  refine VC.cond (by rfl) (by trivial) (fun hc => ?_) (fun hc => ?_)
  · have hh : (k == nk && (bv && decide (t.length ≤ 20000))) = false := by
      rw [Bool.eq_false_iff]
      intro h
      simp only [Bool.and_eq_true, beq_iff_eq, decide_eq_true_eq] at h
      obtain ⟨rfl, rfl, h⟩ := h
      simp at hc
      omega
    obtain rfl : V = false := by rw [hV, hh]; rfl
    refine walkG ?_
    refine ⟨by first | exact .inr rfl | exact .inl rfl, ?_⟩; rw [Tryz.results89]; simp only [resOk, resV, go_sem, Int.reduceBEq, Int.reduceLE, Int.reduceLT, Int.reduceNeg, Nat.reduceAdd, Nat.reduceEqDiff, Nat.reduceLT, Nat.reduceLeDiff, Nat.reduceMul, Nat.reduceSub, reduceCtorEq, ↓reduceIte]
    exact .c _
  have hh : (k == nk && (bv && decide (t.length ≤ 20000))) = true := by
    simp at hc
    simp only [Bool.and_eq_true, beq_iff_eq, decide_eq_true_eq]
    exact ⟨hc.1.1, hc.1.2, by omega⟩
  rw [hh, Bool.true_and] at hV
  simp only [Bool.and_eq_true, beq_iff_eq, decide_eq_true_eq] at hh
  obtain ⟨rfl, rfl, hh⟩ := hh
  clear hc hB
  replace hbv := hbv.symm
  refine walkG ?_
  by_cases h2 : k = 2
  · subst h2
    obtain rfl : xs = [] := List.length_eq_zero_iff.1 (vbare_items hbv (by decide) (by decide) (by decide) (by decide))
    refine walkB ?_
    refine ⟨by first | exact .inr rfl | exact .inl rfl, ?_⟩; rw [Tryz.results89]; simp only [resOk, resV, go_sem, Int.reduceBEq, Int.reduceLE, Int.reduceLT, Int.reduceNeg, Nat.reduceAdd, Nat.reduceEqDiff, Nat.reduceLT, Nat.reduceLeDiff, Nat.reduceMul, Nat.reduceSub, reduceCtorEq, ↓reduceIte]
    refine frz_c ?_
    rw [hV, eachM]
    simp
  by_cases h3 : k = 3
  · subst h3
    obtain rfl : xs = [] := List.length_eq_zero_iff.1 (vbare_items hbv (by decide) (by decide) (by decide) (by decide))
    refine walkB ?_
    refine ⟨by first | exact .inr rfl | exact .inl rfl, ?_⟩; rw [Tryz.results89]; simp only [resOk, resV, go_sem, Int.reduceBEq, Int.reduceLE, Int.reduceLT, Int.reduceNeg, Nat.reduceAdd, Nat.reduceEqDiff, Nat.reduceLT, Nat.reduceLeDiff, Nat.reduceMul, Nat.reduceSub, reduceCtorEq, ↓reduceIte]
    refine frz_c ?_
    rw [hV, eachM]
    simp
  by_cases h5 : k = 5
  · subst h5
    obtain rfl : xs = [] := List.length_eq_zero_iff.1 (vbare_items hbv (by decide) (by decide) (by decide) (by decide))
    refine walkB ?_
    refine ⟨by first | exact .inr rfl | exact .inl rfl, ?_⟩; rw [Tryz.results89]; simp only [resOk, resV, go_sem, Int.reduceBEq, Int.reduceLE, Int.reduceLT, Int.reduceNeg, Nat.reduceAdd, Nat.reduceEqDiff, Nat.reduceLT, Nat.reduceLeDiff, Nat.reduceMul, Nat.reduceSub, reduceCtorEq, ↓reduceIte]
    refine frz_c ?_
    rw [hV, eachM, shr32 b hb0]
    simp
  by_cases h8 : k = 8
  · subst h8
    obtain rfl : xs = [] := List.length_eq_zero_iff.1 (vbare_items hbv (by decide) (by decide) (by decide) (by decide))
    refine walkB ?_
    refine walkC (hR) ?_
    refine walkG ?_
    refine ⟨by first | exact .inr rfl | exact .inl rfl, ?_⟩; rw [Tryz.results89]; simp only [resOk, resV, go_sem, Int.reduceBEq, Int.reduceLE, Int.reduceLT, Int.reduceNeg, Nat.reduceAdd, Nat.reduceEqDiff, Nat.reduceLT, Nat.reduceLeDiff, Nat.reduceMul, Nat.reduceSub, reduceCtorEq, ↓reduceIte]
    refine frz_c ?_
    rw [hV, eachM]
    simp
  by_cases h14 : k = 14
  · subst h14
    obtain rfl : xs = [] := List.length_eq_zero_iff.1 (vbare_items hbv (by decide) (by decide) (by decide) (by decide))
    refine walkBF (@bytePV_len) ?_
    refine ⟨by first | exact .inr rfl | exact .inl rfl, ?_⟩; rw [Tryz.results89]; simp only [resOk, resV, go_sem, Int.reduceBEq, Int.reduceLE, Int.reduceLT, Int.reduceNeg, Nat.reduceAdd, Nat.reduceEqDiff, Nat.reduceLT, Nat.reduceLeDiff, Nat.reduceMul, Nat.reduceSub, reduceCtorEq, ↓reduceIte]
    refine frz_c ?_
    rw [hV, eachM]
    simp
  by_cases h10 : k = 10
  · subst h10
    obtain rfl : xs = [] := List.length_eq_zero_iff.1 (vbare_items hbv (by decide) (by decide) (by decide) (by decide))
    refine walkB ?_
    refine ⟨by first | exact .inr rfl | exact .inl rfl, ?_⟩; rw [Tryz.results89]; simp only [resOk, resV, go_sem, Int.reduceBEq, Int.reduceLE, Int.reduceLT, Int.reduceNeg, Nat.reduceAdd, Nat.reduceEqDiff, Nat.reduceLT, Nat.reduceLeDiff, Nat.reduceMul, Nat.reduceSub, reduceCtorEq, ↓reduceIte]
    refine frz_c ?_
    rw [hV, eachM]
    simp
  by_cases h9 : k = 9
  · subst h9
    have hkn9 : ∀ i, i < a3.length → 0 ≤ typeAt ⟨9, a1, a2, a3, a4, a5, a6, a7, a8, a9⟩ i ∧ typeAt ⟨9, a1, a2, a3, a4, a5, a6, a7, a8, a9⟩ i < (s.nodes.length : Int) := by
      intro i hi
      rw [typeAt]
      simp only [List.getElem?_eq_getElem hi]
      exact hkn _ (by rw [kidsN, if_pos rfl]; exact List.mem_map.2 ⟨_, List.getElem_mem hi, rfl⟩)
    by_cases hlen : xs.length = a3.length
    · have hE := each_told s xs hs4 (typeAt ⟨9, a1, a2, a3, a4, a5, a6, a7, a8, a9⟩) 165 (NT.cells ⟨9, a1, a2, a3, a4, a5, a6, a7, a8, a9⟩) (fun i hi => conf1_told _ i (by simp only []; omega)) fun i x hx => hit i x hx _ (hkn9 i (by have := (List.getElem?_eq_some_iff.1 hx).1; omega)).1 (hkn9 i (by have := (List.getElem?_eq_some_iff.1 hx).1; omega)).2
      have hle : ((xs.length : Int) == (a3.length : Int)) = true := by simp; omega
      rw [show itemAt ⟨9, a1, a2, a3, a4, a5, a6, a7, a8, a9⟩ n = typeAt ⟨9, a1, a2, a3, a4, a5, a6, a7, a8, a9⟩ from by funext i; simp [itemAt]] at hV
      generalize eachM s.nodes (typeAt ⟨9, a1, a2, a3, a4, a5, a6, a7, a8, a9⟩) xs = E at hE hV
      simp only [ST.av_eq, scells_mk, List.map_cons, List.map_nil] at hE
      refine walkBF (hle) ?_
      (refine AO.step fun K hK => ?_; simp only [go_sem, Int.reduceBEq, Int.reduceLE, Int.reduceLT, Int.reduceNeg, Nat.reduceAdd, Nat.reduceEqDiff, Nat.reduceLT, Nat.reduceLeDiff, Nat.reduceMul, Nat.reduceSub, reduceCtorEq, ↓reduceIte]; (first | refine gsel_go ?_ | skip))
      refine .inr (.inl ⟨.c (.v (.bool (E && decide (xs.length ≤ 300)))), [.agg [.c (.sl 10 (s.nodes.map NT.cells)), .c (.v (.int .i64 s.root))], .c (.sl 6 (xs.map VT.cells)), .fn (.func 165) [] [.pp (NT.cells ⟨9, a1, a2, a3, a4, a5, a6, a7, a8, a9⟩)]], [64], ⟨by rfl, rfl, fun k x z h5 h6 => ?_, rfl, hE⟩, hK _ _ _ ?_⟩)
      · match k with
        | 0 => obtain rfl := Option.some.inj h5; obtain rfl := Option.some.inj h6; exact .same _
        | 1 => obtain rfl := Option.some.inj h5; obtain rfl := Option.some.inj h6; exact .same _
        | 2 =>
          obtain rfl := Option.some.inj h5
          obtain rfl := Option.some.inj h6
          exact view_fn1 (View.ref (es := NT.cells ⟨9, a1, a2, a3, a4, a5, a6, a7, a8, a9⟩) rfl rfl rfl rfl)
        | k + 3 => simp at h5
      clear hK K
      refine walkG ?_
      refine ⟨by first | exact .inr rfl | exact .inl rfl, ?_⟩; rw [Tryz.results89]; simp only [resOk, resV, go_sem, Int.reduceBEq, Int.reduceLE, Int.reduceLT, Int.reduceNeg, Nat.reduceAdd, Nat.reduceEqDiff, Nat.reduceLT, Nat.reduceLeDiff, Nat.reduceMul, Nat.reduceSub, reduceCtorEq, ↓reduceIte]
      refine frz_c ?_
      rw [hV]
      simp [hlen, Bool.and_comm]
    · have hle : ((xs.length : Int) == (a3.length : Int)) = false := by simp; omega
      refine walkBF (hle) ?_
      refine ⟨by first | exact .inr rfl | exact .inl rfl, ?_⟩; rw [Tryz.results89]; simp only [resOk, resV, go_sem, Int.reduceBEq, Int.reduceLE, Int.reduceLT, Int.reduceNeg, Nat.reduceAdd, Nat.reduceEqDiff, Nat.reduceLT, Nat.reduceLeDiff, Nat.reduceMul, Nat.reduceSub, reduceCtorEq, ↓reduceIte]
      refine frz_c ?_
      rw [hV]
      simp [hlen]
  by_cases h12 : k = 12
  · subst h12
    have hki := hkn a8 (by rw [kidsN, if_neg (by simp), if_pos (by simp)]; simp)
    have hE := each_told s xs hs4 (fun _ => a8) 167 (NT.cells ⟨12, a1, a2, a3, a4, a5, a6, a7, a8, a9⟩) (fun i _ => conf2_told ⟨12, a1, a2, a3, a4, a5, a6, a7, a8, a9⟩ i) fun i x hx => hit i x hx a8 hki.1 hki.2
    rw [show itemAt ⟨12, a1, a2, a3, a4, a5, a6, a7, a8, a9⟩ n = fun _ => a8 from by funext i; simp [itemAt]] at hV
    generalize eachM s.nodes (fun _ => a8) xs = E at hE hV
    simp only [ST.av_eq, scells_mk, List.map_cons, List.map_nil] at hE
    by_cases hlen : ks.length = xs.length
    · have hle : ((ks.length : Int) != (xs.length : Int)) = false := by simp; omega
      rw [show (ks.length == xs.length) = true by simpa using hlen, Bool.true_and] at hV
      generalize ks.all keyM = bk at hKy hV
      refine walkBF (hle) ?_
      refine walkC (hKy) ?_
      refine walkG ?_
      cases bk with
      | false =>
        refine walkB ?_
        refine ⟨by first | exact .inr rfl | exact .inl rfl, ?_⟩; rw [Tryz.results89]; simp only [resOk, resV, go_sem, Int.reduceBEq, Int.reduceLE, Int.reduceLT, Int.reduceNeg, Nat.reduceAdd, Nat.reduceEqDiff, Nat.reduceLT, Nat.reduceLeDiff, Nat.reduceMul, Nat.reduceSub, reduceCtorEq, ↓reduceIte]
        refine frz_c ?_
        rw [hV]
        simp
      | true =>
        refine walkB ?_
        (refine AO.step fun K hK => ?_; simp only [go_sem, Int.reduceBEq, Int.reduceLE, Int.reduceLT, Int.reduceNeg, Nat.reduceAdd, Nat.reduceEqDiff, Nat.reduceLT, Nat.reduceLeDiff, Nat.reduceMul, Nat.reduceSub, reduceCtorEq, ↓reduceIte]; (first | refine gsel_go ?_ | skip))
        refine .inr (.inl ⟨.c (.v (.bool (E && decide (xs.length ≤ 300)))), [.agg [.c (.sl 10 (s.nodes.map NT.cells)), .c (.v (.int .i64 s.root))], .c (.sl 6 (xs.map VT.cells)), .fn (.func 167) [] [.pp (NT.cells ⟨12, a1, a2, a3, a4, a5, a6, a7, a8, a9⟩)]], [64], ⟨by rfl, rfl, fun k x z h5 h6 => ?_, rfl, hE⟩, hK _ _ _ ?_⟩)
        · match k with
          | 0 => obtain rfl := Option.some.inj h5; obtain rfl := Option.some.inj h6; exact .same _
          | 1 => obtain rfl := Option.some.inj h5; obtain rfl := Option.some.inj h6; exact .same _
          | 2 =>
            obtain rfl := Option.some.inj h5
            obtain rfl := Option.some.inj h6
            exact view_fn1 (View.ref (es := NT.cells ⟨12, a1, a2, a3, a4, a5, a6, a7, a8, a9⟩) rfl rfl rfl rfl)
          | k + 3 => simp at h5
        clear hK K
        refine walkG ?_
        refine ⟨by first | exact .inr rfl | exact .inl rfl, ?_⟩; rw [Tryz.results89]; simp only [resOk, resV, go_sem, Int.reduceBEq, Int.reduceLE, Int.reduceLT, Int.reduceNeg, Nat.reduceAdd, Nat.reduceEqDiff, Nat.reduceLT, Nat.reduceLeDiff, Nat.reduceMul, Nat.reduceSub, reduceCtorEq, ↓reduceIte]
        refine frz_c ?_
        rw [hV]
        simp [Bool.and_comm]
    · have hle : ((ks.length : Int) != (xs.length : Int)) = true := by simp; omega
      refine walkBF (hle) ?_
      refine ⟨by first | exact .inr rfl | exact .inl rfl, ?_⟩; rw [Tryz.results89]; simp only [resOk, resV, go_sem, Int.reduceBEq, Int.reduceLE, Int.reduceLT, Int.reduceNeg, Nat.reduceAdd, Nat.reduceEqDiff, Nat.reduceLT, Nat.reduceLeDiff, Nat.reduceMul, Nat.reduceSub, reduceCtorEq, ↓reduceIte]
      refine frz_c ?_
      rw [hV]
      simp [hlen]
  by_cases h11 : k = 11
  · subst h11
    have hki := hkn a8 (by rw [kidsN, if_neg (by simp), if_pos (by simp)]; simp)
    have hE := each_told s xs hs4 (fun _ => a8) 167 (NT.cells ⟨11, a1, a2, a3, a4, a5, a6, a7, a8, a9⟩) (fun i _ => conf2_told ⟨11, a1, a2, a3, a4, a5, a6, a7, a8, a9⟩ i) fun i x hx => hit i x hx a8 hki.1 hki.2
    rw [show itemAt ⟨11, a1, a2, a3, a4, a5, a6, a7, a8, a9⟩ n = fun _ => a8 from by funext i; simp [itemAt]] at hV
    generalize eachM s.nodes (fun _ => a8) xs = E at hE hV
    simp only [ST.av_eq, scells_mk, List.map_cons, List.map_nil] at hE
    refine walkB ?_
    (refine AO.step fun K hK => ?_; simp only [go_sem, Int.reduceBEq, Int.reduceLE, Int.reduceLT, Int.reduceNeg, Nat.reduceAdd, Nat.reduceEqDiff, Nat.reduceLT, Nat.reduceLeDiff, Nat.reduceMul, Nat.reduceSub, reduceCtorEq, ↓reduceIte]; (first | refine gsel_go ?_ | skip))
    refine .inr (.inl ⟨.c (.v (.bool (E && decide (xs.length ≤ 300)))), [.agg [.c (.sl 10 (s.nodes.map NT.cells)), .c (.v (.int .i64 s.root))], .c (.sl 6 (xs.map VT.cells)), .fn (.func 167) [] [.pp (NT.cells ⟨11, a1, a2, a3, a4, a5, a6, a7, a8, a9⟩)]], [64], ⟨by rfl, rfl, fun k x z h5 h6 => ?_, rfl, hE⟩, hK _ _ _ ?_⟩)
    · match k with
      | 0 => obtain rfl := Option.some.inj h5; obtain rfl := Option.some.inj h6; exact .same _
      | 1 => obtain rfl := Option.some.inj h5; obtain rfl := Option.some.inj h6; exact .same _
      | 2 =>
        obtain rfl := Option.some.inj h5
        obtain rfl := Option.some.inj h6
        exact view_fn1 (View.ref (es := NT.cells ⟨11, a1, a2, a3, a4, a5, a6, a7, a8, a9⟩) rfl rfl rfl rfl)
      | k + 3 => simp at h5
    clear hK K
    refine walkG ?_
    refine ⟨by first | exact .inr rfl | exact .inl rfl, ?_⟩; rw [Tryz.results89]; simp only [resOk, resV, go_sem, Int.reduceBEq, Int.reduceLE, Int.reduceLT, Int.reduceNeg, Nat.reduceAdd, Nat.reduceEqDiff, Nat.reduceLT, Nat.reduceLeDiff, Nat.reduceMul, Nat.reduceSub, reduceCtorEq, ↓reduceIte]
    refine frz_c ?_
    rw [hV]
    simp [Bool.and_comm]
  by_cases h13 : k = 13
  · subst h13
    by_cases hg : (0 ≤ n ∧ n < (a9.length : Int)) ∧ xs.length = 1
    · obtain ⟨⟨hg1, hg2⟩, hg3⟩ := hg
      obtain ⟨x, rfl⟩ := List.length_eq_one_iff.1 hg3
      have hnl : n.toNat < a9.length := by omega
      obtain ⟨q, hq⟩ : ∃ q, a9[n.toNat]? = some q := ⟨a9[n.toNat], List.getElem?_eq_getElem hnl⟩
      have hqp : (a9.map iPV)[n.toNat]? = some (iPV q) := by rw [List.getElem?_map, hq]; rfl
      have hki := hkn q (by rw [kidsN, if_neg (by simp), if_neg (by simp), if_pos rfl]; exact List.mem_of_getElem? hq)
      have hX := hit 0 x rfl q hki.1 hki.2
      have e1 : decide (n ≥ 0) = true := by simpa using hg1
      have e2 : decide (n < (a9.length : Int)) = true := by simpa using hg2
      have hv2 : V = isM s.nodes q x := by
        have hib : itemAt ⟨13, a1, a2, a3, a4, a5, a6, a7, a8, a9⟩ n 0 = q := by
          show (if (13 : Int) = 9 then _ else if (13 : Int) = 13 then branchAt _ n else _) = q
          rw [if_neg (by decide), if_pos rfl, branchAt]
          simp only [hq]
        rw [hV, eachM, eachM, hib]
        simp [hg1, hg2]
      clear hV
      generalize isM s.nodes q x = E at hX hv2
      simp only [ST.av_eq, VT.av_eq, scells_mk, List.map_cons, List.map_nil] at hX
      refine walkBF (And.intro e1 (And.intro e2 (And.intro hqp (And.intro @iPV_eq (And.intro @len_vcells (And.intro @take_vcells @take_vcellsC)))))) ?_
      refine walkCF (@pureL_c) (hX) ?_
      refine walkG ?_
      refine ⟨by first | exact .inr rfl | exact .inl rfl, ?_⟩; rw [Tryz.results89]; simp only [resOk, resV, go_sem, Int.reduceBEq, Int.reduceLE, Int.reduceLT, Int.reduceNeg, Nat.reduceAdd, Nat.reduceEqDiff, Nat.reduceLT, Nat.reduceLeDiff, Nat.reduceMul, Nat.reduceSub, reduceCtorEq, ↓reduceIte]
      rw [hv2]
      exact .c _
    · have hvf : V = false := by
        have : (decide (0 ≤ n) && (decide (n < (a9.length : Int)) && xs.length == 1)) = false := by
          rw [Bool.eq_false_iff]
          intro h
          simp only [Bool.and_eq_true, decide_eq_true_eq, beq_iff_eq] at h
          exact hg ⟨⟨h.1, h.2.1⟩, h.2.2⟩
        rw [hV]
        simp only [Int.reduceEq, if_false, if_true]
        rw [this]
        rfl
      clear hV
      by_cases hg1 : 0 ≤ n
      · have e1 : decide (n ≥ 0) = true := by simpa using hg1
        by_cases hg2 : n < (a9.length : Int)
        · have e2 : decide (n < (a9.length : Int)) = true := by simpa using hg2
          have e3 : ((xs.length : Int) == 1) = false := by
            simp only [beq_eq_false_iff_ne]
            intro h
            exact hg ⟨⟨hg1, hg2⟩, by omega⟩
          refine walkBF (And.intro e1 (And.intro e2 e3)) ?_
          refine ⟨by first | exact .inr rfl | exact .inl rfl, ?_⟩; rw [Tryz.results89]; simp only [resOk, resV, go_sem, Int.reduceBEq, Int.reduceLE, Int.reduceLT, Int.reduceNeg, Nat.reduceAdd, Nat.reduceEqDiff, Nat.reduceLT, Nat.reduceLeDiff, Nat.reduceMul, Nat.reduceSub, reduceCtorEq, ↓reduceIte]
          rw [hvf]
          exact .c _
        · have e2 : decide (n < (a9.length : Int)) = false := by simpa using hg2
          refine walkBF (And.intro e1 e2) ?_
          refine ⟨by first | exact .inr rfl | exact .inl rfl, ?_⟩; rw [Tryz.results89]; simp only [resOk, resV, go_sem, Int.reduceBEq, Int.reduceLE, Int.reduceLT, Int.reduceNeg, Nat.reduceAdd, Nat.reduceEqDiff, Nat.reduceLT, Nat.reduceLeDiff, Nat.reduceMul, Nat.reduceSub, reduceCtorEq, ↓reduceIte]
          rw [hvf]
          exact .c _
      · have e1 : decide (n ≥ 0) = false := by simpa using hg1
        refine walkBF (e1) ?_
        refine ⟨by first | exact .inr rfl | exact .inl rfl, ?_⟩; rw [Tryz.results89]; simp only [resOk, resV, go_sem, Int.reduceBEq, Int.reduceLE, Int.reduceLT, Int.reduceNeg, Nat.reduceAdd, Nat.reduceEqDiff, Nat.reduceLT, Nat.reduceLeDiff, Nat.reduceMul, Nat.reduceSub, reduceCtorEq, ↓reduceIte]
        rw [hvf]
        exact .c _
  have e2 : (k == 2) = false := by simpa using h2
  have e3 : (k == 3) = false := by simpa using h3
  have e5 : (k == 5) = false := by simpa using h5
  have e8 : (k == 8) = false := by simpa using h8
  have e14 : (k == 14) = false := by simpa using h14
  have e10 : (k == 10) = false := by simpa using h10
  have e9 : (k == 9) = false := by simpa using h9
  have e12 : (k == 12) = false := by simpa using h12
  have e11 : (k == 11) = false := by simpa using h11
  have e13 : (k == 13) = false := by simpa using h13
  obtain rfl : xs = [] := List.length_eq_zero_iff.1 (vbare_items hbv h9 h11 h12 h13)
  rw [e2]
  refine walkBF (And.intro e2 (And.intro e3 (And.intro e5 (And.intro e8 (And.intro e14 (And.intro e10 (And.intro e9 (And.intro e12 (And.intro e11 e13))))))))) ?_
  refine ⟨by first | exact .inr rfl | exact .inl rfl, ?_⟩; rw [Tryz.results89]; simp only [resOk, resV, go_sem, Int.reduceBEq, Int.reduceLE, Int.reduceLT, Int.reduceNeg, Nat.reduceAdd, Nat.reduceEqDiff, Nat.reduceLT, Nat.reduceLeDiff, Nat.reduceMul, Nat.reduceSub, reduceCtorEq, ↓reduceIte]
  refine frz_c ?_
  rw [hV, eachM]
  simp [h2, h3, h5, h8, h14, h10, h9, h12, h11, h13]
end

theorem told_plain {P : Program} {f : FuncId} {xs : List Value} {r : Value} (hE : Enters P f) (hr : r.oneCell' = true) (h : ∀ W : World, Calls P f xs.toArray W fun e w' => e = .returned r ∧ w' = W) : Told P f (xs.map fun x => .c (.v x)) (.c (.v r)) := by
  refine ⟨hE, fun W ro vs hro hgk hl => ?_⟩
  have hvs : vs = xs := by
    apply List.ext_getElem?
    intro k
    by_cases hk : k < xs.length
    · have hkv : k < vs.length := by rw [hl.1]; simpa using hk
      have := hl.2 k _ _ (by rw [List.getElem?_map, List.getElem?_eq_getElem hk]; rfl) (List.getElem?_eq_getElem hkv)
      rw [List.getElem?_eq_getElem hkv, rep_prim this, List.getElem?_eq_getElem hk]
    · rw [List.getElem?_eq_none (by rw [hl.1]; simpa using hk), List.getElem?_eq_none (by omega)]
  subst hvs
  refine (h W).mono ?_
  rintro e W' ⟨rfl, rfl⟩
  exact ⟨r, ro, rfl, Below.refl _ _, fun b h => h, fun b h => ⟨.inl h, hro b h⟩, .c (.v hr), .c _⟩
section
attribute [local go_sem] opx opE ev okx gcond bnd okO AV.get AV.okb cAV upd_at putd_some putd_none wrs_nil wrs_cons look_nil look_cons st argT_at bpick_and bpick_or bpick_true bpick_false binV binI binS binVOk binOk isShift binSOk unV unVOk loadV loadP cellsA zeroA Blkd.len setE grown moreA moreR moreOk eqRes pv fillA fillE putSeg AV.cellish AV.pureL AV.pureB lentL_is ex_some AV.ren AV.renL renL_c Blkd.ren rho wrM renN lentOk rhoE keepM endOk tyA_2 tyA_3 tyA_4 tyA_5 tyA_6 tyA_7 tyA_8 tyA_9 tyA_10 tyA_11 tyA_12 tyA_13 tyA_14 tyA_15 tyA_16 tyA_17 tyA_18 tyA_19 tyA_21 tyA_22 tyA_23 tyA_24 tyA_29 tyA_30 tyA_31 tyA_32 tyA_33 tyA_34 tyA_35 tyA_36 tyA_37 tyA_38 tyA_39 tyA_40 tyA_41 tyA_42 tyA_43 tyA_48 tyA_89 tyA_93 tyA_107 tyA_108 tyA_109 tyA_113 tyA_114 tyA_115 tyA_116 tyA_117 tyA_119 tyA_120 tyA_121 tyA_122 tyA_131 tyA_134 tyA_135 tyA_136 tyA_137 tyA_138 tyA_154 tyA_156 tyA_157 tyA_158 tyA_159 tyA_170 tyA_180 tyA_181 tyA_182 tyA_196 tyA_202 tyA_208 tyA_209 tyA_210 tyA_211 tyA_212 tyA_213 tyA_229 tyA_230 tyA_231 tyA_241 tyA_264 tyA_268 tyA_293 tyA_294 tyA_295 tyA_311 tyA_313 tyA_321 tyA_326 tyA_334 tyA_338 tyA_340 tyA_343 tyA_344 tyA_345 tyA_346 tyA_347 tyA_348 tyA_349 tyA_351 tyA_352 Option.map_some Option.map_none Option.getD_some Option.getD_none Option.bind_some Option.bind_none List.getElem?_cons_zero List.getElem?_cons_succ List.getElem?_nil List.getElem?_toArray List.length_cons List.length_nil List.length_map List.forall_mem_map List.map_cons List.map_nil List.drop_zero List.drop_succ_cons List.drop_nil List.take_zero List.take_succ_cons List.take_nil List.mem_cons List.not_mem_nil or_false forall_eq_or_imp forall_eq List.set_cons_zero List.set_cons_succ List.cons_append List.nil_append List.append_nil List.foldl_cons List.foldl_nil List.replicate_succ List.replicate_zero List.all_cons List.all_nil if_true if_false Bool.false_eq_true ne_eq not_false_eq_true not_true_eq_false true_and and_true and_self true_implies imp_self implies_true forall_const beq_self_eq_true Bool.and_true Bool.true_and Bool.and_false Bool.false_and Bool.or_true Bool.true_or Bool.or_false Bool.false_or Bool.not_true Bool.not_false Bool.not_eq_eq_eq_not intKindOf Value.oneCell' Int.toNat_natCast beq_true beq_false Bool.not_eq_true false_implies false_or true_or or_true Nat.zero_add Nat.add_zero decide_true decide_false Int.cast_ofNat_Int Int.toNat_zero Int.toNat_one eq_self

set_option maxRecDepth 100000 in
set_option maxHeartbeats 800000 in
theorem letter_told (c : UInt8) : Told Tryz.prog 248 [.c (.v (.int .u8 (c.toNat : Int)))] (.c (.v (.bool (isLet c)))) := by
  obtain ⟨V, hV⟩ : ∃ V, V = isLet c := ⟨_, rfl⟩
  rw [← hV]
  obtain ⟨y, hy⟩ : ∃ y : Int, y = (c.toNat : Int) := ⟨_, rfl⟩
  rw [← hy]
  have hv : V = ((decide (y ≥ 97) && decide (y ≤ 122)) || ((decide (y ≥ 65) && decide (y ≤ 90)) || (y == 95))) := by
    have e : (y == 95) = decide (c.toNat = 95) := by
      rw [hy]
      by_cases h : c.toNat = 95
      · simp [h]
      · have : ¬ ((c.toNat : Int) = 95) := by omega
        simp [h, this]
    rw [hV, isLet, e, hy]
    congr 1
    · congr 1 <;> simp <;> omega
    · congr 1
      congr 1 <;> simp <;> omega
  clear hV hy
  replace hv := Lib.hid hv
  refine VC.told ent_248 Tryz.func248 rfl Tryz.ntmps248 (by simp) (by first | rfl | simp [AV.pureB, AV.pureL, pureL_c, pures]) (by first | rfl | simp [AV.pureB, AV.pureL, pureL_c, pures]) fun hb => ?_
  clear hb
  (repeat (first | refine pass ?_ | refine VC.region (by rfl) (by rfl) ?_ | (refine AO.step fun K hK => ?_; simp only [List.append_assoc, go_sem, Int.reduceBEq, Int.reduceLE, Int.reduceLT, Int.reduceNeg, Nat.reduceAdd, Nat.reduceEqDiff, Nat.reduceLT, Nat.reduceLeDiff, Nat.reduceMul, Nat.reduceSub, reduceCtorEq, ↓reduceIte]; (first | refine gsel_skip ?_ | refine gsel_go ?_ | skip); (first | refine hK _ _ _ ?_ | refine ⟨by first | omega | exact ⟨_, rfl, rfl⟩ | exact fun _ => ⟨_, rfl, rfl⟩ | (intro h; simp only [List.append_assoc, h, true_and]; omega) | (clear hK; intro h; simp_all <;> omega), hK _ _ _ ?_⟩); clear hK K) | refine VC.draw mixP (by rfl) (by rfl) ?_ | refine ⟨okd_of (by kernel_rfl), ?_⟩ | refine BQ.other (by decide) ?_ | refine VC.seq ?_ | refine AO.nil ?_ | refine VC.block ?_))
  refine ⟨by first | exact .inr rfl | exact .inl rfl, ?_⟩; rw [Tryz.results248]; simp only [resOk, resV, go_sem, Int.reduceBEq, Int.reduceLE, Int.reduceLT, Int.reduceNeg, Nat.reduceAdd, Nat.reduceEqDiff, Nat.reduceLT, Nat.reduceLeDiff, Nat.reduceMul, Nat.reduceSub, reduceCtorEq, ↓reduceIte]
  have hv2 : V = ((decide (y ≥ 97) && decide (y ≤ 122)) || (decide (y ≥ 65) && decide (y ≤ 90)) || (y == 95)) := by rw [hv.out, Bool.or_assoc]
  rw [hv2]
  exact .c _
def okAt (i : Nat) (c : UInt8) : Bool := isLet c || (decide (0 < i) && isDig c)
theorem simp1_at {s : List UInt8} : simp1 s = true ↔ s ≠ [] ∧ ∀ (i : Nat) (c : UInt8), s[i]? = some c → okAt i c = true := by
  cases s with
  | nil => simp [simp1]
  | cons x xs =>
    simp only [simp1, Bool.and_eq_true, List.all_eq_true, ne_eq, reduceCtorEq, not_false_eq_true, true_and]
    constructor
    · rintro ⟨h1, h2⟩ i c hc
      match i with
      | 0 =>
        simp at hc
        subst hc
        simp [okAt, h1]
      | i + 1 =>
        rw [List.getElem?_cons_succ] at hc
        have := h2 c (List.mem_of_getElem? hc)
        simpa [okAt] using this
    · intro h
      refine ⟨by simpa [okAt] using h 0 x rfl, fun c hc => ?_⟩
      obtain ⟨i, hi⟩ := List.getElem?_of_mem hc
      simpa [okAt] using h (i + 1) c (by rw [List.getElem?_cons_succ]; exact hi)
set_option maxRecDepth 100000 in
set_option maxHeartbeats 800000 in
theorem simple1_told (s : List UInt8) (hs : s.length ≤ 1000000000) : Told Tryz.prog 187 [.c (.v (.string (str s)))] (.c (.v (.bool (simp1 s)))) := by
  obtain ⟨V, hV⟩ : ∃ V, V = simp1 s := ⟨_, rfl⟩
  rw [← hV]
  refine VC.told ent_187 Tryz.func187 rfl Tryz.ntmps187 (by simp) (by first | rfl | simp [AV.pureB, AV.pureL, pureL_c, pures]) (by first | rfl | simp [AV.pureB, AV.pureL, pureL_c, pures]) fun hb => ?_
  clear hb
  refine walkGF (@str_size) ?_
  refine VC.loop (ι := {i : Nat // i ≤ s.length ∧ ∀ (j : Nat) (c : UInt8), j < i → s[j]? = some c → okAt j c = true})
    (fun q => [(0, .c (.v (.string (str s)))), (5, .c (.v (.int .i64 (s.length : Int)))), (6, .c (.v (.int .i64 (q.1 : Int))))]) (fun _ => []) 800 (fun q => s.length - q.1) ⟨0, Nat.zero_le _, fun j c h => by omega⟩ ?_ ?_
  · simp only [Weak, eq_self, used_is, sc_any, sc_c, sc_pp, sc_ref, sc_row, sc_agg, sc_fn, ScL, some_imp, List.forall_mem_map, go_sem, Int.reduceBEq, Int.reduceLE, Int.reduceLT, Int.reduceNeg, Nat.reduceAdd, Nat.reduceEqDiff, Nat.reduceLT, Nat.reduceLeDiff, Nat.reduceMul, Nat.reduceSub, reduceCtorEq, ↓reduceIte]
    try trivial
  rintro ⟨i, hi, ht⟩
  simp only []
  refine walkG ?_
  refine VC.cond (by rfl) (by trivial) (fun hc => ?_) (fun hc => ?_)
  · have hlt : i < s.length := by simp at hc; omega
    obtain ⟨c, hx⟩ : ∃ c, s[i]? = some c := ⟨s[i], List.getElem?_eq_getElem hlt⟩
    have hw : IntKind.i64.wrap ((i : Int) + 1) = (i : Int) + 1 := wrap64_id (by omega) (by omega)
    have hL := letter_told c
    refine walkGF (And.intro @str_size (And.intro @str_dl hx)) ?_
    refine walkC (hL) ?_
    refine walkGF (And.intro @str_size (And.intro @str_dl hx)) ?_
    refine VC.cond (by rfl) (by trivial) (fun hc2 => ?_) (fun hc2 => ?_)
    · have hf : V = false := by
        cases h : V with
        | false => rfl
        | true =>
          rw [hV, simp1_at] at h
          have := h.2 i c hx
          cases hl : isLet c with
          | true => simp [hl] at hc2
          | false =>
            simp [okAt, isDig, hl] at this hc2
            omega
      subst hf
      refine walkG ?_
      refine ⟨by first | exact .inr rfl | exact .inl rfl, ?_⟩; rw [Tryz.results187]; simp only [resOk, resV, go_sem, Int.reduceBEq, Int.reduceLE, Int.reduceLT, Int.reduceNeg, Nat.reduceAdd, Nat.reduceEqDiff, Nat.reduceLT, Nat.reduceLeDiff, Nat.reduceMul, Nat.reduceSub, reduceCtorEq, ↓reduceIte]
      exact .c _
    · refine walkGF (hw) ?_
      refine .next ⟨i + 1, by omega, ?_⟩ ?_ (by simp only []; omega)
      · intro j d hj hd
        by_cases hji : j < i
        · exact ht j d hji hd
        · obtain rfl : j = i := by omega
          rw [hx] at hd
          obtain rfl := Option.some.inj hd
          cases hl : isLet c with
          | true => simp [okAt, hl]
          | false =>
            simp [okAt, isDig, hl] at hc2 ⊢
            omega
      simp only [Weak, eq_self, used_is, sc_any, sc_c, sc_pp, sc_ref, sc_row, sc_agg, sc_fn, ScL, some_imp, List.forall_mem_map, go_sem, Int.reduceBEq, Int.reduceLE, Int.reduceLT, Int.reduceNeg, Nat.reduceAdd, Nat.reduceEqDiff, Nat.reduceLT, Nat.reduceLeDiff, Nat.reduceMul, Nat.reduceSub, reduceCtorEq, ↓reduceIte]
      try exact cI (by omega)
  · have hE : (⟨#[]⟩ : ByteArray).toList = [] := str_toList []
    have hie : i = s.length := by simp at hc; omega
    have hf : V = !(s == []) := by
      rw [hV, Bool.eq_iff_iff, simp1_at]
      constructor
      · rintro ⟨h1, _⟩
        simpa using h1
      · intro h1
        refine ⟨by simpa using h1, fun j c hj => ht j c ?_ hj⟩
        have := (List.getElem?_eq_some_iff.1 hj).1
        omega
    refine walkGF (And.intro @str_toList hE) ?_
    refine ⟨by first | exact .inr rfl | exact .inl rfl, ?_⟩; rw [Tryz.results187]; simp only [resOk, resV, go_sem, Int.reduceBEq, Int.reduceLE, Int.reduceLT, Int.reduceNeg, Nat.reduceAdd, Nat.reduceEqDiff, Nat.reduceLT, Nat.reduceLeDiff, Nat.reduceMul, Nat.reduceSub, reduceCtorEq, ↓reduceIte]
    rw [hf]
    exact .c _
set_option maxRecDepth 100000 in
set_option maxHeartbeats 800000 in
theorem simple_told (s : List UInt8) (hs : s.length ≤ 1000000000) : Told Tryz.prog 184 [.c (.v (.string (str s)))] (.c (.v (.bool (simpleM s)))) := by
  obtain ⟨V, hV⟩ : ∃ V, V = simpleM s := ⟨_, rfl⟩
  rw [← hV]
  have hv : V = (decide ((s.length : Int) ≤ 100) && simp1 s) := by
    rw [hV, simpleM]
    congr 1
    simp
    omega
  have hT := simple1_told s hs
  clear hV
  refine VC.told ent_184 Tryz.func184 rfl Tryz.ntmps184 (by simp) (by first | rfl | simp [AV.pureB, AV.pureL, pureL_c, pures]) (by first | rfl | simp [AV.pureB, AV.pureL, pureL_c, pures]) fun hb => ?_
  clear hb
  refine walkGF (@str_size) ?_
  refine walkD (hT) ?_
  refine walkG ?_
  refine ⟨by first | exact .inr rfl | exact .inl rfl, ?_⟩; rw [Tryz.results184]; simp only [resOk, resV, go_sem, Int.reduceBEq, Int.reduceLE, Int.reduceLT, Int.reduceNeg, Nat.reduceAdd, Nat.reduceEqDiff, Nat.reduceLT, Nat.reduceLeDiff, Nat.reduceMul, Nat.reduceSub, reduceCtorEq, ↓reduceIte]
  rw [hv]
  exact .c _

theorem index_take (c : UInt8) : ∀ s : List UInt8, (Lib.indexByte s c = -1 ∧ s.takeWhile (· != c) = s ∧ s.dropWhile (· != c) = []) ∨ (∃ i : Nat, i < s.length ∧ Lib.indexByte s c = (i : Int) ∧ s.takeWhile (· != c) = s.take i ∧ s.dropWhile (· != c) = c :: s.drop (i + 1))
  | [] => .inl ⟨rfl, rfl, rfl⟩
  | x :: xs => by
    by_cases h : x = c
    · subst h
      exact .inr ⟨0, by simp, by simp [Lib.indexByte], by simp, by simp⟩
    · have hb : (x == c) = false := by simp [h]
      have hb' : (x != c) = true := by simp [h]
      rcases index_take c xs with ⟨h1, h2, h3⟩ | ⟨i, h0, h1, h2, h3⟩
      · exact .inl ⟨by simp [Lib.indexByte, hb, h1], by rw [List.takeWhile_cons, if_pos hb', h2], by rw [List.dropWhile_cons, if_pos hb', h3]⟩
      · refine .inr ⟨i + 1, by simp; omega, ?_, by rw [List.takeWhile_cons, if_pos hb', h2]; rfl, by rw [List.dropWhile_cons, if_pos hb', h3]; rfl⟩
        rw [Lib.indexByte, hb, h1]
        have : ((i : Int) == -1) = false := by simp
        simp [this]
theorem str_extract (l : List UInt8) (a b : Nat) : (str l).extract a b = str ((l.take b).drop a) := by
  apply ByteArray.ext
  simp [str, ByteArray.data_extract, List.drop_take]
theorem index_told (s : List UInt8) : Told Tryz.prog 278 [.c (.v (.string (str s))), .c (.v (.string ⟨#[46]⟩))] (.c (.v (.int .i64 (Lib.indexByte s 46)))) :=
  told_plain (xs := [.string (str s), .string ⟨#[46]⟩]) ent_278 rfl fun W => Tryz.stringslite_Index_one (str s) 46 W
set_option maxRecDepth 100000 in
set_option maxHeartbeats 800000 in
theorem cut0_told (s : List UInt8) (hs : s.length ≤ 1000000000) : Told Tryz.prog 247 [.c (.v (.string (str s))), .c (.v (.string ⟨#[46]⟩))] (.tup [.c (.v (.string (str (s.takeWhile (· != 46))))), .c (.v (.string (str (s.dropWhile (· != 46)).tail))), .c (.v (.bool (!(s.dropWhile (· != 46)).isEmpty)))]) := by
  have hI := index_told s
  rcases index_take 46 s with ⟨h1, h2, h3⟩ | ⟨i, h0, h1, h2, h3⟩
  · rw [h2, h3]
    rw [h1] at hI
    refine VC.told ent_247 Tryz.func247 rfl Tryz.ntmps247 (by simp) (by first | rfl | simp [AV.pureB, AV.pureL, pureL_c, pures]) (by first | rfl | simp [AV.pureB, AV.pureL, pureL_c, pures]) fun hb => ?_
    clear hb
    refine walkG ?_
    refine walkC (hI) ?_
    refine walkB ?_
    refine ⟨by first | exact .inr rfl | exact .inl rfl, ?_⟩; rw [Tryz.results247]; simp only [resOk, resV, go_sem, Int.reduceBEq, Int.reduceLE, Int.reduceLT, Int.reduceNeg, Nat.reduceAdd, Nat.reduceEqDiff, Nat.reduceLT, Nat.reduceLeDiff, Nat.reduceMul, Nat.reduceSub, reduceCtorEq, ↓reduceIte]
    exact ⟨.c _, .c _, .c _⟩
  · rw [h2, h3]
    rw [h1] at hI
    have hd : decide ((i : Int) ≥ 0) = true := by simp
    have hz : (⟨#[46]⟩ : ByteArray).size = 1 := rfl
    have hw : IntKind.i64.wrap ((i : Int) + 1) = (i : Int) + 1 := wrap64_id (by omega) (by omega)
    have hx1 : (str s).extract 0 i = str (s.take i) := by
      rw [str_extract, List.drop_zero]
    have hx2 : (str s).extract (i + 1) s.length = str (s.drop (i + 1)) := by
      rw [str_extract, List.take_length]
    have ht : ((i : Int) + 1).toNat = i + 1 := by omega
    refine VC.told ent_247 Tryz.func247 rfl Tryz.ntmps247 (by simp) (by first | rfl | simp [AV.pureB, AV.pureL, pureL_c, pures]) (by first | rfl | simp [AV.pureB, AV.pureL, pureL_c, pures]) fun hb => ?_
    clear hb
    refine walkG ?_
    refine walkC (hI) ?_
    refine walkBF (And.intro hd (And.intro hz (And.intro hw @str_size))) ?_
    refine ⟨by first | exact .inr rfl | exact .inl rfl, ?_⟩; rw [Tryz.results247]; simp only [resOk, resV, go_sem, Int.reduceBEq, Int.reduceLE, Int.reduceLT, Int.reduceNeg, Nat.reduceAdd, Nat.reduceEqDiff, Nat.reduceLT, Nat.reduceLeDiff, Nat.reduceMul, Nat.reduceSub, reduceCtorEq, ↓reduceIte]
    rw [ht, hx1, hx2]
    exact ⟨.c _, .c _, .c _⟩
theorem cut_told (s : List UInt8) (hs : s.length ≤ 1000000000) : Told Tryz.prog 186 [.c (.v (.string (str s))), .c (.v (.string ⟨#[46]⟩))] (.tup [.c (.v (.string (str (s.takeWhile (· != 46))))), .c (.v (.string (str (s.dropWhile (· != 46)).tail))), .c (.v (.bool (!(s.dropWhile (· != 46)).isEmpty)))]) := by
  have hI := cut0_told s hs
  refine VC.told ent_186 Tryz.func186 rfl Tryz.ntmps186 (by simp) (by first | rfl | simp [AV.pureB, AV.pureL, pureL_c, pures]) (by first | rfl | simp [AV.pureB, AV.pureL, pureL_c, pures]) fun hb => ?_
  clear hb
  refine walkG ?_
  refine walkC (hI) ?_
  refine walkG ?_
  refine ⟨by first | exact .inr rfl | exact .inl rfl, ?_⟩; rw [Tryz.results186]; simp only [resOk, resV, go_sem, Int.reduceBEq, Int.reduceLE, Int.reduceLT, Int.reduceNeg, Nat.reduceAdd, Nat.reduceEqDiff, Nat.reduceLT, Nat.reduceLeDiff, Nat.reduceMul, Nat.reduceSub, reduceCtorEq, ↓reduceIte]
  exact ⟨.c _, .c _, .c _⟩
set_option maxRecDepth 100000 in
set_option maxHeartbeats 800000 in
theorem full_told (s : List UInt8) (hs : s.length ≤ 1000000000) : Told Tryz.prog 100 [.c (.v (.string (str s)))] (.c (.v (.bool (fullM s)))) := by
  obtain ⟨V, hV⟩ : ∃ V, V = fullM s := ⟨_, rfl⟩
  rw [← hV]
  unfold fullM at hV
  refine VC.told ent_100 Tryz.func100 rfl Tryz.ntmps100 (by simp) (by first | rfl | simp [AV.pureB, AV.pureL, pureL_c, pures]) (by first | rfl | simp [AV.pureB, AV.pureL, pureL_c, pures]) fun hb => ?_
  clear hb
  refine walkGF (@str_size) ?_
  refine VC.cond (by rfl) (by trivial) (fun hc => ?_) (fun hc => ?_)
  · have hf : V = false := by
      have : ¬ (s.length ≤ 100) := by simp at hc; omega
      rw [hV]
      simp [this]
    subst hf
    refine walkG ?_
    refine ⟨by first | exact .inr rfl | exact .inl rfl, ?_⟩; rw [Tryz.results100]; simp only [resOk, resV, go_sem, Int.reduceBEq, Int.reduceLE, Int.reduceLT, Int.reduceNeg, Nat.reduceAdd, Nat.reduceEqDiff, Nat.reduceLT, Nat.reduceLeDiff, Nat.reduceMul, Nat.reduceSub, reduceCtorEq, ↓reduceIte]
    exact .c _
  have hl : s.length ≤ 100 := by simp at hc; omega
  have hv : fullF (s.length + 1) s = V := by rw [hV]; simp [hl]
  clear hV hc
  refine walkG ?_
  refine VC.loop (ι := {l : List UInt8 // l.length ≤ 100 ∧ fullF (l.length + 1) l = V}) (fun q => [(0, .c (.v (.string (str q.1))))]) (fun _ => []) 800 (fun q => q.1.length) ⟨s, hl, hv⟩ ?_ ?_
  · simp only [Weak, eq_self, used_is, sc_any, sc_c, sc_pp, sc_ref, sc_row, sc_agg, sc_fn, ScL, some_imp, List.forall_mem_map, go_sem, Int.reduceBEq, Int.reduceLE, Int.reduceLT, Int.reduceNeg, Nat.reduceAdd, Nat.reduceEqDiff, Nat.reduceLT, Nat.reduceLeDiff, Nat.reduceMul, Nat.reduceSub, reduceCtorEq, ↓reduceIte]
  rintro ⟨l, hl, hv⟩
  simp only []
  rw [fullF] at hv
  have hC := cut_told l (by omega)
  obtain ⟨p, hp⟩ : ∃ p, p = l.takeWhile (· != 46) := ⟨_, rfl⟩
  obtain ⟨D, hD⟩ : ∃ D, D = l.dropWhile (· != 46) := ⟨_, rfl⟩
  have hpl : p.length ≤ l.length := by rw [hp]; exact (List.takeWhile_sublist _).length_le
  have hDl : D.length ≤ l.length := by rw [hD]; exact (List.dropWhile_sublist _).length_le
  rw [← hp, ← hD] at hC hv
  clear hp hD
  have hS := simple1_told p (by omega)
  refine walkG ?_
  refine walkC (hC) ?_
  refine walkG ?_
  refine walkC (hS) ?_
  refine walkG ?_
  refine VC.cond (by rfl) (by trivial) (fun hc => ?_) (fun hc => ?_)
  · have hf : V = false := by
      rw [← hv]
      have : simp1 p = false := by simpa using hc
      simp [this]
    subst hf
    refine walkG ?_
    refine ⟨by first | exact .inr rfl | exact .inl rfl, ?_⟩; rw [Tryz.results100]; simp only [resOk, resV, go_sem, Int.reduceBEq, Int.reduceLE, Int.reduceLT, Int.reduceNeg, Nat.reduceAdd, Nat.reduceEqDiff, Nat.reduceLT, Nat.reduceLeDiff, Nat.reduceMul, Nat.reduceSub, reduceCtorEq, ↓reduceIte]
    exact .c _
  have hp1 : simp1 p = true := by simpa using hc
  rw [hp1, Bool.true_and] at hv
  refine walkG ?_
  refine VC.cond (by rfl) (by trivial) (fun hc2 => ?_) (fun hc2 => ?_)
  · cases D with
    | cons x r => simp at hc2
    | nil =>
      have hf : V = true := hv.symm
      subst hf
      refine walkG ?_
      refine ⟨by first | exact .inr rfl | exact .inl rfl, ?_⟩; rw [Tryz.results100]; simp only [resOk, resV, go_sem, Int.reduceBEq, Int.reduceLE, Int.reduceLT, Int.reduceNeg, Nat.reduceAdd, Nat.reduceEqDiff, Nat.reduceLT, Nat.reduceLeDiff, Nat.reduceMul, Nat.reduceSub, reduceCtorEq, ↓reduceIte]
      exact .c _
  · cases D with
    | nil => simp at hc2
    | cons x r =>
      simp only [] at hv
      simp only [List.length_cons] at hDl
      (repeat (first | refine pass ?_ | refine VC.region (by rfl) (by rfl) ?_ | (refine AO.step fun K hK => ?_; simp only [List.tail_cons, go_sem, Int.reduceBEq, Int.reduceLE, Int.reduceLT, Int.reduceNeg, Nat.reduceAdd, Nat.reduceEqDiff, Nat.reduceLT, Nat.reduceLeDiff, Nat.reduceMul, Nat.reduceSub, reduceCtorEq, ↓reduceIte]; (first | refine gsel_skip ?_ | refine gsel_go ?_ | skip); (first | refine hK _ _ _ ?_ | refine ⟨by first | omega | exact ⟨_, rfl, rfl⟩ | exact fun _ => ⟨_, rfl, rfl⟩ | (intro h; simp only [List.tail_cons, h, true_and]; omega) | (clear hK; intro h; simp_all <;> omega), hK _ _ _ ?_⟩); clear hK K) | refine VC.draw mixP (by rfl) (by rfl) ?_ | refine ⟨okd_of (by kernel_rfl), ?_⟩ | refine BQ.other (by decide) ?_ | refine VC.seq ?_ | refine AO.nil ?_ | refine VC.block ?_))
      refine .next ⟨r, by omega, by rw [← hv]; exact fullF_fuel _ _ _ (by omega) (by omega)⟩ ?_ (by simp only []; omega)
      simp only [Weak, eq_self, used_is, sc_any, sc_c, sc_pp, sc_ref, sc_row, sc_agg, sc_fn, ScL, some_imp, List.forall_mem_map, go_sem, Int.reduceBEq, Int.reduceLE, Int.reduceLT, Int.reduceNeg, Nat.reduceAdd, Nat.reduceEqDiff, Nat.reduceLT, Nat.reduceLeDiff, Nat.reduceMul, Nat.reduceSub, reduceCtorEq, ↓reduceIte]
set_option maxRecDepth 100000 in
set_option maxHeartbeats 800000 in
theorem kind_told (s : List UInt8) : Told Tryz.prog 180 [.c (.v (.string (str s)))] (.c (.v (.int .i64 (kindM s : Int)))) := by
  obtain ⟨V, hV⟩ : ∃ V, V = kindM s := ⟨_, rfl⟩
  rw [← hV]
  obtain ⟨L, hL⟩ : ∃ L, L = kwords.map fun l => PV.v (.string (str l)) := ⟨_, rfl⟩
  have hg : glob Tryz.prog 0 = some L := by rw [hL]; kernel_rfl
  have hLl : L.length = 15 := by rw [hL]; rfl
  have hLt : L.take 15 = L := by rw [← hLl, List.take_length]
  refine VC.told ent_180 Tryz.func180 rfl Tryz.ntmps180 (by simp) (by first | rfl | simp [AV.pureB, AV.pureL, pureL_c, pures]) (by first | rfl | simp [AV.pureB, AV.pureL, pureL_c, pures]) fun hb => ?_
  clear hb
  refine walkGF (And.intro hg (And.intro hLl hLt)) ?_
  have hE : (⟨#[]⟩ : ByteArray).toList = [] := str_toList []
  have hkl : kwords.length = 15 := rfl
  refine VC.loop (ι := {i : Nat // i ≤ 15 ∧ ∀ (j : Nat) (w : List UInt8), j < i → kwords[j]? = some w → s ≠ [] → w ≠ s}) (fun q => [(0, .c (.v (.string (str s)))), (5, .agg (L.map .c)), (6, .c (.v (.int .i64 (q.1 : Int))))]) (fun _ => []) 800 (fun q => 15 - q.1) ⟨0, by omega, fun j w h => by omega⟩ ?_ ?_
  · simp only [Weak, eq_self, used_is, sc_any, sc_c, sc_pp, sc_ref, sc_row, sc_agg, sc_fn, ScL, some_imp, List.forall_mem_map, go_sem, Int.reduceBEq, Int.reduceLE, Int.reduceLT, Int.reduceNeg, Nat.reduceAdd, Nat.reduceEqDiff, Nat.reduceLT, Nat.reduceLeDiff, Nat.reduceMul, Nat.reduceSub, reduceCtorEq, ↓reduceIte]
  rintro ⟨i, hi, ht⟩
  simp only []
  refine walkG ?_
  refine VC.cond (by rfl) (by trivial) (fun hc => ?_) (fun hc => ?_)
  · have hlt : i < 15 := by simp at hc; omega
    obtain ⟨w, hx⟩ : ∃ w, kwords[i]? = some w := ⟨kwords[i]'(by omega), List.getElem?_eq_getElem (by omega)⟩
    have hLx : (L.map AV.c)[i]? = some (.c (.v (.string (str w)))) := by rw [hL, List.getElem?_map, List.getElem?_map, hx]; rfl
    have hw : IntKind.i64.wrap ((i : Int) + 1) = (i : Int) + 1 := wrap64_id (by omega) (by omega)
    refine walkGF (And.intro hLx (And.intro @str_toList hE)) ?_
    refine VC.cond (by rfl) (by trivial) (fun hc2 => ?_) (fun hc2 => ?_)
    · have hh : w = s ∧ s ≠ [] := by simpa using hc2
      have hf : V = i := by
        rw [hV, kindM, if_neg hh.2]
        have : kwords.findIdx? (· == s) = some i := by
          rw [List.findIdx?_eq_some_iff_getElem]
          refine ⟨by omega, ?_, fun j hj => ?_⟩
          · have := (List.getElem?_eq_some_iff.1 hx).2
            simp [this, hh.1]
          · have := ht j _ hj (List.getElem?_eq_getElem (by omega)) hh.2
            simpa using this
        rw [this]
      subst hf
      refine walkG ?_
      refine ⟨by first | exact .inr rfl | exact .inl rfl, ?_⟩; rw [Tryz.results180]; simp only [resOk, resV, go_sem, Int.reduceBEq, Int.reduceLE, Int.reduceLT, Int.reduceNeg, Nat.reduceAdd, Nat.reduceEqDiff, Nat.reduceLT, Nat.reduceLeDiff, Nat.reduceMul, Nat.reduceSub, reduceCtorEq, ↓reduceIte]
      exact .c _
    · have hh : ¬ (w = s ∧ s ≠ []) := by simpa using hc2
      refine walkGF (hw) ?_
      refine .next ⟨i + 1, by omega, ?_⟩ ?_ (by simp only []; omega)
      · intro j u hj hu hs
        by_cases hji : j < i
        · exact ht j u hji hu hs
        · obtain rfl : j = i := by omega
          rw [hx] at hu
          obtain rfl := Option.some.inj hu
          exact fun e => hh ⟨e, hs⟩
      simp only [Weak, eq_self, used_is, sc_any, sc_c, sc_pp, sc_ref, sc_row, sc_agg, sc_fn, ScL, some_imp, List.forall_mem_map, go_sem, Int.reduceBEq, Int.reduceLE, Int.reduceLT, Int.reduceNeg, Nat.reduceAdd, Nat.reduceEqDiff, Nat.reduceLT, Nat.reduceLeDiff, Nat.reduceMul, Nat.reduceSub, reduceCtorEq, ↓reduceIte]
      exact cI (by omega)
  · have hie : i = 15 := by simp at hc; omega
    have hf : V = 0 := by
      rw [hV, kindM]
      split
      · rfl
      · rename_i hs
        have : kwords.findIdx? (· == s) = none := by
          rw [List.findIdx?_eq_none_iff]
          intro w hw
          obtain ⟨j, hj⟩ := List.getElem?_of_mem hw
          have := ht j w (by have := (List.getElem?_eq_some_iff.1 hj).1; omega) hj hs
          simpa using this
        rw [this]
    subst hf
    refine walkG ?_
    refine ⟨by first | exact .inr rfl | exact .inl rfl, ?_⟩; rw [Tryz.results180]; simp only [resOk, resV, go_sem, Int.reduceBEq, Int.reduceLE, Int.reduceLT, Int.reduceNeg, Nat.reduceAdd, Nat.reduceEqDiff, Nat.reduceLT, Nat.reduceLeDiff, Nat.reduceMul, Nat.reduceSub, reduceCtorEq, ↓reduceIte]
    exact .c _

set_option maxRecDepth 100000 in
set_option maxHeartbeats 400000 in
theorem sindex_told (ks : List (List UInt8)) (key : List UInt8) : Told Tryz.prog 118 [.c (.sl 1 (ks.map sPV)), .c (.v (.string (str key)))] (.c (.v (.int .i64 (idxS key ks)))) := by
  refine VC.told ent_118 Tryz.func118 rfl Tryz.ntmps118 (by simp) rfl rfl fun hb => ?_
  simp only [abd_c, pbd_sl, pbd_v, List.mem_cons, List.not_mem_nil, or_false, forall_eq_or_imp, forall_eq, List.length_map, and_true] at hb
  have h1 := hb.1
  clear hb
  refine walkG ?_
  refine VC.loop (ι := {i : Nat // i ≤ ks.length ∧ ∀ j, j < i → ks[j]? ≠ some key}) (fun i => [(0, .c (.sl 1 (ks.map sPV))), (1, .c (.v (.string (str key)))), (7, .c (.v (.int .i64 ks.length))), (8, .c (.v (.int .i64 i.1)))]) (fun _ => []) 0 (fun i => ks.length - i.1) ⟨0, Nat.zero_le _, by intro j hj; omega⟩ ?_ ?_
  · simp only [Weak, eq_self, used_is, sc_any, sc_c, sc_pp, sc_ref, sc_row, sc_agg, sc_fn, ScL, some_imp, List.forall_mem_map, go_sem, Int.reduceBEq, Int.reduceLE, Int.reduceLT, Int.reduceNeg, Nat.reduceAdd, Nat.reduceEqDiff, Nat.reduceLT, Nat.reduceLeDiff, Nat.reduceMul, Nat.reduceSub, reduceCtorEq, ↓reduceIte]
    all_goals rfl
  rintro ⟨i, hi, ht⟩
  refine walkG ?_
  refine VC.cond (by rfl) (by trivial) (fun hc => ?_) (fun hc => ?_)
  · simp only [decide_eq_true_eq] at hc
    obtain ⟨x, hx⟩ : ∃ x, ks[i]? = some x := ⟨ks[i], List.getElem?_eq_getElem (by omega)⟩
    have hw : IntKind.i64.wrap ((i : Int) + 1) = (i : Int) + 1 := wrap64_id (by omega) (by omega)
    (repeat (first | refine pass ?_ | refine VC.region (by rfl) (by rfl) ?_ | (refine AO.step fun K hK => ?_; simp only [List.getElem?_map, hx, sPV, str_toList, go_sem, Int.reduceBEq, Int.reduceLE, Int.reduceLT, Int.reduceNeg, Nat.reduceAdd, Nat.reduceEqDiff, Nat.reduceLT, Nat.reduceLeDiff, Nat.reduceMul, Nat.reduceSub, reduceCtorEq, ↓reduceIte]; (first | refine gsel_skip ?_ | refine gsel_go ?_ | skip); (first | refine hK _ _ _ ?_ | refine ⟨by first | omega | exact ⟨_, rfl, rfl⟩ | exact fun _ => ⟨_, rfl, rfl⟩ | (intro h; simp only [List.getElem?_map, hx, sPV, str_toList, h, true_and]; omega) | (clear hK; intro h; simp_all <;> omega), hK _ _ _ ?_⟩); clear hK K) | refine VC.draw mixP (by rfl) (by rfl) ?_ | refine ⟨okd_of (by kernel_rfl), ?_⟩ | refine BQ.other (by decide) ?_ | refine VC.seq ?_ | refine AO.nil ?_ | refine VC.block ?_))
    refine VC.cond (by rfl) (by trivial) (fun hc2 => ?_) (fun hc2 => ?_)
    · have hxy : key = x := by simpa using hc2
      subst hxy
      have hr := idxS_at hx ht
      refine walkG ?_
      refine ⟨.inr rfl, ?_⟩
      rw [Tryz.results118, hr]
      simp only [resOk, resV, go_sem, Int.reduceBEq, Int.reduceLE, Int.reduceLT, Int.reduceNeg, Nat.reduceAdd, Nat.reduceEqDiff, Nat.reduceLT, Nat.reduceLeDiff, Nat.reduceMul, Nat.reduceSub, reduceCtorEq, ↓reduceIte]
      exact .c _
    · have hxy : key ≠ x := by simpa using hc2
      refine walkGF (hw) ?_
      refine .next ⟨i + 1, by omega, fun j hj => ?_⟩ ?_ (by simp only []; omega)
      · rcases Nat.lt_or_ge j i with h | h
        · exact ht j h
        · obtain rfl : j = i := by omega
          rw [hx]
          intro e
          exact hxy (Option.some.inj e).symm
      simp only [Weak, eq_self, used_is, sc_any, sc_c, sc_pp, sc_ref, sc_row, sc_agg, sc_fn, ScL, some_imp, List.forall_mem_map, go_sem, Int.reduceBEq, Int.reduceLE, Int.reduceLT, Int.reduceNeg, Nat.reduceAdd, Nat.reduceEqDiff, Nat.reduceLT, Nat.reduceLeDiff, Nat.reduceMul, Nat.reduceSub, reduceCtorEq, ↓reduceIte]
      exact cI (by omega)
  · simp only [decide_eq_false_iff_not] at hc
    obtain rfl : i = ks.length := by omega
    have hr := idxS_none ht
    refine walkG ?_
    refine ⟨.inr rfl, ?_⟩
    rw [Tryz.results118, hr]
    simp only [resOk, resV, go_sem, Int.reduceBEq, Int.reduceLE, Int.reduceLT, Int.reduceNeg, Nat.reduceAdd, Nat.reduceEqDiff, Nat.reduceLT, Nat.reduceLeDiff, Nat.reduceMul, Nat.reduceSub, reduceCtorEq, ↓reduceIte]
    exact .c _
end
end Go.Proofs.YtkaogeogjjcdhaaGreatDoor
