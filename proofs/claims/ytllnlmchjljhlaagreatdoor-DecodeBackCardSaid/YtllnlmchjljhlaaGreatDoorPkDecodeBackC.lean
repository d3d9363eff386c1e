/- Texts that lead to the law DecodeBack, joined. -/
import Derived.Test.YtllnlmchjljhlaaGreatDoorPkDecodeBackB
import Derived.Test.YtllnlmchjljhlaaGreatDoorPkDecodeBackA
import Derived.Test.YtllnlmchjljhlaaGreatDoorPkDecodeBackXAbB
namespace Go.Proofs.YtllnlmchjljhlaaGreatDoor
open Go.RowKit
set_option linter.unusedVariables false
set_option linter.unusedSimpArgs false
section
attribute [local go_sem] opx opE ev okx gcond bnd okO AV.get AV.okb cAV upd_at putd_some putd_none wrs_nil wrs_cons look_nil look_cons st argT_at bpick_and bpick_or bpick_true bpick_false binV binI binS binVOk binOk isShift binSOk unV unVOk loadV loadP cellsA zeroA Blkd.len setE grown moreA moreR moreOk eqRes pv fillA fillE putSeg AV.cellish AV.pureL AV.pureB lentL_is ex_some AV.ren AV.renL renL_c Blkd.ren rho wrM renN lentOk rhoE keepM endOk tyA_2 tyA_3 tyA_4 tyA_5 tyA_6 tyA_7 tyA_8 tyA_9 tyA_10 tyA_11 tyA_12 tyA_13 tyA_14 tyA_15 tyA_16 tyA_17 tyA_18 tyA_19 tyA_21 tyA_22 tyA_23 tyA_24 tyA_29 tyA_30 tyA_31 tyA_32 tyA_33 tyA_34 tyA_35 tyA_36 tyA_37 tyA_38 tyA_39 tyA_40 tyA_41 tyA_42 tyA_43 tyA_49 tyA_85 tyA_89 tyA_99 tyA_100 tyA_101 tyA_105 tyA_106 tyA_107 tyA_108 tyA_109 tyA_111 tyA_112 tyA_113 tyA_114 tyA_123 tyA_126 tyA_127 tyA_128 tyA_129 tyA_130 tyA_153 tyA_163 tyA_164 tyA_165 tyA_179 tyA_185 tyA_191 tyA_192 tyA_193 tyA_194 tyA_195 tyA_196 tyA_209 tyA_213 tyA_214 tyA_215 tyA_241 tyA_248 tyA_274 tyA_275 tyA_276 tyA_292 tyA_294 tyA_302 tyA_307 tyA_315 tyA_319 tyA_321 tyA_324 tyA_325 tyA_326 tyA_327 tyA_328 tyA_329 tyA_330 tyA_332 tyA_333 Option.map_some Option.map_none Option.getD_some Option.getD_none Option.bind_some Option.bind_none List.getElem?_cons_zero List.getElem?_cons_succ List.getElem?_nil List.getElem?_toArray List.length_cons List.length_nil List.length_map List.forall_mem_map List.map_cons List.map_nil List.drop_zero List.drop_succ_cons List.drop_nil List.take_zero List.take_succ_cons List.take_nil List.mem_cons List.not_mem_nil or_false forall_eq_or_imp forall_eq List.set_cons_zero List.set_cons_succ List.cons_append List.nil_append List.append_nil List.foldl_cons List.foldl_nil List.replicate_succ List.replicate_zero List.all_cons List.all_nil if_true if_false Bool.false_eq_true ne_eq not_false_eq_true not_true_eq_false true_and and_true and_self true_implies imp_self implies_true forall_const beq_self_eq_true Bool.and_true Bool.true_and Bool.and_false Bool.false_and Bool.or_true Bool.true_or Bool.or_false Bool.false_or Bool.not_true Bool.not_false Bool.not_eq_eq_eq_not intKindOf Value.oneCell' Int.toNat_natCast beq_true beq_false Bool.not_eq_true false_implies false_or true_or or_true Nat.zero_add Nat.add_zero decide_true decide_false Int.cast_ofNat_Int Int.toNat_zero Int.toNat_one eq_self

def dB (ns : List NT) (r : Int) (B : List UInt8) (p : Nat) (e : Int) : Blkd := ⟨false, 109, 5, [[.c (.sl 10 (ns.map NT.cells)), .c (.v (.int .i64 r)), .c (.sl 1 (bytePV B)), .c (.v (.int .i64 (p : Int))), .c (.v (.int .i64 e))]]⟩
structure Got {α : Type} (R : Except Int (α × Nat)) (B : List UInt8) (e : Int) (v : α) (q : Nat) (e' : Int) : Prop where
  le : q ≤ B.length
  no : e ≠ 0 → e' = e
  bad : ∀ x, e = 0 → R = .error x → e' = x
  ok : ∀ w q', e = 0 → R = .ok (w, q') → v = w ∧ q = q' ∧ e' = 0
theorem got_lft {α : Type} {f : Rd α} (hf : Fair f) (d : α) {B : List UInt8} {p : Nat} (hp : p ≤ B.length) (e : Int) : Got (f B p) B e (lft f d B p e).1 (lft f d B p e).2.1 (lft f d B p e).2.2 := by
  by_cases h : e = 0
  · subst h
    cases hr : f B p with
    | error x =>
      rw [lft_bad _ hr]
      exact ⟨hp, fun h => absurd rfl h, fun y _ hy => by injection hy, fun w q' _ hy => by simp at hy⟩
    | ok r =>
      rw [lft_ok _ hr]
      refine ⟨(hf.fwd hp hr).2, fun h => absurd rfl h, fun y _ hy => by simp at hy, fun w q' _ hy => ?_⟩
      injection hy with hy
      rw [hy]
      exact ⟨rfl, rfl, rfl⟩
  · rw [lft_e _ _ _ _ h]
    exact ⟨hp, fun _ => rfl, fun y h0 => absurd h0 h, fun w q' h0 => absurd h0 h⟩
set_option maxRecDepth 100000 in
set_option maxHeartbeats 400000 in
theorem dfail_told (ns : List NT) (r : Int) (B : List UInt8) (p : Nat) (e x : Int) : ToldM Tryz.prog 128 [.ref 1000000 1 0 0, .c (.v (.int .i64 x))] [dB ns r B p e] [some (dB ns r B p (if e = 0 then x else e))] (.tup []) := by
  unfold dB
  by_cases h : e = 0
  · rw [if_pos h]
    have e1 : (e == 0) = true := by simpa using h
    refine VC.toldM ent_128 [] Tryz.func128 rfl Tryz.ntmps128 (by simp) (by simp only [ScM, zOk, inL, eq_self, used_is, sc_any, sc_c, sc_pp, sc_ref, sc_row, sc_agg, sc_tup, sc_fn, ScL, some_imp, List.forall_mem_map, Nat.le_refl, go_sem, simprocAttr]) (by simp only [ScM, zOk, inL, eq_self, used_is, sc_any, sc_c, sc_pp, sc_ref, sc_row, sc_agg, sc_tup, sc_fn, ScL, some_imp, List.forall_mem_map, Nat.le_refl, go_sem, simprocAttr]) (by simp only [ScM, zOk, inL, eq_self, used_is, sc_any, sc_c, sc_pp, sc_ref, sc_row, sc_agg, sc_tup, sc_fn, ScL, some_imp, List.forall_mem_map, Nat.le_refl, go_sem, simprocAttr]) (by simp only [ScM, zOk, inL, eq_self, used_is, sc_any, sc_c, sc_pp, sc_ref, sc_row, sc_agg, sc_tup, sc_fn, ScL, some_imp, List.forall_mem_map, Nat.le_refl, go_sem, simprocAttr]) (by simp) fun hb hbL => ?_
    clear hb hbL
    refine walkBF (e1) ?_
    refine ⟨by first | exact .inr rfl | exact .inl rfl, ?_⟩; rw [Tryz.results128]; simp only [resOk, resV, go_sem, simprocAttr]
  · rw [if_neg h]
    have e1 : (e == 0) = false := by simpa using h
    refine VC.toldM ent_128 [] Tryz.func128 rfl Tryz.ntmps128 (by simp) (by simp only [ScM, zOk, inL, eq_self, used_is, sc_any, sc_c, sc_pp, sc_ref, sc_row, sc_agg, sc_tup, sc_fn, ScL, some_imp, List.forall_mem_map, Nat.le_refl, go_sem, simprocAttr]) (by simp only [ScM, zOk, inL, eq_self, used_is, sc_any, sc_c, sc_pp, sc_ref, sc_row, sc_agg, sc_tup, sc_fn, ScL, some_imp, List.forall_mem_map, Nat.le_refl, go_sem, simprocAttr]) (by simp only [ScM, zOk, inL, eq_self, used_is, sc_any, sc_c, sc_pp, sc_ref, sc_row, sc_agg, sc_tup, sc_fn, ScL, some_imp, List.forall_mem_map, Nat.le_refl, go_sem, simprocAttr]) (by simp only [ScM, zOk, inL, eq_self, used_is, sc_any, sc_c, sc_pp, sc_ref, sc_row, sc_agg, sc_tup, sc_fn, ScL, some_imp, List.forall_mem_map, Nat.le_refl, go_sem, simprocAttr]) (by simp) fun hb hbL => ?_
    clear hb hbL
    refine walkBF (e1) ?_
    refine ⟨by first | exact .inr rfl | exact .inl rfl, ?_⟩; rw [Tryz.results128]; simp only [resOk, resV, go_sem, simprocAttr]
set_option maxRecDepth 100000 in
set_option maxHeartbeats 400000 in
theorem dnumber_told {g : FuncId} (ns : List NT) (r : Int) (B : List UInt8) (p q : Nat) (e e' n : Int) (hg : Told Tryz.prog g [.agg ((rC B p e).map .c)] (.tup [.c (.v (.int .i64 n)), .agg ((rC B q e').map .c)])) :
    ToldM Tryz.prog 118 [.ref 1000000 1 0 0, .fn (.func g) [] []] [dB ns r B p e] [some (dB ns r B q e')] (.c (.v (.int .i64 n))) := by
  unfold dB
  unfold rC at hg
  refine VC.toldM ent_118 [] Tryz.func118 rfl Tryz.ntmps118 (by simp) (by simp only [ScM, zOk, inL, eq_self, used_is, sc_any, sc_c, sc_pp, sc_ref, sc_row, sc_agg, sc_tup, sc_fn, ScL, some_imp, List.forall_mem_map, Nat.le_refl, go_sem, simprocAttr]) (by simp only [ScM, zOk, inL, eq_self, used_is, sc_any, sc_c, sc_pp, sc_ref, sc_row, sc_agg, sc_tup, sc_fn, ScL, some_imp, List.forall_mem_map, Nat.le_refl, go_sem, simprocAttr]) (by simp only [ScM, zOk, inL, eq_self, used_is, sc_any, sc_c, sc_pp, sc_ref, sc_row, sc_agg, sc_tup, sc_fn, ScL, some_imp, List.forall_mem_map, Nat.le_refl, go_sem, simprocAttr]) (by simp only [ScM, zOk, inL, eq_self, used_is, sc_any, sc_c, sc_pp, sc_ref, sc_row, sc_agg, sc_tup, sc_fn, ScL, some_imp, List.forall_mem_map, Nat.le_refl, go_sem, simprocAttr]) (by simp) fun hb hbL => ?_
  clear hb hbL
  refine walkG ?_
  refine walkC (hg) ?_
  refine walkG ?_
  refine ⟨by first | exact .inr rfl | exact .inl rfl, ?_⟩; rw [Tryz.results118]; simp only [resOk, resV, go_sem, simprocAttr]
  exact .c _
set_option maxRecDepth 100000 in
set_option maxHeartbeats 400000 in
theorem dtext_told {g : FuncId} (ns : List NT) (r : Int) (B : List UInt8) (p q : Nat) (e e' : Int) (l : List UInt8) (hg : Told Tryz.prog g [.agg ((rC B p e).map .c)] (.tup [.c (.sl 1 (bytePV l)), .agg ((rC B q e').map .c)])) :
    ToldM Tryz.prog 123 [.ref 1000000 1 0 0, .fn (.func g) [] []] [dB ns r B p e] [some (dB ns r B q e')] (.c (.sl 1 (bytePV l))) := by
  unfold dB
  unfold rC at hg
  refine VC.toldM ent_123 [] Tryz.func123 rfl Tryz.ntmps123 (by simp) (by simp only [ScM, zOk, inL, eq_self, used_is, sc_any, sc_c, sc_pp, sc_ref, sc_row, sc_agg, sc_tup, sc_fn, ScL, some_imp, List.forall_mem_map, Nat.le_refl, go_sem, simprocAttr]) (by simp only [ScM, zOk, inL, eq_self, used_is, sc_any, sc_c, sc_pp, sc_ref, sc_row, sc_agg, sc_tup, sc_fn, ScL, some_imp, List.forall_mem_map, Nat.le_refl, go_sem, simprocAttr]) (by simp only [ScM, zOk, inL, eq_self, used_is, sc_any, sc_c, sc_pp, sc_ref, sc_row, sc_agg, sc_tup, sc_fn, ScL, some_imp, List.forall_mem_map, Nat.le_refl, go_sem, simprocAttr]) (by simp only [ScM, zOk, inL, eq_self, used_is, sc_any, sc_c, sc_pp, sc_ref, sc_row, sc_agg, sc_tup, sc_fn, ScL, some_imp, List.forall_mem_map, Nat.le_refl, go_sem, simprocAttr]) (by simp) fun hb hbL => ?_
  clear hb hbL
  refine walkG ?_
  refine walkC (hg) ?_
  refine walkG ?_
  refine ⟨by first | exact .inr rfl | exact .inl rfl, ?_⟩; rw [Tryz.results123]; simp only [resOk, resV, go_sem, simprocAttr]
  exact .c _
set_option maxRecDepth 100000 in
set_option maxHeartbeats 800000 in
theorem dplace_any {g : FuncId} (ns : List NT) (r : Int) (B : List UInt8) (p q : Nat) (e e' n : Int) (many : Nat) (hN : ToldM Tryz.prog 118 [.ref 1000000 1 0 0, .fn (.func g) [] []] [dB ns r B p e] [some (dB ns r B q e')] (.c (.v (.int .i64 n)))) :
    ToldM Tryz.prog 127 [.ref 1000000 1 0 0, .fn (.func g) [] [], .c (.v (.int .i64 (many : Int)))] [dB ns r B p e] [some (dB ns r B q (if n < 0 ∨ (many : Int) ≤ n then (if e' = 0 then 11 else e') else e'))] (.c (.v (.int .i64 (if n < 0 ∨ (many : Int) ≤ n then 0 else n)))) := by
  have hF := dfail_told ns r B q e' 11
  generalize hE : (if e' = 0 then (11 : Int) else e') = E at hF
  unfold dB at *
  by_cases h1 : n < 0
  · rw [if_pos (.inl h1), if_pos (.inl h1)]
    have e1 : decide (n < 0) = true := by simpa using h1
    refine VC.toldM ent_127 [] Tryz.func127 rfl Tryz.ntmps127 (by simp) (by simp only [ScM, zOk, inL, eq_self, used_is, sc_any, sc_c, sc_pp, sc_ref, sc_row, sc_agg, sc_tup, sc_fn, ScL, some_imp, List.forall_mem_map, Nat.le_refl, go_sem, simprocAttr]) (by simp only [ScM, zOk, inL, eq_self, used_is, sc_any, sc_c, sc_pp, sc_ref, sc_row, sc_agg, sc_tup, sc_fn, ScL, some_imp, List.forall_mem_map, Nat.le_refl, go_sem, simprocAttr]) (by simp only [ScM, zOk, inL, eq_self, used_is, sc_any, sc_c, sc_pp, sc_ref, sc_row, sc_agg, sc_tup, sc_fn, ScL, some_imp, List.forall_mem_map, Nat.le_refl, go_sem, simprocAttr]) (by simp only [ScM, zOk, inL, eq_self, used_is, sc_any, sc_c, sc_pp, sc_ref, sc_row, sc_agg, sc_tup, sc_fn, ScL, some_imp, List.forall_mem_map, Nat.le_refl, go_sem, simprocAttr]) (by simp) fun hb hbL => ?_
    clear hb hbL
    refine walkG ?_
    ((refine AO.step fun K hK => ?_; simp only [go_sem, Int.reduceBEq, Int.reduceLE, Int.reduceLT, Int.reduceNeg, Nat.reduceAdd, Nat.reduceEqDiff, Nat.reduceLT, Nat.reduceLeDiff, Nat.reduceMul, Nat.reduceSub, reduceCtorEq, ↓reduceIte]; (first | refine gsel_go ?_ | skip)); refine .inr (.inr (.inl ⟨?vy1, [1000000], ?va1, ?vl1, ?vm1, ?cond1, ?cont1⟩)); (case cond1 => ((repeat' apply And.intro) <;> (try ((with_reducible show ToldM _ _ _ _ _ _); exact hN))); (all_goals first | trivial | (simp only [go_sem, simprocAttr]; done) | (simp; done) | rfl)); (first | refine hK _ _ _ ?_ | (simp only [go_sem, simprocAttr]; first | refine hK _ _ _ ?_ | refine ⟨rfl, hK _ _ _ ?_⟩)); clear hK K)
    refine walkBF (e1) ?_
    ((refine AO.step fun K hK => ?_; simp only [go_sem, Int.reduceBEq, Int.reduceLE, Int.reduceLT, Int.reduceNeg, Nat.reduceAdd, Nat.reduceEqDiff, Nat.reduceLT, Nat.reduceLeDiff, Nat.reduceMul, Nat.reduceSub, reduceCtorEq, ↓reduceIte]; (first | refine gsel_go ?_ | skip)); refine .inr (.inr (.inl ⟨?vy2, [1000000], ?va2, ?vl2, ?vm2, ?cond2, ?cont2⟩)); (case cond2 => ((repeat' apply And.intro) <;> (try ((with_reducible show ToldM _ _ _ _ _ _); exact hF))); (all_goals first | trivial | (simp only [go_sem, simprocAttr]; done) | (simp; done) | rfl)); (first | refine hK _ _ _ ?_ | (simp only [go_sem, simprocAttr]; first | refine hK _ _ _ ?_ | refine ⟨rfl, hK _ _ _ ?_⟩)); clear hK K)
    refine walkB ?_
    refine ⟨by first | exact .inr rfl | exact .inl rfl, ?_⟩; rw [Tryz.results127]; simp only [resOk, resV, go_sem, simprocAttr]
    exact .c _
  have e1 : decide (n < 0) = false := by simpa using h1
  by_cases h2 : (many : Int) ≤ n
  · rw [if_pos (.inr h2), if_pos (.inr h2)]
    have e2 : decide (n ≥ (many : Int)) = true := by simpa using h2
    refine VC.toldM ent_127 [] Tryz.func127 rfl Tryz.ntmps127 (by simp) (by simp only [ScM, zOk, inL, eq_self, used_is, sc_any, sc_c, sc_pp, sc_ref, sc_row, sc_agg, sc_tup, sc_fn, ScL, some_imp, List.forall_mem_map, Nat.le_refl, go_sem, simprocAttr]) (by simp only [ScM, zOk, inL, eq_self, used_is, sc_any, sc_c, sc_pp, sc_ref, sc_row, sc_agg, sc_tup, sc_fn, ScL, some_imp, List.forall_mem_map, Nat.le_refl, go_sem, simprocAttr]) (by simp only [ScM, zOk, inL, eq_self, used_is, sc_any, sc_c, sc_pp, sc_ref, sc_row, sc_agg, sc_tup, sc_fn, ScL, some_imp, List.forall_mem_map, Nat.le_refl, go_sem, simprocAttr]) (by simp only [ScM, zOk, inL, eq_self, used_is, sc_any, sc_c, sc_pp, sc_ref, sc_row, sc_agg, sc_tup, sc_fn, ScL, some_imp, List.forall_mem_map, Nat.le_refl, go_sem, simprocAttr]) (by simp) fun hb hbL => ?_
    clear hb hbL
    refine walkG ?_
    ((refine AO.step fun K hK => ?_; simp only [go_sem, Int.reduceBEq, Int.reduceLE, Int.reduceLT, Int.reduceNeg, Nat.reduceAdd, Nat.reduceEqDiff, Nat.reduceLT, Nat.reduceLeDiff, Nat.reduceMul, Nat.reduceSub, reduceCtorEq, ↓reduceIte]; (first | refine gsel_go ?_ | skip)); refine .inr (.inr (.inl ⟨?vy3, [1000000], ?va3, ?vl3, ?vm3, ?cond3, ?cont3⟩)); (case cond3 => ((repeat' apply And.intro) <;> (try ((with_reducible show ToldM _ _ _ _ _ _); exact hN))); (all_goals first | trivial | (simp only [go_sem, simprocAttr]; done) | (simp; done) | rfl)); (first | refine hK _ _ _ ?_ | (simp only [go_sem, simprocAttr]; first | refine hK _ _ _ ?_ | refine ⟨rfl, hK _ _ _ ?_⟩)); clear hK K)
    refine walkBF (And.intro e1 e2) ?_
    ((refine AO.step fun K hK => ?_; simp only [go_sem, Int.reduceBEq, Int.reduceLE, Int.reduceLT, Int.reduceNeg, Nat.reduceAdd, Nat.reduceEqDiff, Nat.reduceLT, Nat.reduceLeDiff, Nat.reduceMul, Nat.reduceSub, reduceCtorEq, ↓reduceIte]; (first | refine gsel_go ?_ | skip)); refine .inr (.inr (.inl ⟨?vy4, [1000000], ?va4, ?vl4, ?vm4, ?cond4, ?cont4⟩)); (case cond4 => ((repeat' apply And.intro) <;> (try ((with_reducible show ToldM _ _ _ _ _ _); exact hF))); (all_goals first | trivial | (simp only [go_sem, simprocAttr]; done) | (simp; done) | rfl)); (first | refine hK _ _ _ ?_ | (simp only [go_sem, simprocAttr]; first | refine hK _ _ _ ?_ | refine ⟨rfl, hK _ _ _ ?_⟩)); clear hK K)
    refine walkB ?_
    refine ⟨by first | exact .inr rfl | exact .inl rfl, ?_⟩; rw [Tryz.results127]; simp only [resOk, resV, go_sem, simprocAttr]
    exact .c _
  · rw [if_neg (by omega), if_neg (by omega)]
    have e2 : decide (n ≥ (many : Int)) = false := by simpa using h2
    refine VC.toldM ent_127 [] Tryz.func127 rfl Tryz.ntmps127 (by simp) (by simp only [ScM, zOk, inL, eq_self, used_is, sc_any, sc_c, sc_pp, sc_ref, sc_row, sc_agg, sc_tup, sc_fn, ScL, some_imp, List.forall_mem_map, Nat.le_refl, go_sem, simprocAttr]) (by simp only [ScM, zOk, inL, eq_self, used_is, sc_any, sc_c, sc_pp, sc_ref, sc_row, sc_agg, sc_tup, sc_fn, ScL, some_imp, List.forall_mem_map, Nat.le_refl, go_sem, simprocAttr]) (by simp only [ScM, zOk, inL, eq_self, used_is, sc_any, sc_c, sc_pp, sc_ref, sc_row, sc_agg, sc_tup, sc_fn, ScL, some_imp, List.forall_mem_map, Nat.le_refl, go_sem, simprocAttr]) (by simp only [ScM, zOk, inL, eq_self, used_is, sc_any, sc_c, sc_pp, sc_ref, sc_row, sc_agg, sc_tup, sc_fn, ScL, some_imp, List.forall_mem_map, Nat.le_refl, go_sem, simprocAttr]) (by simp) fun hb hbL => ?_
    clear hb hbL
    refine walkG ?_
    ((refine AO.step fun K hK => ?_; simp only [go_sem, Int.reduceBEq, Int.reduceLE, Int.reduceLT, Int.reduceNeg, Nat.reduceAdd, Nat.reduceEqDiff, Nat.reduceLT, Nat.reduceLeDiff, Nat.reduceMul, Nat.reduceSub, reduceCtorEq, ↓reduceIte]; (first | refine gsel_go ?_ | skip)); refine .inr (.inr (.inl ⟨?vy5, [1000000], ?va5, ?vl5, ?vm5, ?cond5, ?cont5⟩)); (case cond5 => ((repeat' apply And.intro) <;> (try ((with_reducible show ToldM _ _ _ _ _ _); exact hN))); (all_goals first | trivial | (simp only [go_sem, simprocAttr]; done) | (simp; done) | rfl)); (first | refine hK _ _ _ ?_ | (simp only [go_sem, simprocAttr]; first | refine hK _ _ _ ?_ | refine ⟨rfl, hK _ _ _ ?_⟩)); clear hK K)
    refine walkBF (And.intro e1 e2) ?_
    refine ⟨by first | exact .inr rfl | exact .inl rfl, ?_⟩; rw [Tryz.results127]; simp only [resOk, resV, go_sem, simprocAttr]
    exact .c _
set_option maxRecDepth 100000 in
set_option maxHeartbeats 1600000 in
theorem dcount_told (ns : List NT) (r : Int) (B : List UInt8) (hB : B.length ≤ 1000000) (p : Nat) (hp : p ≤ B.length) (e : Int) (k : Nat) (hk : k ≤ 300) : ∃ (m q : Nat) (e' : Int), Got (rcount k B p) B e m q e' ∧ (e' ≠ 0 → m = 0) ∧
    ToldM Tryz.prog 248 [.ref 1000000 1 0 0, .c (.v (.int .i64 (k : Int)))] [dB ns r B p e] [some (dB ns r B q e')] (.c (.v (.int .i64 (m : Int)))) := by
  have hw : IntKind.i64.wrap (300 - (k : Int)) = ((300 - k : Nat) : Int) := by rw [wrap64_id (by omega) (by omega)]; omega
  have hz : decide ((0 : Int) > ((300 - k : Nat) : Int)) = false := by simp
  have hL := wlong_told B hB p hp e
  have hbad : ∀ x : Int, x ≠ 0 → lft rlong 0 B p e = (0, p, x) → ToldM Tryz.prog 248 [.ref 1000000 1 0 0, .c (.v (.int .i64 (k : Int)))] [dB ns r B p e] [some (dB ns r B p x)] (.c (.v (.int .i64 ((0 : Nat) : Int)))) := by
    intro x hx hl
    rw [hl] at hL
    have hN := dnumber_told ns r B p p e x 0 hL
    have e1 : (x != 0) = true := by simpa using hx
    clear hL hl
    unfold dB at *
    refine VC.toldM ent_248 [] Tryz.func248 rfl Tryz.ntmps248 (by simp) (by simp only [ScM, zOk, inL, eq_self, used_is, sc_any, sc_c, sc_pp, sc_ref, sc_row, sc_agg, sc_tup, sc_fn, ScL, some_imp, List.forall_mem_map, Nat.le_refl, go_sem, simprocAttr]) (by simp only [ScM, zOk, inL, eq_self, used_is, sc_any, sc_c, sc_pp, sc_ref, sc_row, sc_agg, sc_tup, sc_fn, ScL, some_imp, List.forall_mem_map, Nat.le_refl, go_sem, simprocAttr]) (by simp only [ScM, zOk, inL, eq_self, used_is, sc_any, sc_c, sc_pp, sc_ref, sc_row, sc_agg, sc_tup, sc_fn, ScL, some_imp, List.forall_mem_map, Nat.le_refl, go_sem, simprocAttr]) (by simp only [ScM, zOk, inL, eq_self, used_is, sc_any, sc_c, sc_pp, sc_ref, sc_row, sc_agg, sc_tup, sc_fn, ScL, some_imp, List.forall_mem_map, Nat.le_refl, go_sem, simprocAttr]) (by simp) fun hb hbL => ?_
    clear hb hbL
    refine walkG ?_
    ((refine AO.step fun K hK => ?_; simp only [go_sem, Int.reduceBEq, Int.reduceLE, Int.reduceLT, Int.reduceNeg, Nat.reduceAdd, Nat.reduceEqDiff, Nat.reduceLT, Nat.reduceLeDiff, Nat.reduceMul, Nat.reduceSub, reduceCtorEq, ↓reduceIte]; (first | refine gsel_go ?_ | skip)); refine .inr (.inr (.inl ⟨?vy6, [1000000], ?va6, ?vl6, ?vm6, ?cond6, ?cont6⟩)); (case cond6 => ((repeat' apply And.intro) <;> (try ((with_reducible show ToldM _ _ _ _ _ _); exact hN))); (all_goals first | trivial | (simp only [go_sem, simprocAttr]; done) | (simp; done) | rfl)); (first | refine hK _ _ _ ?_ | (simp only [go_sem, simprocAttr]; first | refine hK _ _ _ ?_ | refine ⟨rfl, hK _ _ _ ?_⟩)); clear hK K)
    refine walkBF (And.intro hw (And.intro hz e1)) ?_
    refine ⟨by first | exact .inr rfl | exact .inl rfl, ?_⟩; rw [Tryz.results248]; simp only [resOk, resV, go_sem, simprocAttr]
    exact .c _
  by_cases h : e ≠ 0
  · exact ⟨0, p, e, ⟨hp, fun _ => rfl, fun x h0 => absurd h0 h, fun w q' h0 => absurd h0 h⟩, fun _ => rfl, hbad e h (lft_e _ _ _ _ h)⟩
  obtain rfl : e = 0 := Decidable.not_not.1 h
  cases hr : rlong B p with
  | error x =>
    exact ⟨0, p, x, ⟨hp, fun h => absurd rfl h, fun y _ hy => by unfold rcount at hy; rw [rbind_bad hr] at hy; injection hy, fun w q' _ hy => by unfold rcount at hy; rw [rbind_bad hr] at hy; simp at hy⟩, fun _ => rfl, hbad x (fair_long.ers hr) (lft_bad _ hr)⟩
  | ok s =>
  obtain ⟨n, q⟩ := s
  clear hbad h
  have hq := (fair_long.fwd hp hr).2
  have hnb := by
    have := hr
    unfold rlong rvar at this
    exact this
  rw [lft_ok _ hr] at hL
  have hN := dnumber_told ns r B p q 0 0 n hL
  have hnr : -9223372036854775808 ≤ n ∧ n ≤ 9223372036854775807 := by
    split at hnb
    · simp at hnb
    · rename_i u j hu
      injection hnb with hnb
      injection hnb with hnb _
      have := vtk_bound 10 1 (by decide) (by decide) (by decide) hu
      rw [← hnb]
      unfold zagN
      split <;> omega
  clear hnb
  have hrc : rcount k B p = (if n < 0 then rbind rlong fun _ => if (300 : Int) - k < -n then rbad 15 else rret (-n).toNat else if (300 : Int) - k < n then rbad 15 else rret n.toNat) B q := by unfold rcount; rw [rbind_ok hr]
  by_cases h1 : n < 0
  · rw [if_pos h1] at hrc
    have e1 : decide (n < 0) = true := by simpa using h1
    have hL2 := wlong_told B hB q hq 0
    obtain ⟨n2, q2, x2, h2⟩ : ∃ a b c, lft rlong 0 B q 0 = (a, b, c) := ⟨_, _, _, rfl⟩
    rw [h2] at hL2
    have hN2 := dnumber_told ns r B q q2 0 x2 n2 hL2
    have hq2 : q2 ≤ B.length ∧ (x2 ≠ 0 → rlong B q = .error x2) ∧ (x2 = 0 → rlong B q = .ok (n2, q2)) := by
      cases hr2 : rlong B q with
      | error x =>
        rw [lft_bad _ hr2] at h2
        injection h2 with h2 h3
        injection h3 with h3 h4
        exact ⟨h3 ▸ hq, fun _ => by rw [h4], fun h => absurd (h4.trans h) (fair_long.ers hr2)⟩
      | ok s =>
        rw [lft_ok _ hr2] at h2
        injection h2 with h2 h3
        injection h3 with h3 h4
        exact ⟨h3 ▸ (fair_long.fwd hq hr2).2, fun h => absurd h4.symm h, fun _ => by rw [← h2, ← h3]⟩
    obtain ⟨hq2, hx2, hy2⟩ := hq2
    obtain ⟨M, hM⟩ : ∃ M, M = -(if n = -9223372036854775808 then n + 1 else n) := ⟨_, rfl⟩
    have hMr : 0 < M ∧ M ≤ 9223372036854775807 ∧ ((300 : Int) - k < -n ↔ (300 : Int) - k < M) ∧ (M ≤ 300 → M = -n) := by
      rw [hM]
      split <;> omega
    have hF := dfail_told ns r B q2 x2 15
    have hwn : IntKind.i64.wrap (0 - (if n = -9223372036854775808 then n + 1 else n)) = M := by
      rw [wrap64_id (by split <;> omega) (by split <;> omega), hM]
      omega
    have hwn1 : n = -9223372036854775808 → IntKind.i64.wrap (n + 1) = n + 1 := fun h => wrap64_id (by omega) (by omega)
    by_cases h3 : (300 : Int) - k < M
    · have e3 : decide (M > ((300 - k : Nat) : Int)) = true := by simp; omega
      obtain ⟨E, hE⟩ : ∃ E, E = if x2 = 0 then (15 : Int) else x2 := ⟨_, rfl⟩
      have hE0 : E ≠ 0 := by rw [hE]; split <;> omega
      have e4 : (E != 0) = true := by simpa using hE0
      rw [← hE] at hF
      refine ⟨0, q2, E, ⟨hq2, fun h => absurd rfl h, fun x _ hx => ?_, fun w q' _ hx => ?_⟩, fun _ => rfl, ?_⟩
      · rw [hrc] at hx
        by_cases hx0 : x2 = 0
        · rw [rbind_ok (hy2 hx0), if_pos (hMr.2.2.1.2 h3)] at hx
          unfold rbad at hx
          injection hx with hx
          rw [hE, if_pos hx0, hx]
        · rw [rbind_bad (hx2 hx0)] at hx
          injection hx with hx
          rw [hE, if_neg hx0, hx]
      · rw [hrc] at hx
        by_cases hx0 : x2 = 0
        · rw [rbind_ok (hy2 hx0), if_pos (hMr.2.2.1.2 h3)] at hx
          unfold rbad at hx
          simp at hx
        · rw [rbind_bad (hx2 hx0)] at hx
          simp at hx
      · clear hL hL2 h2 hx2 hy2 hr hrc hE
        unfold dB at *
        by_cases hmn : n = -9223372036854775808
        · rw [if_pos hmn] at hwn
          have e2 : (n == -9223372036854775808) = true := by simpa using hmn
          have hw1 := hwn1 hmn
          clear hwn1 hM hMr hmn
          refine VC.toldM ent_248 [] Tryz.func248 rfl Tryz.ntmps248 (by simp) (by simp only [ScM, zOk, inL, eq_self, used_is, sc_any, sc_c, sc_pp, sc_ref, sc_row, sc_agg, sc_tup, sc_fn, ScL, some_imp, List.forall_mem_map, Nat.le_refl, go_sem, simprocAttr]) (by simp only [ScM, zOk, inL, eq_self, used_is, sc_any, sc_c, sc_pp, sc_ref, sc_row, sc_agg, sc_tup, sc_fn, ScL, some_imp, List.forall_mem_map, Nat.le_refl, go_sem, simprocAttr]) (by simp only [ScM, zOk, inL, eq_self, used_is, sc_any, sc_c, sc_pp, sc_ref, sc_row, sc_agg, sc_tup, sc_fn, ScL, some_imp, List.forall_mem_map, Nat.le_refl, go_sem, simprocAttr]) (by simp only [ScM, zOk, inL, eq_self, used_is, sc_any, sc_c, sc_pp, sc_ref, sc_row, sc_agg, sc_tup, sc_fn, ScL, some_imp, List.forall_mem_map, Nat.le_refl, go_sem, simprocAttr]) (by simp) fun hb hbL => ?_
          clear hb hbL
          refine walkG ?_
          ((refine AO.step fun K hK => ?_; simp only [go_sem, Int.reduceBEq, Int.reduceLE, Int.reduceLT, Int.reduceNeg, Nat.reduceAdd, Nat.reduceEqDiff, Nat.reduceLT, Nat.reduceLeDiff, Nat.reduceMul, Nat.reduceSub, reduceCtorEq, ↓reduceIte]; (first | refine gsel_go ?_ | skip)); refine .inr (.inr (.inl ⟨?vy7, [1000000], ?va7, ?vl7, ?vm7, ?cond7, ?cont7⟩)); (case cond7 => ((repeat' apply And.intro) <;> (try ((with_reducible show ToldM _ _ _ _ _ _); exact hN))); (all_goals first | trivial | (simp only [go_sem, simprocAttr]; done) | (simp; done) | rfl)); (first | refine hK _ _ _ ?_ | (simp only [go_sem, simprocAttr]; first | refine hK _ _ _ ?_ | refine ⟨rfl, hK _ _ _ ?_⟩)); clear hK K)
          refine walkBF (e1) ?_
          ((refine AO.step fun K hK => ?_; simp only [go_sem, Int.reduceBEq, Int.reduceLE, Int.reduceLT, Int.reduceNeg, Nat.reduceAdd, Nat.reduceEqDiff, Nat.reduceLT, Nat.reduceLeDiff, Nat.reduceMul, Nat.reduceSub, reduceCtorEq, ↓reduceIte]; (first | refine gsel_go ?_ | skip)); refine .inr (.inr (.inl ⟨?vy8, [1000000], ?va8, ?vl8, ?vm8, ?cond8, ?cont8⟩)); (case cond8 => ((repeat' apply And.intro) <;> (try ((with_reducible show ToldM _ _ _ _ _ _); exact hN2))); (all_goals first | trivial | (simp only [go_sem, simprocAttr]; done) | (simp; done) | rfl)); (first | refine hK _ _ _ ?_ | (simp only [go_sem, simprocAttr]; first | refine hK _ _ _ ?_ | refine ⟨rfl, hK _ _ _ ?_⟩)); clear hK K)
          refine walkBF (And.intro e2 (And.intro hw1 (And.intro hwn (And.intro hw e3)))) ?_
          ((refine AO.step fun K hK => ?_; simp only [go_sem, Int.reduceBEq, Int.reduceLE, Int.reduceLT, Int.reduceNeg, Nat.reduceAdd, Nat.reduceEqDiff, Nat.reduceLT, Nat.reduceLeDiff, Nat.reduceMul, Nat.reduceSub, reduceCtorEq, ↓reduceIte]; (first | refine gsel_go ?_ | skip)); refine .inr (.inr (.inl ⟨?vy9, [1000000], ?va9, ?vl9, ?vm9, ?cond9, ?cont9⟩)); (case cond9 => ((repeat' apply And.intro) <;> (try ((with_reducible show ToldM _ _ _ _ _ _); exact hF))); (all_goals first | trivial | (simp only [go_sem, simprocAttr]; done) | (simp; done) | rfl)); (first | refine hK _ _ _ ?_ | (simp only [go_sem, simprocAttr]; first | refine hK _ _ _ ?_ | refine ⟨rfl, hK _ _ _ ?_⟩)); clear hK K)
          refine walkBF (e4) ?_
          refine ⟨by first | exact .inr rfl | exact .inl rfl, ?_⟩; rw [Tryz.results248]; simp only [resOk, resV, go_sem, simprocAttr]
          exact .c _
        · rw [if_neg hmn] at hwn
          have e2 : (n == -9223372036854775808) = false := by simpa using hmn
          clear hwn1 hM hMr hmn
          refine VC.toldM ent_248 [] Tryz.func248 rfl Tryz.ntmps248 (by simp) (by simp only [ScM, zOk, inL, eq_self, used_is, sc_any, sc_c, sc_pp, sc_ref, sc_row, sc_agg, sc_tup, sc_fn, ScL, some_imp, List.forall_mem_map, Nat.le_refl, go_sem, simprocAttr]) (by simp only [ScM, zOk, inL, eq_self, used_is, sc_any, sc_c, sc_pp, sc_ref, sc_row, sc_agg, sc_tup, sc_fn, ScL, some_imp, List.forall_mem_map, Nat.le_refl, go_sem, simprocAttr]) (by simp only [ScM, zOk, inL, eq_self, used_is, sc_any, sc_c, sc_pp, sc_ref, sc_row, sc_agg, sc_tup, sc_fn, ScL, some_imp, List.forall_mem_map, Nat.le_refl, go_sem, simprocAttr]) (by simp only [ScM, zOk, inL, eq_self, used_is, sc_any, sc_c, sc_pp, sc_ref, sc_row, sc_agg, sc_tup, sc_fn, ScL, some_imp, List.forall_mem_map, Nat.le_refl, go_sem, simprocAttr]) (by simp) fun hb hbL => ?_
          clear hb hbL
          refine walkG ?_
          ((refine AO.step fun K hK => ?_; simp only [go_sem, Int.reduceBEq, Int.reduceLE, Int.reduceLT, Int.reduceNeg, Nat.reduceAdd, Nat.reduceEqDiff, Nat.reduceLT, Nat.reduceLeDiff, Nat.reduceMul, Nat.reduceSub, reduceCtorEq, ↓reduceIte]; (first | refine gsel_go ?_ | skip)); refine .inr (.inr (.inl ⟨?vy10, [1000000], ?va10, ?vl10, ?vm10, ?cond10, ?cont10⟩)); (case cond10 => ((repeat' apply And.intro) <;> (try ((with_reducible show ToldM _ _ _ _ _ _); exact hN))); (all_goals first | trivial | (simp only [go_sem, simprocAttr]; done) | (simp; done) | rfl)); (first | refine hK _ _ _ ?_ | (simp only [go_sem, simprocAttr]; first | refine hK _ _ _ ?_ | refine ⟨rfl, hK _ _ _ ?_⟩)); clear hK K)
          refine walkBF (e1) ?_
          ((refine AO.step fun K hK => ?_; simp only [go_sem, Int.reduceBEq, Int.reduceLE, Int.reduceLT, Int.reduceNeg, Nat.reduceAdd, Nat.reduceEqDiff, Nat.reduceLT, Nat.reduceLeDiff, Nat.reduceMul, Nat.reduceSub, reduceCtorEq, ↓reduceIte]; (first | refine gsel_go ?_ | skip)); refine .inr (.inr (.inl ⟨?vy11, [1000000], ?va11, ?vl11, ?vm11, ?cond11, ?cont11⟩)); (case cond11 => ((repeat' apply And.intro) <;> (try ((with_reducible show ToldM _ _ _ _ _ _); exact hN2))); (all_goals first | trivial | (simp only [go_sem, simprocAttr]; done) | (simp; done) | rfl)); (first | refine hK _ _ _ ?_ | (simp only [go_sem, simprocAttr]; first | refine hK _ _ _ ?_ | refine ⟨rfl, hK _ _ _ ?_⟩)); clear hK K)
          refine walkBF (And.intro e2 (And.intro hwn (And.intro hw e3))) ?_
          ((refine AO.step fun K hK => ?_; simp only [go_sem, Int.reduceBEq, Int.reduceLE, Int.reduceLT, Int.reduceNeg, Nat.reduceAdd, Nat.reduceEqDiff, Nat.reduceLT, Nat.reduceLeDiff, Nat.reduceMul, Nat.reduceSub, reduceCtorEq, ↓reduceIte]; (first | refine gsel_go ?_ | skip)); refine .inr (.inr (.inl ⟨?vy12, [1000000], ?va12, ?vl12, ?vm12, ?cond12, ?cont12⟩)); (case cond12 => ((repeat' apply And.intro) <;> (try ((with_reducible show ToldM _ _ _ _ _ _); exact hF))); (all_goals first | trivial | (simp only [go_sem, simprocAttr]; done) | (simp; done) | rfl)); (first | refine hK _ _ _ ?_ | (simp only [go_sem, simprocAttr]; first | refine hK _ _ _ ?_ | refine ⟨rfl, hK _ _ _ ?_⟩)); clear hK K)
          refine walkBF (e4) ?_
          refine ⟨by first | exact .inr rfl | exact .inl rfl, ?_⟩; rw [Tryz.results248]; simp only [resOk, resV, go_sem, simprocAttr]
          exact .c _
    · have e3 : decide (M > ((300 - k : Nat) : Int)) = false := by simp; omega
      have hMn : M = -n := hMr.2.2.2 (by omega)
      have e2 : (n == -9223372036854775808) = false := by simp; omega
      rw [if_neg (by omega)] at hwn
      by_cases hx0 : x2 = 0
      · refine ⟨M.toNat, q2, 0, ⟨hq2, fun h => absurd rfl h, fun x _ hx => ?_, fun w q' _ hx => ?_⟩, fun h => absurd rfl h, ?_⟩
        · rw [hrc, rbind_ok (hy2 hx0), if_neg (fun h => h3 (hMr.2.2.1.1 h))] at hx
          unfold rret at hx
          simp at hx
        · rw [hrc, rbind_ok (hy2 hx0), if_neg (fun h => h3 (hMr.2.2.1.1 h))] at hx
          unfold rret at hx
          injection hx with hx
          injection hx with hx hx'
          exact ⟨by rw [hMn, hx], hx', rfl⟩
        · rw [show ((M.toNat : Nat) : Int) = M from by omega]
          clear hL hL2 h2 hx2 hy2 hr hrc hF hwn1 hM hMr hMn
          subst hx0
          unfold dB at *
          refine VC.toldM ent_248 [] Tryz.func248 rfl Tryz.ntmps248 (by simp) (by simp only [ScM, zOk, inL, eq_self, used_is, sc_any, sc_c, sc_pp, sc_ref, sc_row, sc_agg, sc_tup, sc_fn, ScL, some_imp, List.forall_mem_map, Nat.le_refl, go_sem, simprocAttr]) (by simp only [ScM, zOk, inL, eq_self, used_is, sc_any, sc_c, sc_pp, sc_ref, sc_row, sc_agg, sc_tup, sc_fn, ScL, some_imp, List.forall_mem_map, Nat.le_refl, go_sem, simprocAttr]) (by simp only [ScM, zOk, inL, eq_self, used_is, sc_any, sc_c, sc_pp, sc_ref, sc_row, sc_agg, sc_tup, sc_fn, ScL, some_imp, List.forall_mem_map, Nat.le_refl, go_sem, simprocAttr]) (by simp only [ScM, zOk, inL, eq_self, used_is, sc_any, sc_c, sc_pp, sc_ref, sc_row, sc_agg, sc_tup, sc_fn, ScL, some_imp, List.forall_mem_map, Nat.le_refl, go_sem, simprocAttr]) (by simp) fun hb hbL => ?_
          clear hb hbL
          refine walkG ?_
          ((refine AO.step fun K hK => ?_; simp only [go_sem, Int.reduceBEq, Int.reduceLE, Int.reduceLT, Int.reduceNeg, Nat.reduceAdd, Nat.reduceEqDiff, Nat.reduceLT, Nat.reduceLeDiff, Nat.reduceMul, Nat.reduceSub, reduceCtorEq, ↓reduceIte]; (first | refine gsel_go ?_ | skip)); refine .inr (.inr (.inl ⟨?vy13, [1000000], ?va13, ?vl13, ?vm13, ?cond13, ?cont13⟩)); (case cond13 => ((repeat' apply And.intro) <;> (try ((with_reducible show ToldM _ _ _ _ _ _); exact hN))); (all_goals first | trivial | (simp only [go_sem, simprocAttr]; done) | (simp; done) | rfl)); (first | refine hK _ _ _ ?_ | (simp only [go_sem, simprocAttr]; first | refine hK _ _ _ ?_ | refine ⟨rfl, hK _ _ _ ?_⟩)); clear hK K)
          refine walkBF (e1) ?_
          ((refine AO.step fun K hK => ?_; simp only [go_sem, Int.reduceBEq, Int.reduceLE, Int.reduceLT, Int.reduceNeg, Nat.reduceAdd, Nat.reduceEqDiff, Nat.reduceLT, Nat.reduceLeDiff, Nat.reduceMul, Nat.reduceSub, reduceCtorEq, ↓reduceIte]; (first | refine gsel_go ?_ | skip)); refine .inr (.inr (.inl ⟨?vy14, [1000000], ?va14, ?vl14, ?vm14, ?cond14, ?cont14⟩)); (case cond14 => ((repeat' apply And.intro) <;> (try ((with_reducible show ToldM _ _ _ _ _ _); exact hN2))); (all_goals first | trivial | (simp only [go_sem, simprocAttr]; done) | (simp; done) | rfl)); (first | refine hK _ _ _ ?_ | (simp only [go_sem, simprocAttr]; first | refine hK _ _ _ ?_ | refine ⟨rfl, hK _ _ _ ?_⟩)); clear hK K)
          refine walkBF (And.intro e2 (And.intro hwn (And.intro hw e3))) ?_
          refine ⟨by first | exact .inr rfl | exact .inl rfl, ?_⟩; rw [Tryz.results248]; simp only [resOk, resV, go_sem, simprocAttr]
          exact .c _
      · have e4 : (x2 != 0) = true := by simpa using hx0
        refine ⟨0, q2, x2, ⟨hq2, fun h => absurd rfl h, fun x _ hx => ?_, fun w q' _ hx => ?_⟩, fun _ => rfl, ?_⟩
        · rw [hrc, rbind_bad (hx2 hx0)] at hx
          injection hx
        · rw [hrc, rbind_bad (hx2 hx0)] at hx
          simp at hx
        · clear hL hL2 h2 hx2 hy2 hr hrc hF hwn1 hM hMr hMn
          unfold dB at *
          refine VC.toldM ent_248 [] Tryz.func248 rfl Tryz.ntmps248 (by simp) (by simp only [ScM, zOk, inL, eq_self, used_is, sc_any, sc_c, sc_pp, sc_ref, sc_row, sc_agg, sc_tup, sc_fn, ScL, some_imp, List.forall_mem_map, Nat.le_refl, go_sem, simprocAttr]) (by simp only [ScM, zOk, inL, eq_self, used_is, sc_any, sc_c, sc_pp, sc_ref, sc_row, sc_agg, sc_tup, sc_fn, ScL, some_imp, List.forall_mem_map, Nat.le_refl, go_sem, simprocAttr]) (by simp only [ScM, zOk, inL, eq_self, used_is, sc_any, sc_c, sc_pp, sc_ref, sc_row, sc_agg, sc_tup, sc_fn, ScL, some_imp, List.forall_mem_map, Nat.le_refl, go_sem, simprocAttr]) (by simp only [ScM, zOk, inL, eq_self, used_is, sc_any, sc_c, sc_pp, sc_ref, sc_row, sc_agg, sc_tup, sc_fn, ScL, some_imp, List.forall_mem_map, Nat.le_refl, go_sem, simprocAttr]) (by simp) fun hb hbL => ?_
          clear hb hbL
          refine walkG ?_
          ((refine AO.step fun K hK => ?_; simp only [go_sem, Int.reduceBEq, Int.reduceLE, Int.reduceLT, Int.reduceNeg, Nat.reduceAdd, Nat.reduceEqDiff, Nat.reduceLT, Nat.reduceLeDiff, Nat.reduceMul, Nat.reduceSub, reduceCtorEq, ↓reduceIte]; (first | refine gsel_go ?_ | skip)); refine .inr (.inr (.inl ⟨?vy15, [1000000], ?va15, ?vl15, ?vm15, ?cond15, ?cont15⟩)); (case cond15 => ((repeat' apply And.intro) <;> (try ((with_reducible show ToldM _ _ _ _ _ _); exact hN))); (all_goals first | trivial | (simp only [go_sem, simprocAttr]; done) | (simp; done) | rfl)); (first | refine hK _ _ _ ?_ | (simp only [go_sem, simprocAttr]; first | refine hK _ _ _ ?_ | refine ⟨rfl, hK _ _ _ ?_⟩)); clear hK K)
          refine walkBF (e1) ?_
          ((refine AO.step fun K hK => ?_; simp only [go_sem, Int.reduceBEq, Int.reduceLE, Int.reduceLT, Int.reduceNeg, Nat.reduceAdd, Nat.reduceEqDiff, Nat.reduceLT, Nat.reduceLeDiff, Nat.reduceMul, Nat.reduceSub, reduceCtorEq, ↓reduceIte]; (first | refine gsel_go ?_ | skip)); refine .inr (.inr (.inl ⟨?vy16, [1000000], ?va16, ?vl16, ?vm16, ?cond16, ?cont16⟩)); (case cond16 => ((repeat' apply And.intro) <;> (try ((with_reducible show ToldM _ _ _ _ _ _); exact hN2))); (all_goals first | trivial | (simp only [go_sem, simprocAttr]; done) | (simp; done) | rfl)); (first | refine hK _ _ _ ?_ | (simp only [go_sem, simprocAttr]; first | refine hK _ _ _ ?_ | refine ⟨rfl, hK _ _ _ ?_⟩)); clear hK K)
          refine walkBF (And.intro e2 (And.intro hwn (And.intro hw (And.intro e3 e4)))) ?_
          refine ⟨by first | exact .inr rfl | exact .inl rfl, ?_⟩; rw [Tryz.results248]; simp only [resOk, resV, go_sem, simprocAttr]
          exact .c _
  · rw [if_neg h1] at hrc
    have e1 : decide (n < 0) = false := by simpa using h1
    by_cases h3 : (300 : Int) - k < n
    · rw [if_pos h3] at hrc
      have e3 : decide (n > ((300 - k : Nat) : Int)) = true := by simp; omega
      have hF := dfail_told ns r B q 0 15
      rw [if_pos rfl] at hF
      refine ⟨0, q, 15, ⟨hq, fun h => absurd rfl h, fun x _ hx => ?_, fun w q' _ hx => ?_⟩, fun _ => rfl, ?_⟩
      · rw [hrc] at hx
        unfold rbad at hx
        injection hx
      · rw [hrc] at hx
        unfold rbad at hx
        simp at hx
      · clear hL hr hrc
        unfold dB at *
        refine VC.toldM ent_248 [] Tryz.func248 rfl Tryz.ntmps248 (by simp) (by simp only [ScM, zOk, inL, eq_self, used_is, sc_any, sc_c, sc_pp, sc_ref, sc_row, sc_agg, sc_tup, sc_fn, ScL, some_imp, List.forall_mem_map, Nat.le_refl, go_sem, simprocAttr]) (by simp only [ScM, zOk, inL, eq_self, used_is, sc_any, sc_c, sc_pp, sc_ref, sc_row, sc_agg, sc_tup, sc_fn, ScL, some_imp, List.forall_mem_map, Nat.le_refl, go_sem, simprocAttr]) (by simp only [ScM, zOk, inL, eq_self, used_is, sc_any, sc_c, sc_pp, sc_ref, sc_row, sc_agg, sc_tup, sc_fn, ScL, some_imp, List.forall_mem_map, Nat.le_refl, go_sem, simprocAttr]) (by simp only [ScM, zOk, inL, eq_self, used_is, sc_any, sc_c, sc_pp, sc_ref, sc_row, sc_agg, sc_tup, sc_fn, ScL, some_imp, List.forall_mem_map, Nat.le_refl, go_sem, simprocAttr]) (by simp) fun hb hbL => ?_
        clear hb hbL
        refine walkG ?_
        ((refine AO.step fun K hK => ?_; simp only [go_sem, Int.reduceBEq, Int.reduceLE, Int.reduceLT, Int.reduceNeg, Nat.reduceAdd, Nat.reduceEqDiff, Nat.reduceLT, Nat.reduceLeDiff, Nat.reduceMul, Nat.reduceSub, reduceCtorEq, ↓reduceIte]; (first | refine gsel_go ?_ | skip)); refine .inr (.inr (.inl ⟨?vy17, [1000000], ?va17, ?vl17, ?vm17, ?cond17, ?cont17⟩)); (case cond17 => ((repeat' apply And.intro) <;> (try ((with_reducible show ToldM _ _ _ _ _ _); exact hN))); (all_goals first | trivial | (simp only [go_sem, simprocAttr]; done) | (simp; done) | rfl)); (first | refine hK _ _ _ ?_ | (simp only [go_sem, simprocAttr]; first | refine hK _ _ _ ?_ | refine ⟨rfl, hK _ _ _ ?_⟩)); clear hK K)
        refine walkBF (And.intro e1 (And.intro hw e3)) ?_
        ((refine AO.step fun K hK => ?_; simp only [go_sem, Int.reduceBEq, Int.reduceLE, Int.reduceLT, Int.reduceNeg, Nat.reduceAdd, Nat.reduceEqDiff, Nat.reduceLT, Nat.reduceLeDiff, Nat.reduceMul, Nat.reduceSub, reduceCtorEq, ↓reduceIte]; (first | refine gsel_go ?_ | skip)); refine .inr (.inr (.inl ⟨?vy18, [1000000], ?va18, ?vl18, ?vm18, ?cond18, ?cont18⟩)); (case cond18 => ((repeat' apply And.intro) <;> (try ((with_reducible show ToldM _ _ _ _ _ _); exact hF))); (all_goals first | trivial | (simp only [go_sem, simprocAttr]; done) | (simp; done) | rfl)); (first | refine hK _ _ _ ?_ | (simp only [go_sem, simprocAttr]; first | refine hK _ _ _ ?_ | refine ⟨rfl, hK _ _ _ ?_⟩)); clear hK K)
        refine walkB ?_
        refine ⟨by first | exact .inr rfl | exact .inl rfl, ?_⟩; rw [Tryz.results248]; simp only [resOk, resV, go_sem, simprocAttr]
        exact .c _
    · rw [if_neg h3] at hrc
      have e3 : decide (n > ((300 - k : Nat) : Int)) = false := by simp; omega
      refine ⟨n.toNat, q, 0, ⟨hq, fun h => absurd rfl h, fun x _ hx => ?_, fun w q' _ hx => ?_⟩, fun h => absurd rfl h, ?_⟩
      · rw [hrc] at hx
        unfold rret at hx
        simp at hx
      · rw [hrc] at hx
        unfold rret at hx
        injection hx with hx
        injection hx with hx hx'
        exact ⟨hx, hx', rfl⟩
      · rw [show ((n.toNat : Nat) : Int) = n from by omega]
        clear hL hr hrc
        unfold dB at *
        refine VC.toldM ent_248 [] Tryz.func248 rfl Tryz.ntmps248 (by simp) (by simp only [ScM, zOk, inL, eq_self, used_is, sc_any, sc_c, sc_pp, sc_ref, sc_row, sc_agg, sc_tup, sc_fn, ScL, some_imp, List.forall_mem_map, Nat.le_refl, go_sem, simprocAttr]) (by simp only [ScM, zOk, inL, eq_self, used_is, sc_any, sc_c, sc_pp, sc_ref, sc_row, sc_agg, sc_tup, sc_fn, ScL, some_imp, List.forall_mem_map, Nat.le_refl, go_sem, simprocAttr]) (by simp only [ScM, zOk, inL, eq_self, used_is, sc_any, sc_c, sc_pp, sc_ref, sc_row, sc_agg, sc_tup, sc_fn, ScL, some_imp, List.forall_mem_map, Nat.le_refl, go_sem, simprocAttr]) (by simp only [ScM, zOk, inL, eq_self, used_is, sc_any, sc_c, sc_pp, sc_ref, sc_row, sc_agg, sc_tup, sc_fn, ScL, some_imp, List.forall_mem_map, Nat.le_refl, go_sem, simprocAttr]) (by simp) fun hb hbL => ?_
        clear hb hbL
        refine walkG ?_
        ((refine AO.step fun K hK => ?_; simp only [go_sem, Int.reduceBEq, Int.reduceLE, Int.reduceLT, Int.reduceNeg, Nat.reduceAdd, Nat.reduceEqDiff, Nat.reduceLT, Nat.reduceLeDiff, Nat.reduceMul, Nat.reduceSub, reduceCtorEq, ↓reduceIte]; (first | refine gsel_go ?_ | skip)); refine .inr (.inr (.inl ⟨?vy19, [1000000], ?va19, ?vl19, ?vm19, ?cond19, ?cont19⟩)); (case cond19 => ((repeat' apply And.intro) <;> (try ((with_reducible show ToldM _ _ _ _ _ _); exact hN))); (all_goals first | trivial | (simp only [go_sem, simprocAttr]; done) | (simp; done) | rfl)); (first | refine hK _ _ _ ?_ | (simp only [go_sem, simprocAttr]; first | refine hK _ _ _ ?_ | refine ⟨rfl, hK _ _ _ ?_⟩)); clear hK K)
        refine walkBF (And.intro e1 (And.intro hw e3)) ?_
        refine ⟨by first | exact .inr rfl | exact .inl rfl, ?_⟩; rw [Tryz.results248]; simp only [resOk, resV, go_sem, simprocAttr]
        exact .c _

/-! What the loops over blocks run through: as the plain readers, but with a place where these refuse. -/
abbrev Item := List (List UInt8) × VT
def itemS (map : Bool) (B : List UInt8) (val : Nat → Int → VT × Nat × Int) (p : Nat) : Item × Nat × Int :=
  if map = true then (([(lft rtext [] B p 0).1], (val (lft rtext [] B p 0).2.1 (lft rtext [] B p 0).2.2).1), (val (lft rtext [] B p 0).2.1 (lft rtext [] B p 0).2.2).2) else (([], (val p 0).1), (val p 0).2)
def rowS (step : Nat → Item × Nat × Int) : Nat → List VT → List (List UInt8) → Nat → Except (Nat × Int) (List VT × List (List UInt8) × Nat)
  | 0, xs, ks, p => .ok (xs, ks, p)
  | m + 1, xs, ks, p => if (step p).2.2 = 0 then rowS step m (xs ++ [(step p).1.2]) (ks ++ (step p).1.1) (step p).2.1 else .error (step p).2
def headS (f : List VT → List (List UInt8) → Nat → (List VT × List (List UInt8)) × Nat × Int) (step : Nat → Item × Nat × Int) (m : Nat) (xs : List VT) (ks : List (List UInt8)) (p : Nat) (e : Int) : (List VT × List (List UInt8)) × Nat × Int :=
  if m = 0 then ((xs, ks), p, e) else match rowS step m xs ks p with
    | .error r => (([], []), r)
    | .ok t => f t.1 t.2.1 t.2.2
def blkS (step : Nat → Item × Nat × Int) (cnt : Nat → Nat → Nat × Nat × Int) : Nat → List VT → List (List UInt8) → Nat → (List VT × List (List UInt8)) × Nat × Int
  | 0, xs, ks, p => ((xs, ks), p, 15)
  | k + 1, xs, ks, p => headS (blkS step cnt k) step (cnt xs.length p).1 xs ks (cnt xs.length p).2.1 (cnt xs.length p).2.2
theorem count_le {k : Nat} {B : List UInt8} {p q m : Nat} (h : rcount k B p = .ok (m, q)) : k ≤ 300 → m + k ≤ 300 := fun hk => by
  obtain ⟨n, r, h1, h2⟩ := rbind_inv h
  split at h2
  · obtain ⟨n2, r2, h6, h7⟩ := rbind_inv h2
    split at h7
    · unfold rbad at h7; simp at h7
    · unfold rret at h7
      injection h7 with h7
      injection h7 with h7 _
      omega
  · split at h2
    · unfold rbad at h2; simp at h2
    · unfold rret at h2
      injection h2 with h2
      injection h2 with h2 _
      omega
def StepOk {α : Type} (f : Rd α) (B : List UInt8) (step : Nat → α × Nat × Int) : Prop := ∀ p, p ≤ B.length → Got (f B p) B 0 (step p).1 (step p).2.1 (step p).2.2
theorem Got.is {α : Type} {f : Rd α} (hf : Fair f) {B : List UInt8} {p : Nat} {v : α} {q : Nat} {e' : Int} (h : Got (f B p) B 0 v q e') : (e' = 0 → f B p = .ok (v, q)) ∧ (e' ≠ 0 → f B p = .error e') := by
  cases hr : f B p with
  | error x =>
    have := h.bad x rfl hr
    exact ⟨fun h0 => absurd (this.symm.trans h0) (hf.ers hr), fun _ => by rw [this]⟩
  | ok r =>
    obtain ⟨h1, h2, h3⟩ := h.ok r.1 r.2 rfl hr
    exact ⟨fun _ => by rw [h1, h2], fun h0 => absurd h3 h0⟩
theorem got_of {α : Type} {f : Rd α} {B : List UInt8} {p : Nat} {v : α} {q : Nat} {e' : Int} (hq : q ≤ B.length) (h1 : e' = 0 → f B p = .ok (v, q)) (h2 : e' ≠ 0 → f B p = .error e') : Got (f B p) B 0 v q e' := by
  refine ⟨hq, fun h => absurd rfl h, fun x _ hx => ?_, fun w q' _ hx => ?_⟩
  · by_cases h : e' = 0
    · rw [h1 h] at hx; simp at hx
    · rw [h2 h] at hx; injection hx
  · by_cases h : e' = 0
    · rw [h1 h] at hx
      injection hx with hx
      injection hx with hx hx'
      exact ⟨hx, hx', h⟩
    · rw [h2 h] at hx; simp at hx
theorem rowS_got {item : Rd Item} (hf : Fair item) {B : List UInt8} {step : Nat → Item × Nat × Int} (hs : StepOk item B step) : ∀ (m : Nat) (xs : List VT) (ks : List (List UInt8)) (p : Nat), p ≤ B.length →
    (∀ t, rowS step m xs ks p = .ok t → t.2.2 ≤ B.length ∧ rrow item m xs ks B p = .ok ((t.1, t.2.1), t.2.2)) ∧ (∀ r, rowS step m xs ks p = .error r → r.1 ≤ B.length ∧ r.2 ≠ 0 ∧ rrow item m xs ks B p = .error r.2)
  | 0, xs, ks, p, hp => by
    rw [rowS, rrow]
    refine ⟨fun t h => ?_, fun r h => by simp at h⟩
    injection h with h
    subst h
    exact ⟨hp, rfl⟩
  | m + 1, xs, ks, p, hp => by
    rw [rowS, rrow]
    have hg := hs p hp
    have hi := hg.is hf
    split
    · rename_i h0
      rw [rbind_ok (hi.1 h0)]
      exact rowS_got hf hs m _ _ _ hg.le
    · rename_i h0
      rw [rbind_bad (hi.2 h0)]
      refine ⟨fun t h => by simp at h, fun r h => ?_⟩
      injection h with h
      subst h
      exact ⟨hg.le, h0, rfl⟩
theorem rowS_len {step : Nat → Item × Nat × Int} : ∀ (m : Nat) (xs : List VT) (ks : List (List UInt8)) (p : Nat) (t : List VT × List (List UInt8) × Nat), rowS step m xs ks p = .ok t → t.1.length = xs.length + m
  | 0, xs, ks, p, t, h => by
    rw [rowS] at h
    injection h with h
    subst h
    rfl
  | m + 1, xs, ks, p, t, h => by
    rw [rowS] at h
    split at h
    · have := rowS_len m _ _ _ t h
      simp at this
      omega
    · simp at h
def CntOk (B : List UInt8) (cnt : Nat → Nat → Nat × Nat × Int) : Prop := ∀ h p, h ≤ 300 → p ≤ B.length → Got (rcount h B p) B 0 (cnt h p).1 (cnt h p).2.1 (cnt h p).2.2 ∧ ((cnt h p).2.2 ≠ 0 → (cnt h p).1 = 0)
theorem blkS_got {item : Rd Item} (hf : Fair item) {B : List UInt8} {step : Nat → Item × Nat × Int} (hs : StepOk item B step) {cnt : Nat → Nat → Nat × Nat × Int} (hc : CntOk B cnt) : ∀ (k : Nat) (xs : List VT) (ks : List (List UInt8)) (p : Nat), p ≤ B.length → xs.length ≤ 300 →
    Got (rblks item k xs ks B p) B 0 (blkS step cnt k xs ks p).1 (blkS step cnt k xs ks p).2.1 (blkS step cnt k xs ks p).2.2
  | 0, xs, ks, p, hp, _ => by
    rw [rblks, blkS]
    exact got_of hp (fun h => absurd h (show ¬ ((15 : Int) = 0) by decide)) fun _ => rfl
  | k + 1, xs, ks, p, hp, hx => by
    rw [rblks, blkS, headS]
    obtain ⟨hg, hz⟩ := hc xs.length p hx hp
    have hi := hg.is (fair_count _)
    generalize cnt xs.length p = c at hg hz hi
    by_cases h0 : c.1 = 0
    · rw [if_pos h0]
      refine got_of hg.le (fun h => ?_) fun h => ?_
      · rw [rbind_ok (hi.1 h), if_pos h0]; rfl
      · rw [rbind_bad (hi.2 h)]
    · rw [if_neg h0]
      have he : c.2.2 = 0 := Decidable.not_not.1 fun h => h0 (hz h)
      have hr := rowS_got hf hs c.1 xs ks c.2.1 hg.le
      have hm := count_le (hi.1 he) hx
      have hb : (rbind (rcount xs.length) fun m => if m = 0 then rret (xs, ks) else rbind (rrow item m xs ks) fun q => rblks item k q.1 q.2) B p = rbind (rrow item c.1 xs ks) (fun q => rblks item k q.1 q.2) B c.2.1 := by rw [rbind_ok (hi.1 he), if_neg h0]
      rw [hb]
      cases hrw : rowS step c.1 xs ks c.2.1 with
      | error r =>
        obtain ⟨h1, h2, h3⟩ := hr.2 r hrw
        simp only []
        refine got_of h1 (fun h => absurd h h2) fun _ => ?_
        rw [rbind_bad h3]
      | ok t =>
        obtain ⟨h1, h2⟩ := hr.1 t hrw
        have hl := rowS_len _ _ _ _ _ hrw
        simp only []
        rw [rbind_ok h2]
        exact blkS_got hf hs hc k t.1 t.2.1 t.2.2 h1 (by omega)
theorem itemS_ok {f : Rd VT} (hf : Fair f) {B : List UInt8} {val : Nat → Int → VT × Nat × Int} (hv : ∀ p e, p ≤ B.length → Got (f B p) B e (val p e).1 (val p e).2.1 (val p e).2.2) (map : Bool) : StepOk (ritem map f) B (itemS map B val) := by
  intro p hp
  unfold itemS ritem
  cases map with
  | true =>
    rw [if_pos rfl, if_pos rfl]
    have ht := got_lft fair_text [] hp 0
    have hti := ht.is fair_text
    have hg := hv (lft rtext [] B p 0).2.1 (lft rtext [] B p 0).2.2 ht.le
    generalize lft rtext [] B p 0 = t at ht hti hg
    by_cases h0 : t.2.2 = 0
    · rw [h0] at hg ⊢
      have hvi := hg.is hf
      refine got_of hg.le (fun h => ?_) fun h => ?_
      · rw [rbind_ok (hti.1 h0), rbind_ok (hvi.1 h)]; rfl
      · rw [rbind_ok (hti.1 h0), rbind_bad (hvi.2 h)]
    · have := hg.no h0
      refine got_of hg.le (fun h => absurd (this.symm.trans h) h0) fun h => ?_
      rw [rbind_bad (hti.2 h0)]
      simp only []
      rw [this]
  | false =>
    rw [if_neg (by decide), if_neg (by decide)]
    have hg := hv p 0 hp
    have hvi := hg.is hf
    refine got_of hg.le (fun h => ?_) fun h => ?_
    · rw [rbind_ok (hvi.1 h)]; rfl
    · rw [rbind_bad (hvi.2 h)]
def ValT (ns : List NT) (r : Int) (B : List UInt8) (a : Int) (dep : Nat) (val : Nat → Int → VT × Nat × Int) : Prop := ∀ p e, p ≤ B.length →
  ToldM Tryz.prog 71 [.ref 1000000 1 0 0, .c (.v (.int .i64 a)), .c (.v (.int .i64 (dep : Int)))] [dB ns r B p e] [some (dB ns r B (val p e).2.1 (val p e).2.2)] (val p e).1.av
theorem rA_vv (l : List VT) (x : VT) : rA VT.cells l ++ [x.cells.map .c] = rA VT.cells (l ++ [x]) := by simp [rA]
theorem rA_sv (l : List (List UInt8)) (x : List UInt8) : rA sPV l ++ [[.c (.v (.string (bstr x)))]] = rA sPV (l ++ [x]) := rA_one sPV l x
theorem pvOk19 (l : List UInt8) : bytesOk (bytePV l) = True := eq_true (bytePV_ok l)
set_option maxRecDepth 100000 in
set_option maxHeartbeats 3200000 in
theorem ditems_told (ns : List NT) (r : Int) (B : List UInt8) (hB : B.length ≤ 1000000) (nd : NT) (dep : Nat) (val : Nat → Int → VT × Nat × Int) (hV : ValT ns r B nd.items dep val) (hle : ∀ p e, p ≤ B.length → (val p e).2.1 ≤ B.length)
    (cnt : Nat → Nat → Nat × Nat × Int) (hC : ∀ h p : Nat, h ≤ 300 → p ≤ B.length → ToldM Tryz.prog 248 [.ref 1000000 1 0 0, .c (.v (.int .i64 (h : Int)))] [dB ns r B p 0] [some (dB ns r B (cnt h p).2.1 (cnt h p).2.2)] (.c (.v (.int .i64 ((cnt h p).1 : Int)))))
    (hcl : ∀ h p, h ≤ 300 → p ≤ B.length → (cnt h p).1 + h ≤ 300 ∧ (cnt h p).2.1 ≤ B.length ∧ ((cnt h p).2.2 ≠ 0 → (cnt h p).1 = 0)) (p0 : Nat) (hp0 : p0 ≤ B.length) (F : (List VT × List (List UInt8)) × Nat × Int)
    (hF : F = blkS (itemS (nd.kind == 12) B val) cnt 301 [] [] p0) :
    ToldM Tryz.prog 201 [.ref 1000000 1 0 0, nd.av, .c (.v (.int .i64 (dep : Int)))] [dB ns r B p0 0] [some (dB ns r B F.2.1 F.2.2)] (.tup [.c (.sl 6 (F.1.1.map VT.cells)), .c (.sl 1 (F.1.2.map sPV))]) := by
  rw [blkS] at hF
  have hC0 := hC 0 p0 (by decide) hp0
  have hl0 := hcl 0 p0 (by decide) hp0
  simp only [List.length_nil] at hF
  obtain ⟨m0, q0, x0, hc0⟩ : ∃ a b c, cnt 0 p0 = (a, b, c) := ⟨_, _, _, rfl⟩
  rw [hc0] at hC0 hl0 hF
  simp only [] at hC0 hl0 hF
  rw [show ((0 : Nat) : Int) = 0 from rfl] at hC0
  rw [NT.av_eq]
  unfold dB at *
  refine VC.toldM ent_201 [] Tryz.func201 rfl Tryz.ntmps201 (by simp) (by simp only [ScM, zOk, inL, eq_self, used_is, sc_any, sc_c, sc_pp, sc_ref, sc_row, sc_agg, sc_tup, sc_fn, ScL, some_imp, List.forall_mem_map, Nat.le_refl, go_sem, simprocAttr]) (by simp only [ScM, zOk, inL, eq_self, used_is, sc_any, sc_c, sc_pp, sc_ref, sc_row, sc_agg, sc_tup, sc_fn, ScL, some_imp, List.forall_mem_map, Nat.le_refl, go_sem, simprocAttr]) (by simp only [ScM, zOk, inL, eq_self, used_is, sc_any, sc_c, sc_pp, sc_ref, sc_row, sc_agg, sc_tup, sc_fn, ScL, some_imp, List.forall_mem_map, Nat.le_refl, go_sem, simprocAttr]) (by simp only [ScM, zOk, inL, eq_self, used_is, sc_any, sc_c, sc_pp, sc_ref, sc_row, sc_agg, sc_tup, sc_fn, ScL, some_imp, List.forall_mem_map, Nat.le_refl, go_sem, simprocAttr]) (by simp) fun hb hbL => ?_
  clear hb hbL
  refine walkG ?_
  ((refine AO.step fun K hK => ?_; simp only [go_sem, Int.reduceBEq, Int.reduceLE, Int.reduceLT, Int.reduceNeg, Nat.reduceAdd, Nat.reduceEqDiff, Nat.reduceLT, Nat.reduceLeDiff, Nat.reduceMul, Nat.reduceSub, reduceCtorEq, ↓reduceIte]; (first | refine gsel_go ?_ | skip)); refine .inr (.inr (.inl ⟨?vy1, [1000000], ?va1, ?vl1, ?vm1, ?cond1, ?cont1⟩)); (case cond1 => ((repeat' apply And.intro) <;> (try ((with_reducible show ToldM _ _ _ _ _ _); exact hC0))); (all_goals first | trivial | (simp only [go_sem, simprocAttr]; done) | (simp; done) | rfl)); (first | refine hK _ _ _ ?_ | (simp only [go_sem, simprocAttr]; first | refine hK _ _ _ ?_ | refine ⟨rfl, hK _ _ _ ?_⟩)); clear hK K)
  refine walkG ?_
  refine VC.nil 6 43 6 (by rfl) (by trivial) (by rfl) ?_
  refine VC.nil 7 9 1 (by rfl) (by trivial) (by rfl) ?_
  generalize hm12 : (nd.kind == 12) = M at hF
  refine VC.loop (ι := {s : (List VT × List (List UInt8) × Nat) × Nat × Int × Nat // s.1.1.length + s.2.1 ≤ 300 ∧ s.1.2.1.length ≤ s.1.1.length ∧ s.1.2.2 ≤ B.length ∧ (s.2.2.1 ≠ 0 → s.2.1 = 0) ∧ 300 ≤ s.1.1.length + s.2.2.2 ∧ F = headS (blkS (itemS M B val) cnt s.2.2.2) (itemS M B val) s.2.1 s.1.1 s.1.2.1 s.1.2.2 s.2.2.1})
    (fun s => [(0, .ref 1000000 1 0 0), (2, .c (.v (.int .i64 (dep : Int)))), (4, .ref 0 1 0 0), (6, .row 48 s.1.1.1.length), (7, .row 56 s.1.1.2.1.length), (8, .c (.v (.int .i64 (s.1.2.1 : Int))))])
    (fun s => [(0, ⟨false, 33, 10, [nd.cells.map .c]⟩), (48, ⟨true, 43, 6, rA VT.cells s.1.1.1⟩), (56, ⟨true, 9, 1, rA sPV s.1.1.2.1⟩), (1000000, ⟨false, 109, 5, [[.c (.sl 10 (ns.map NT.cells)), .c (.v (.int .i64 r)), .c (.sl 1 (bytePV B)), .c (.v (.int .i64 (s.1.1.2.2 : Int))), .c (.v (.int .i64 s.1.2.2.1))]]⟩)]) 800 (fun s => s.1.2.2.2)
    ⟨(([], [], q0), m0, x0, 300), by simpa using hl0.1, by simp, hl0.2.1, hl0.2.2, by simp, hF⟩ ?_ ?_
  · simp only [ncells_mk, rA_len, rA_sc, Weak, eq_self, used_is, sc_any, sc_c, sc_pp, sc_ref, sc_row, sc_agg, sc_fn, ScL, some_imp, List.forall_mem_map, go_sem, Int.reduceBEq, Int.reduceLE, Int.reduceLT, Int.reduceNeg, Nat.reduceAdd, Nat.reduceEqDiff, Nat.reduceLT, Nat.reduceLeDiff, Nat.reduceMul, Nat.reduceSub, reduceCtorEq, ↓reduceIte]
    exact ⟨rfl, rfl⟩
  rintro ⟨⟨⟨xs, ks, p⟩, m, e, k⟩, h1, h2, h3, h4, h5, h6⟩
  simp only [] at h1 h2 h3 h4 h5 h6 ⊢
  refine walkG ?_
  refine VC.cond (by rfl) (by trivial) (fun hc => ?_) (fun hc => ?_)
  rotate_left
  · have hm0 : m = 0 := by simp at hc; omega
    subst hm0
    rw [headS, if_pos rfl] at h6
    subst h6
    refine walkGF (@rA_len) ?_
    refine ⟨by first | exact .inr rfl | exact .inl rfl, ?_⟩; rw [Tryz.results201]; simp only [rA_len, rA_ren, resOk, resV, go_sem, simprocAttr]
    exact ⟨frz_rA (f := VT.cells) (l := xs) (T := 43) rfl rfl rfl fun x _ => len_vcells x, frz_rA (f := sPV) (l := ks) (T := 9) rfl rfl rfl fun x _ => rfl⟩
  have hm0 : 0 < m := by simp at hc; omega
  have he0 : e = 0 := Decidable.not_not.1 fun h => by have := h4 h; omega
  subst he0
  rw [headS, if_neg (by omega)] at h6
  refine walkG ?_
  obtain ⟨RW, hRW⟩ : ∃ RW, RW = rowS (itemS M B val) m xs ks p := ⟨_, rfl⟩
  rw [← hRW] at h6
  refine VC.loop (ι := {s : Nat × List VT × List (List UInt8) × Nat // s.1 ≤ m ∧ s.2.1.length = xs.length + s.1 ∧ s.2.2.1.length ≤ s.2.1.length ∧ s.2.2.2 ≤ B.length ∧ RW = rowS (itemS M B val) (m - s.1) s.2.1 s.2.2.1 s.2.2.2})
    (fun s => [(0, .ref 1000000 1 0 0), (2, .c (.v (.int .i64 (dep : Int)))), (4, .ref 0 1 0 0), (6, .row 48 s.1.2.1.length), (7, .row 56 s.1.2.2.1.length), (17, .c (.v (.int .i64 (m : Int)))), (18, .c (.v (.int .i64 (s.1.1 : Int))))])
    (fun s => [(0, ⟨false, 33, 10, [nd.cells.map .c]⟩), (48, ⟨true, 43, 6, rA VT.cells s.1.2.1⟩), (56, ⟨true, 9, 1, rA sPV s.1.2.2.1⟩), (1000000, ⟨false, 109, 5, [[.c (.sl 10 (ns.map NT.cells)), .c (.v (.int .i64 r)), .c (.sl 1 (bytePV B)), .c (.v (.int .i64 (s.1.2.2.2 : Int))), .c (.v (.int .i64 0))]]⟩)]) 2000 (fun s => m - s.1.1)
    ⟨(0, xs, ks, p), Nat.zero_le _, rfl, h2, h3, hRW⟩ ?_ ?_
  · simp only [ncells_mk, rA_len, rA_sc, Weak, eq_self, used_is, sc_any, sc_c, sc_pp, sc_ref, sc_row, sc_agg, sc_fn, ScL, some_imp, List.forall_mem_map, go_sem, Int.reduceBEq, Int.reduceLE, Int.reduceLT, Int.reduceNeg, Nat.reduceAdd, Nat.reduceEqDiff, Nat.reduceLT, Nat.reduceLeDiff, Nat.reduceMul, Nat.reduceSub, reduceCtorEq, ↓reduceIte]
    exact ⟨Nat.le_refl _, Nat.le_refl _⟩
  rintro ⟨⟨i, ys, js, q⟩, i1, i2, i3, i4, i5⟩
  simp only [] at i1 i2 i3 i4 i5 ⊢
  have hyl : (rA VT.cells ys).length = ys.length := rA_len _ _
  have hjl : (rA sPV js).length = js.length := rA_len _ _
  refine walkG ?_
  refine VC.cond (by rfl) (by trivial) (fun hd => ?_) (fun hd => ?_)
  rotate_left
  · have hie : i = m := by simp at hd; omega
    rw [hie, Nat.sub_self, rowS] at i5
    rw [i5] at h6
    simp only [] at h6
    obtain ⟨k, rfl⟩ : ∃ k', k = k' + 1 := ⟨k - 1, by omega⟩
    rw [blkS] at h6
    have hC1 := hC ys.length q (by omega) i4
    have hl1 := hcl ys.length q (by omega) i4
    obtain ⟨m1, q1, x1, hc1⟩ : ∃ a b c, cnt ys.length q = (a, b, c) := ⟨_, _, _, rfl⟩
    rw [hc1] at hC1 hl1 h6
    simp only [] at hC1 hl1 h6
    refine walkGF (hyl) ?_
    ((refine AO.step fun K hK => ?_; simp only [go_sem, Int.reduceBEq, Int.reduceLE, Int.reduceLT, Int.reduceNeg, Nat.reduceAdd, Nat.reduceEqDiff, Nat.reduceLT, Nat.reduceLeDiff, Nat.reduceMul, Nat.reduceSub, reduceCtorEq, ↓reduceIte, rA_ren, rA_len]; (first | refine gsel_go ?_ | skip)); refine .inr (.inr (.inl ⟨?vy2, [1000000], ?va2, ?vl2, ?vm2, ?cond2, ?cont2⟩)); (case cond2 => ((repeat' apply And.intro) <;> (try ((with_reducible show ToldM _ _ _ _ _ _); exact hC1))); (all_goals first | trivial | (simp only [rA_ren, rA_len, go_sem, simprocAttr]; done) | (simp; done) | rfl)); (first | refine hK _ _ _ ?_ | (simp only [rA_ren, rA_len, go_sem, simprocAttr]; first | refine hK _ _ _ ?_ | refine ⟨rfl, hK _ _ _ ?_⟩)); clear hK K)
    refine walkG ?_
    refine .next ⟨((ys, js, q1), m1, x1, k), by simp only []; omega, i3, hl1.2.1, hl1.2.2, by simp only []; omega, h6⟩ ?_ (by simp only []; omega)
    simp only [ncells_mk, rA_len, rA_sc, Weak, eq_self, used_is, sc_any, sc_c, sc_pp, sc_ref, sc_row, sc_agg, sc_fn, ScL, some_imp, List.forall_mem_map, go_sem, Int.reduceBEq, Int.reduceLE, Int.reduceLT, Int.reduceNeg, Nat.reduceAdd, Nat.reduceEqDiff, Nat.reduceLT, Nat.reduceLeDiff, Nat.reduceMul, Nat.reduceSub, reduceCtorEq, ↓reduceIte]
    exact ⟨Nat.le_refl _, Nat.le_refl _⟩
  have hlt : i < m := by simp at hd; omega
  obtain ⟨z, hz⟩ : ∃ z, m - i = z + 1 := ⟨m - i - 1, by omega⟩
  have hz' : m - (i + 1) = z := by omega
  rw [hz, rowS] at i5
  have hw : IntKind.i64.wrap ((i : Int) + 1) = ((i + 1 : Nat) : Int) := by rw [wrap64_id (by omega) (by omega)]; omega
  cases M with
  | true =>
    have e12 : (nd.kind == 12) = true := hm12
    have hT := dtext_told ns r B q (lft rtext [] B q 0).2.1 0 (lft rtext [] B q 0).2.2 (lft rtext [] B q 0).1 (wtext_told B hB q i4 0)
    have htl := (got_lft fair_text [] i4 0).le
    rw [itemS, if_pos rfl] at i5
    obtain ⟨y, q1, e1, hL⟩ : ∃ a b c, lft rtext [] B q 0 = (a, b, c) := ⟨_, _, _, rfl⟩
    rw [hL] at hT htl i5
    simp only [] at hT htl i5
    have hX := hV q1 e1 htl
    have hql := hle q1 e1 htl
    obtain ⟨v, q2, e2, hvv⟩ : ∃ a b c, val q1 e1 = (a, b, c) := ⟨_, _, _, rfl⟩
    rw [hvv] at hX hql i5
    simp only [] at hX hql i5
    rw [VT.av_eq] at hX
    have hby : bytesOf (bytePV y) = y := bytesOf_pv y
    have hbk := pvOk19 y
    have hk1 := rA_sv js y
    unfold dB at hT hX
    by_cases h0 : e2 = 0
    · rw [if_pos h0] at i5
      subst h0
      refine walkBF (And.intro @ncells_mk e12) ?_
      ((refine AO.step fun K hK => ?_; simp only [go_sem, Int.reduceBEq, Int.reduceLE, Int.reduceLT, Int.reduceNeg, Nat.reduceAdd, Nat.reduceEqDiff, Nat.reduceLT, Nat.reduceLeDiff, Nat.reduceMul, Nat.reduceSub, reduceCtorEq, ↓reduceIte, rA_ren, rA_len]; (first | refine gsel_go ?_ | skip)); refine .inr (.inr (.inl ⟨?vy3, [1000000], ?va3, ?vl3, ?vm3, ?cond3, ?cont3⟩)); (case cond3 => ((repeat' apply And.intro) <;> (try ((with_reducible show ToldM _ _ _ _ _ _); exact hT))); (all_goals first | trivial | (simp only [rA_ren, rA_len, go_sem, simprocAttr]; done) | (simp; done) | rfl)); (first | refine hK _ _ _ ?_ | (simp only [rA_ren, rA_len, go_sem, simprocAttr]; first | refine hK _ _ _ ?_ | refine ⟨rfl, hK _ _ _ ?_⟩)); clear hK K)
      refine walkBF (And.intro @ncells_mk (And.intro hby (And.intro hbk (And.intro hk1 hjl)))) ?_
      ((refine AO.step fun K hK => ?_; simp only [go_sem, Int.reduceBEq, Int.reduceLE, Int.reduceLT, Int.reduceNeg, Nat.reduceAdd, Nat.reduceEqDiff, Nat.reduceLT, Nat.reduceLeDiff, Nat.reduceMul, Nat.reduceSub, reduceCtorEq, ↓reduceIte, rA_ren, rA_len]; (first | refine gsel_go ?_ | skip)); refine .inr (.inr (.inl ⟨?vy4, [1000000], ?va4, ?vl4, ?vm4, ?cond4, ?cont4⟩)); (case cond4 => ((repeat' apply And.intro) <;> (try ((with_reducible show ToldM _ _ _ _ _ _); exact hX))); (all_goals first | trivial | (simp only [rA_ren, rA_len, go_sem, simprocAttr]; done) | (simp; done) | rfl)); (first | refine hK _ _ _ ?_ | (simp only [rA_ren, rA_len, go_sem, simprocAttr]; first | refine hK _ _ _ ?_ | refine ⟨rfl, hK _ _ _ ?_⟩)); clear hK K)
      refine walkBF (And.intro @len_vcells (And.intro @take_vcells (And.intro @take_vcellsC (And.intro hyl (And.intro @rA_vv hw))))) ?_
      refine .next ⟨(i + 1, ys ++ [v], js ++ [y], q2), hlt, by simp only [List.length_append, List.length_singleton]; omega, by simp only [List.length_append, List.length_singleton]; omega, hql, by rw [i5, hz']⟩ ?_ (by simp only []; omega)
      simp only [ncells_mk, rA_len, rA_sc, Weak, eq_self, used_is, sc_any, sc_c, sc_pp, sc_ref, sc_row, sc_agg, sc_fn, ScL, some_imp, List.forall_mem_map, go_sem, Int.reduceBEq, Int.reduceLE, Int.reduceLT, Int.reduceNeg, Nat.reduceAdd, Nat.reduceEqDiff, Nat.reduceLT, Nat.reduceLeDiff, Nat.reduceMul, Nat.reduceSub, reduceCtorEq, ↓reduceIte]
      exact ⟨⟨by simp, by simp⟩, Nat.le_refl _, Nat.le_refl _⟩
    · rw [if_neg h0] at i5
      rw [i5] at h6
      simp only [] at h6
      subst h6
      have e0 : (e2 != 0) = true := by simpa using h0
      refine walkBF (And.intro @ncells_mk e12) ?_
      ((refine AO.step fun K hK => ?_; simp only [go_sem, Int.reduceBEq, Int.reduceLE, Int.reduceLT, Int.reduceNeg, Nat.reduceAdd, Nat.reduceEqDiff, Nat.reduceLT, Nat.reduceLeDiff, Nat.reduceMul, Nat.reduceSub, reduceCtorEq, ↓reduceIte, rA_ren, rA_len]; (first | refine gsel_go ?_ | skip)); refine .inr (.inr (.inl ⟨?vy5, [1000000], ?va5, ?vl5, ?vm5, ?cond5, ?cont5⟩)); (case cond5 => ((repeat' apply And.intro) <;> (try ((with_reducible show ToldM _ _ _ _ _ _); exact hT))); (all_goals first | trivial | (simp only [rA_ren, rA_len, go_sem, simprocAttr]; done) | (simp; done) | rfl)); (first | refine hK _ _ _ ?_ | (simp only [rA_ren, rA_len, go_sem, simprocAttr]; first | refine hK _ _ _ ?_ | refine ⟨rfl, hK _ _ _ ?_⟩)); clear hK K)
      refine walkBF (And.intro @ncells_mk (And.intro hby (And.intro hbk (And.intro hk1 hjl)))) ?_
      ((refine AO.step fun K hK => ?_; simp only [go_sem, Int.reduceBEq, Int.reduceLE, Int.reduceLT, Int.reduceNeg, Nat.reduceAdd, Nat.reduceEqDiff, Nat.reduceLT, Nat.reduceLeDiff, Nat.reduceMul, Nat.reduceSub, reduceCtorEq, ↓reduceIte, rA_ren, rA_len]; (first | refine gsel_go ?_ | skip)); refine .inr (.inr (.inl ⟨?vy6, [1000000], ?va6, ?vl6, ?vm6, ?cond6, ?cont6⟩)); (case cond6 => ((repeat' apply And.intro) <;> (try ((with_reducible show ToldM _ _ _ _ _ _); exact hX))); (all_goals first | trivial | (simp only [rA_ren, rA_len, go_sem, simprocAttr]; done) | (simp; done) | rfl)); (first | refine hK _ _ _ ?_ | (simp only [rA_ren, rA_len, go_sem, simprocAttr]; first | refine hK _ _ _ ?_ | refine ⟨rfl, hK _ _ _ ?_⟩)); clear hK K)
      refine walkBF (And.intro @len_vcells (And.intro @take_vcells (And.intro @take_vcellsC (And.intro hyl (And.intro @rA_vv e0))))) ?_
      refine ⟨by first | exact .inr rfl | exact .inl rfl, ?_⟩; rw [Tryz.results201]; simp only [rA_len, rA_ren, resOk, resV, go_sem, simprocAttr]
      exact ⟨.nil 6, .nil 1⟩
  | false =>
    have e12 : (nd.kind == 12) = false := hm12
    rw [itemS, if_neg Bool.false_ne_true] at i5
    have hX := hV q 0 i4
    have hql := hle q 0 i4
    obtain ⟨v, q2, e2, hvv⟩ : ∃ a b c, val q 0 = (a, b, c) := ⟨_, _, _, rfl⟩
    rw [hvv] at hX hql i5
    simp only [List.append_nil] at hX hql i5
    rw [VT.av_eq] at hX
    unfold dB at hX
    by_cases h0 : e2 = 0
    · rw [if_pos h0] at i5
      subst h0
      refine walkBF (And.intro @ncells_mk e12) ?_
      ((refine AO.step fun K hK => ?_; simp only [go_sem, Int.reduceBEq, Int.reduceLE, Int.reduceLT, Int.reduceNeg, Nat.reduceAdd, Nat.reduceEqDiff, Nat.reduceLT, Nat.reduceLeDiff, Nat.reduceMul, Nat.reduceSub, reduceCtorEq, ↓reduceIte, rA_ren, rA_len]; (first | refine gsel_go ?_ | skip)); refine .inr (.inr (.inl ⟨?vy7, [1000000], ?va7, ?vl7, ?vm7, ?cond7, ?cont7⟩)); (case cond7 => ((repeat' apply And.intro) <;> (try ((with_reducible show ToldM _ _ _ _ _ _); exact hX))); (all_goals first | trivial | (simp only [rA_ren, rA_len, go_sem, simprocAttr]; done) | (simp; done) | rfl)); (first | refine hK _ _ _ ?_ | (simp only [rA_ren, rA_len, go_sem, simprocAttr]; first | refine hK _ _ _ ?_ | refine ⟨rfl, hK _ _ _ ?_⟩)); clear hK K)
      refine walkBF (And.intro @len_vcells (And.intro @take_vcells (And.intro @take_vcellsC (And.intro hyl (And.intro @rA_vv hw))))) ?_
      refine .next ⟨(i + 1, ys ++ [v], js, q2), hlt, by simp only [List.length_append, List.length_singleton]; omega, by simp only [List.length_append, List.length_singleton]; omega, hql, by rw [i5, hz']⟩ ?_ (by simp only []; omega)
      simp only [ncells_mk, rA_len, rA_sc, Weak, eq_self, used_is, sc_any, sc_c, sc_pp, sc_ref, sc_row, sc_agg, sc_fn, ScL, some_imp, List.forall_mem_map, go_sem, Int.reduceBEq, Int.reduceLE, Int.reduceLT, Int.reduceNeg, Nat.reduceAdd, Nat.reduceEqDiff, Nat.reduceLT, Nat.reduceLeDiff, Nat.reduceMul, Nat.reduceSub, reduceCtorEq, ↓reduceIte]
      exact ⟨by simp, Nat.le_refl _, Nat.le_refl _⟩
    · rw [if_neg h0] at i5
      rw [i5] at h6
      simp only [] at h6
      subst h6
      have e0 : (e2 != 0) = true := by simpa using h0
      refine walkBF (And.intro @ncells_mk e12) ?_
      ((refine AO.step fun K hK => ?_; simp only [go_sem, Int.reduceBEq, Int.reduceLE, Int.reduceLT, Int.reduceNeg, Nat.reduceAdd, Nat.reduceEqDiff, Nat.reduceLT, Nat.reduceLeDiff, Nat.reduceMul, Nat.reduceSub, reduceCtorEq, ↓reduceIte, rA_ren, rA_len]; (first | refine gsel_go ?_ | skip)); refine .inr (.inr (.inl ⟨?vy8, [1000000], ?va8, ?vl8, ?vm8, ?cond8, ?cont8⟩)); (case cond8 => ((repeat' apply And.intro) <;> (try ((with_reducible show ToldM _ _ _ _ _ _); exact hX))); (all_goals first | trivial | (simp only [rA_ren, rA_len, go_sem, simprocAttr]; done) | (simp; done) | rfl)); (first | refine hK _ _ _ ?_ | (simp only [rA_ren, rA_len, go_sem, simprocAttr]; first | refine hK _ _ _ ?_ | refine ⟨rfl, hK _ _ _ ?_⟩)); clear hK K)
      refine walkBF (And.intro @len_vcells (And.intro @take_vcells (And.intro @take_vcellsC (And.intro hyl (And.intro @rA_vv e0))))) ?_
      refine ⟨by first | exact .inr rfl | exact .inl rfl, ?_⟩; rw [Tryz.results201]; simp only [rA_len, rA_ren, resOk, resV, go_sem, simprocAttr]
      exact ⟨.nil 6, .nil 1⟩
section
section
variable {P : Program} {N : Nat} {Q : Exit → ASt → Prop}
theorem VC.nilH {c : Code} {t : Nat → AV} {h : Nat → Option Blkd} {n : Nat} (j o : Nat) (T : TypeId) (z : Nat) (B : Blkd) (e : List AV) (hB : h j = some B) (hrow : B.row = false) (he : B.elems = [e]) (ho : e[o]? = some (.c (.v (.slice none 0 0)))) (hn : Nat.ble (n + 1) L0 = true)
    (hv : VC P N c ⟨t, upd (upd h n (some ⟨true, T, z, []⟩)) j (some ⟨false, B.T, B.z, [e.set o (.row n 0)]⟩), n + 8⟩ Q) : VC P N c ⟨t, h, n⟩ Q := ⟨fun C a W r => by
  obtain ⟨ro, φ, r⟩ := r
  have hn := Nat.le_of_ble_eq_true hn
  have hnu : ¬ Used n n := fun hu => by unfold Used at hu; omega
  have hjn : j ≠ n := fun e => hnu (e ▸ (r.scH j B hB).1)
  have r2 : Rel C (fun j => Used n j ∨ j = n) N t (upd h n (some ⟨true, T, z, []⟩)) ro (upd φ n (.slice none 0 0)) a W :=
    r.block (W' := W) (Keeps.refl _ _) (fun b hb => by simp [blkOf] at hb) (.inr hnu)
      ⟨fun i e he => by simp at he, fun e he => by simp at he, [], ⟨rfl, fun j x v hx => by simp at hx⟩, by rw [if_pos rfl, upd_same]; exact World.ownsRow_nil W 0 T z⟩ (fun e he => by simp at he)
  have r3 := r2.take (used' := Used (n + 8)) fun j hj => by
    unfold Used at hj ⊢
    omega
  have hB3 : upd h n (some ⟨true, T, z, []⟩) j = some B := by rw [upd_ne _ _ hjn]; exact hB
  obtain ⟨b1, b2, vs, b3, b4⟩ := r3.hp j B hB3
  have helen : e.length = B.z := b1 0 e (by rw [he]; rfl)
  have hol := (List.getElem?_eq_some_iff.1 ho).1
  rw [he, List.flatten_cons, List.flatten_nil, List.append_nil] at b3
  have hg : ∀ k B', Used (n + 8) k → upd (upd h n (some ⟨true, T, z, []⟩)) j (some ⟨false, B.T, B.z, [e.set o (.row n 0)]⟩) k = some B' → ∃ B0, upd h n (some ⟨true, T, z, []⟩) k = some B0 ∧ (B0.len < B'.len ∨ (B0.len = B'.len ∧ B0.z = B'.z ∧ upd (upd φ n (.slice none 0 0)) j (upd φ n (.slice none 0 0) j) k = upd φ n (.slice none 0 0) k)) := by
    intro k B' hk hB'
    by_cases hkj : k = j
    · subst hkj
      rw [upd_same] at hB'
      obtain rfl := Option.some.inj hB'
      exact ⟨B, hB3, .inr ⟨by unfold Blkd.len; rw [he]; rfl, rfl, by rw [upd_same]⟩⟩
    · rw [upd_ne _ _ hkj] at hB'
      exact ⟨B', hB', .inr ⟨rfl, rfl, upd_ne _ _ hkj⟩⟩
  have hnew : ∀ (i : Nat) (x : AV), (e.set o (.row n 0))[i]? = some x → (i = o ∧ x = .row n 0) ∨ (i ≠ o ∧ e[i]? = some x) := by
    intro i x hx
    by_cases hio : i = o
    · subst hio
      rw [List.getElem?_set_self hol] at hx
      exact .inl ⟨rfl, (Option.some.inj hx).symm⟩
    · rw [List.getElem?_set_ne (fun e => hio e.symm)] at hx
      exact .inr ⟨hio, hx⟩
  have hrow0 : ∀ v : Value, v = .slice none 0 0 → Rep W ro (upd (upd φ n (.slice none 0 0)) j (upd φ n (.slice none 0 0) j)) (upd (upd h n (some ⟨true, T, z, []⟩)) j (some ⟨false, B.T, B.z, [e.set o (.row n 0)]⟩)) (.row n 0) v := by
    rintro v rfl
    refine .row rfl fun B' hB' _ => ?_
    rw [upd_ne _ _ (fun e => hjn e.symm), upd_same]
  have hscn : Sc (fun k => Used (n + 8) k ∨ k = j) (upd (upd h n (some ⟨true, T, z, []⟩)) j (some ⟨false, B.T, B.z, [e.set o (.row n 0)]⟩)) (.row n 0) := by
    refine .row (.inl (by unfold Used; omega)) fun B' hB' => Nat.zero_le _
  have r4 := r3.block (W' := W) (ℓ := j) (B := ⟨false, B.T, B.z, [e.set o (.row n 0)]⟩) (v := upd φ n (.slice none 0 0) j) (Keeps.refl _ _) (fun b hb => .inr ⟨B, hB3, hb⟩)
    (.inl ⟨B, hB3, .inr ⟨by unfold Blkd.len; rw [he]; rfl, rfl, rfl⟩⟩)
    ⟨fun i e' he' => by
        match i, he' with
        | 0, he' => obtain rfl := Option.some.inj he'; simpa using helen,
      fun e' he' x hx => by
        obtain rfl := List.mem_singleton.1 he'
        obtain ⟨i, hi, hxi⟩ := List.getElem_of_mem hx
        rcases hnew i x (by rw [List.getElem?_eq_getElem hi, hxi]) with ⟨_, rfl⟩ | ⟨_, h5⟩
        · rfl
        · exact b2 e (by rw [he]; exact List.mem_singleton.2 rfl) x (List.mem_of_getElem? h5),
      vs, by
        refine ⟨by simpa using b3.1, fun i x v hx hvv => ?_⟩
        simp only [List.flatten_cons, List.flatten_nil, List.append_nil] at hx
        rcases hnew i x hx with ⟨rfl, rfl⟩ | ⟨_, h5⟩
        · exact hrow0 v (rep_prim (b3.2 i _ v ho hvv))
        · exact (b3.2 i x v h5 hvv).map ((r3.scH j B hB3).2 e (by rw [he]; exact List.mem_singleton.2 rfl) x (List.mem_of_getElem? h5)) (fun _ _ => rfl) (fun _ h => h) hg, by
        rw [if_neg (by simp)]
        rw [if_neg (by simp [hrow])] at b4
        rw [upd_same]
        exact b4⟩
    (fun e' he' x hx => by
      obtain rfl := List.mem_singleton.1 he'
      obtain ⟨i, hi, hxi⟩ := List.getElem_of_mem hx
      rcases hnew i x (by rw [List.getElem?_eq_getElem hi, hxi]) with ⟨_, rfl⟩ | ⟨_, h5⟩
      · exact hscn
      · refine ((r3.scH j B hB3).2 e (by rw [he]; exact List.mem_singleton.2 rfl) x (List.mem_of_getElem? h5)).map (fun k hk => .inl hk) fun k B' hk hB' => ?_
        obtain ⟨B0, h6, h7⟩ := hg k B' hk hB'
        exact ⟨B0, h6, by rcases h7 with h7 | h7 <;> omega⟩)
  have r5 := r4.take (used' := Used (n + 8)) fun k hk => by
    rcases hk with hk | rfl
    · exact hk
    · have := (r.scH k B hB).1
      unfold Used at this ⊢
      simp only [] at this
      omega
  exact hv.out C a W ⟨ro, _, r5⟩⟩
end
end

inductive FQ (Q : Exit → ASt → Prop) : Exit → ASt → Prop
  | frz {e : Exit} {σ : ASt} (F : List Nat) (l : List (Nat × AV)) (hl : List (Nat × Blkd)) (n : Nat) (hw : WeakF σ F l hl n) (h : Q e (st l hl n)) : FQ Q e σ
theorem VC.late {P : Program} {N : Nat} {c : Code} {σ : ASt} {Q : Exit → ASt → Prop} (h : VC P N c σ (FQ Q)) : VC P N c σ Q := ⟨fun C a W r => Code.wp_mono (fun e a' W' ⟨σ', h1, h2⟩ => by
  cases h1 with
  | frz F l hl n hw h => exact ⟨_, h, relS_frz h2 hw⟩) (h.out C a W r)⟩
def v0B (k : Int) : Blkd := ⟨false, 43, 6, [[.c (.v (.int .i64 k)), .c (.v (.int .i64 0)), .c (.v (.int .u64 0)), .c (.v (.slice none 0 0)), .c (.v (.slice none 0 0)), .c (.v (.slice none 0 0))]]⟩
def vvB (v : VT) : Blkd := ⟨false, 43, 6, [v.cells.map .c]⟩
def zc : List AV := [.c (.v (.int .i64 0)), .c (.v (.int .i64 0)), .c (.v (.int .u64 0)), .c (.v (.slice none 0 0)), .c (.v (.slice none 0 0)), .c (.v (.slice none 0 0))]
theorem zc_len (xs : List VT) : (rA VT.cells xs ++ [zc]).length = xs.length + 1 := by simp [rA_len]
theorem zc_at (xs : List VT) : (rA VT.cells xs ++ [zc])[xs.length]? = some zc := by
  rw [List.getElem?_append_right (by rw [rA_len]; exact Nat.le_refl _), rA_len, Nat.sub_self]
  rfl
theorem zc_set (xs : List VT) (v : VT) : (rA VT.cells xs ++ [zc]).set xs.length (v.cells.map .c) = rA VT.cells (xs ++ [v]) := by
  rw [List.set_append_right _ _ (by rw [rA_len]; exact Nat.le_refl _), rA_len, Nat.sub_self, List.set_cons_zero, rA_vv]
def fldS (val : Int → Nat → Int → VT × Nat × Int) : List FT → List VT → Nat → Int → List VT × Nat × Int
  | [], xs, p, e => (xs, p, e)
  | t :: ts, xs, p, e => if e = 0 then fldS val ts (xs ++ [(val t.type p 0).1]) (val t.type p 0).2.1 (val t.type p 0).2.2 else (xs, p, e)
theorem fldS_got {f : Int → Rd VT} (hf : ∀ a, Fair (f a)) {B : List UInt8} {val : Int → Nat → Int → VT × Nat × Int} : ∀ (ts : List FT) (hv : ∀ t ∈ ts, ∀ p e, p ≤ B.length → Got (f t.type B p) B e (val t.type p e).1 (val t.type p e).2.1 (val t.type p e).2.2) (xs : List VT) (p : Nat) (e : Int), p ≤ B.length →
    Got (rfields f ts xs B p) B e (fldS val ts xs p e).1 (fldS val ts xs p e).2.1 (fldS val ts xs p e).2.2
  | [], hv, xs, p, e, hp => by
    rw [fldS, rfields]
    refine ⟨hp, fun _ => rfl, fun x _ hx => ?_, fun w q' h0 hx => ?_⟩
    · unfold rret at hx; simp at hx
    · unfold rret at hx
      injection hx with hx
      injection hx with hx hx'
      exact ⟨hx, hx', h0⟩
  | t :: ts, hv, xs, p, e, hp => by
    rw [fldS, rfields]
    by_cases h : e = 0
    · rw [if_pos h]
      subst h
      have hg := hv t (by simp) p 0 hp
      have hi := hg.is (hf t.type)
      have ih := fldS_got hf ts (fun t ht => hv t (by simp [ht])) (xs ++ [(val t.type p 0).1]) (val t.type p 0).2.1 (val t.type p 0).2.2 hg.le
      by_cases h0 : (val t.type p 0).2.2 = 0
      · rw [h0] at ih ⊢
        rw [rbind_ok (hi.1 h0)]
        exact ih
      · have hno := ih.no h0
        refine got_of ih.le (fun h => absurd (hno.symm.trans h) h0) fun _ => ?_
        rw [rbind_bad (hi.2 h0), hno]
    · rw [if_neg h]
      exact ⟨hp, fun _ => rfl, fun x h0 => absurd h0 h, fun w q' h0 => absurd h0 h⟩
set_option maxRecDepth 100000 in
set_option maxHeartbeats 3200000 in
theorem dcomp9_told (ns : List NT) (r : Int) (B : List UInt8) (hB : B.length ≤ 1000000) (nd : NT) (hk : nd.kind = 9) (hfl : nd.fields.length ≤ 1000000) (dep : Nat) (val : Int → Nat → Int → VT × Nat × Int) (hV : ∀ t ∈ nd.fields, ValT ns r B t.type dep (val t.type)) (hle : ∀ t ∈ nd.fields, ∀ p e, p ≤ B.length → (val t.type p e).2.1 ≤ B.length)
    (p0 : Nat) (hp0 : p0 ≤ B.length) (e0 : Int) (F : List VT × Nat × Int) (hF : F = fldS val nd.fields [] p0 e0) :
    ToldM Tryz.prog 129 [.ref 1000000 1 0 0, nd.av, .ref 1000001 1 0 0, .c (.v (.int .i64 (dep : Int)))] [dB ns r B p0 e0, v0B nd.kind] [some (dB ns r B F.2.1 F.2.2), some (vvB (.mk nd.kind 0 0 [] F.1 []))] (.tup []) := by
  have e9 : (nd.kind == 9) = true := by simpa using hk
  rw [NT.av_eq]
  unfold dB v0B vvB
  rw [vcells_mk]
  refine VC.toldM ent_129 [] Tryz.func129 rfl Tryz.ntmps129 (by simp) (by simp only [ScM, zOk, inL, eq_self, used_is, sc_any, sc_c, sc_pp, sc_ref, sc_row, sc_agg, sc_tup, sc_fn, ScL, some_imp, List.forall_mem_map, Nat.le_refl, go_sem, simprocAttr]) (by simp only [ScM, zOk, inL, eq_self, used_is, sc_any, sc_c, sc_pp, sc_ref, sc_row, sc_agg, sc_tup, sc_fn, ScL, some_imp, List.forall_mem_map, Nat.le_refl, go_sem, simprocAttr]) (by simp only [ScM, zOk, inL, eq_self, used_is, sc_any, sc_c, sc_pp, sc_ref, sc_row, sc_agg, sc_tup, sc_fn, ScL, some_imp, List.forall_mem_map, Nat.le_refl, go_sem, simprocAttr]) (by simp only [ScM, zOk, inL, eq_self, used_is, sc_any, sc_c, sc_pp, sc_ref, sc_row, sc_agg, sc_tup, sc_fn, ScL, some_imp, List.forall_mem_map, Nat.le_refl, go_sem, simprocAttr]) (by simp) fun hb hbL => ?_
  clear hb hbL
  refine walkBF (And.intro @ncells_mk e9) ?_
  refine VC.nilH 1000001 4 43 6 ⟨false, 43, 6, [[.c (.v (.int .i64 nd.kind)), .c (.v (.int .i64 0)), .c (.v (.int .u64 0)), .c (.v (.slice none 0 0)), .c (.v (.slice none 0 0)), .c (.v (.slice none 0 0))]]⟩ [.c (.v (.int .i64 nd.kind)), .c (.v (.int .i64 0)), .c (.v (.int .u64 0)), .c (.v (.slice none 0 0)), .c (.v (.slice none 0 0)), .c (.v (.slice none 0 0))] rfl rfl rfl rfl (by rfl) ?_
  refine VC.loop (ι := {s : Nat × List VT × Nat × Int // s.1 ≤ nd.fields.length ∧ s.2.1.length = s.1 ∧ s.2.2.1 ≤ B.length ∧ F = fldS val (nd.fields.drop s.1) s.2.1 s.2.2.1 s.2.2.2})
    (fun s => [(0, .ref 1000000 1 0 0), (2, .ref 1000001 1 0 0), (3, .c (.v (.int .i64 (dep : Int)))), (5, .ref 0 1 0 0), (28, .c (.sl 9 (nd.fields.map FT.cells))), (29, .c (.v (.int .i64 (nd.fields.length : Int)))), (30, .c (.v (.int .i64 (s.1.1 : Int))))])
    (fun s => [(0, ⟨false, 33, 10, [nd.cells.map .c]⟩), (72, ⟨true, 43, 6, rA VT.cells s.1.2.1⟩), (1000001, ⟨false, 43, 6, [[.c (.v (.int .i64 nd.kind)), .c (.v (.int .i64 0)), .c (.v (.int .u64 0)), .c (.v (.slice none 0 0)), .row 72 s.1.2.1.length, .c (.v (.slice none 0 0))]]⟩),
      (1000000, ⟨false, 109, 5, [[.c (.sl 10 (ns.map NT.cells)), .c (.v (.int .i64 r)), .c (.sl 1 (bytePV B)), .c (.v (.int .i64 (s.1.2.2.1 : Int))), .c (.v (.int .i64 s.1.2.2.2))]]⟩)]) 2000 (fun s => nd.fields.length - s.1.1)
    ⟨(0, [], p0, e0), Nat.zero_le _, rfl, hp0, hF⟩ ?_ ?_
  · simp only [ncells_mk, rA_len, rA_sc, List.length_map, Weak, eq_self, used_is, sc_any, sc_c, sc_pp, sc_ref, sc_row, sc_agg, sc_fn, ScL, some_imp, List.forall_mem_map, go_sem, Int.reduceBEq, Int.reduceLE, Int.reduceLT, Int.reduceNeg, Nat.reduceAdd, Nat.reduceEqDiff, Nat.reduceLT, Nat.reduceLeDiff, Nat.reduceMul, Nat.reduceSub, reduceCtorEq, ↓reduceIte]
    all_goals first | rfl | exact ⟨rfl, rfl⟩ | exact ⟨⟨rfl, rfl⟩, rfl⟩ | skip
  rintro ⟨⟨i, xs, p, e⟩, h1, h2, h3, h4⟩
  simp only [] at h1 h2 h3 h4 ⊢
  have hxl : (rA VT.cells xs).length = xs.length := rA_len _ _
  have hend : (p, e) = (F.2.1, F.2.2) ∧ xs = F.1 → VC Tryz.prog 0 .skip (st [] [] 0) (fun _ _ => True) := fun _ => VC.skip trivial
  clear hend
  refine walkG ?_
  refine VC.cond (by rfl) (by trivial) (fun hd => ?_) (fun hd => ?_)
  rotate_left
  · have hie : i = nd.fields.length := by simp at hd; omega
    rw [hie, List.drop_length, fldS] at h4
    subst h4
    refine VC.frz [72] [] [(1000001, ⟨false, 43, 6, [(VT.mk nd.kind 0 0 [] xs []).cells.map .c]⟩), (1000000, ⟨false, 109, 5, [[.c (.sl 10 (ns.map NT.cells)), .c (.v (.int .i64 r)), .c (.sl 1 (bytePV B)), .c (.v (.int .i64 (p : Int))), .c (.v (.int .i64 e))]]⟩)] 3000 ?_ ?_
    · simp only [rA_sc, rA_len, WeakF, used_is, sc_any, sc_c, sc_pp, sc_ref, sc_row, sc_agg, sc_fn, ScL, some_imp, List.forall_mem_map, go_sem, Int.reduceBEq, Int.reduceLE, Int.reduceLT, Int.reduceNeg, Nat.reduceAdd, Nat.reduceEqDiff, Nat.reduceLT, Nat.reduceLeDiff, Nat.reduceMul, Nat.reduceSub, reduceCtorEq, ↓reduceIte]
      rw [vcells_mk]
      exact ⟨.one (.cons (.same _) (.cons (.same _) (.cons (.same _) (.cons (.nil 1) (.cons (.row (B := ⟨true, 43, 6, rA VT.cells xs⟩) (es := xs.map VT.cells) (by simp) rfl rfl (rA_len _ _) (rA_pv _ _)) (.cons (.nil 1) .nil)))))) (by simp [AV.cellish]), .same _⟩
    refine walkB ?_
    refine ⟨by first | exact .inr rfl | exact .inl rfl, ?_⟩; rw [Tryz.results129]; simp only [vcells_mk, resOk, resV, go_sem, simprocAttr]
  have hlt : i < nd.fields.length := by simp at hd; omega
  obtain ⟨fd, hx⟩ : ∃ fd, nd.fields[i]? = some fd := ⟨nd.fields[i], List.getElem?_eq_getElem hlt⟩
  have hmem := List.mem_of_getElem? hx
  have hxq : (nd.fields.map FT.cells)[i]? = some fd.cells := by rw [List.getElem?_map, hx]; rfl
  have hw : IntKind.i64.wrap ((i : Int) + 1) = ((i + 1 : Nat) : Int) := by rw [wrap64_id (by omega) (by omega)]; omega
  have hdr : nd.fields.drop i = fd :: nd.fields.drop (i + 1) := by
    rw [List.drop_eq_getElem_cons hlt]
    congr 1
    exact Option.some.inj ((List.getElem?_eq_getElem hlt).symm.trans hx)
  by_cases h0 : e = 0
  · subst h0
    have g4 := h4
    rw [hdr, fldS, if_pos rfl] at g4
    have hX := hV fd hmem p 0 h3
    have hql := hle fd hmem p 0 h3
    obtain ⟨v, q2, e2, hvv⟩ : ∃ a b c, val fd.type p 0 = (a, b, c) := ⟨_, _, _, rfl⟩
    rw [hvv] at hX hql g4
    simp only [] at hX hql g4
    rw [VT.av_eq] at hX
    unfold dB at hX
    refine walkBF (And.intro @ncells_mk (And.intro hxq (And.intro @fcells_mk (And.intro @len_fcells (And.intro @take_fcells (And.intro @take_fcellsC (And.intro @len_cells (And.intro @take_cells @take_cellsC)))))))) ?_
    ((refine AO.step fun K hK => ?_; simp only [go_sem, Int.reduceBEq, Int.reduceLE, Int.reduceLT, Int.reduceNeg, Nat.reduceAdd, Nat.reduceEqDiff, Nat.reduceLT, Nat.reduceLeDiff, Nat.reduceMul, Nat.reduceSub, reduceCtorEq, ↓reduceIte, rA_ren, rA_len]; (first | refine gsel_go ?_ | skip)); refine .inr (.inr (.inl ⟨?vy1, [1000000], ?va1, ?vl1, ?vm1, ?cond1, ?cont1⟩)); (case cond1 => ((repeat' apply And.intro) <;> (try ((with_reducible show ToldM _ _ _ _ _ _); exact hX))); (all_goals first | trivial | (simp only [rA_ren, rA_len, go_sem, simprocAttr]; done) | (simp; done) | rfl)); (first | refine hK _ _ _ ?_ | (simp only [rA_ren, rA_len, go_sem, simprocAttr]; first | refine hK _ _ _ ?_ | refine ⟨rfl, hK _ _ _ ?_⟩)); clear hK K)
    refine walkBF (And.intro @len_vcells (And.intro @take_vcells (And.intro @take_vcellsC (And.intro hxl (And.intro @rA_vv hw))))) ?_
    refine AO.stepJw rfl (J_buildC _ [.int .i64 0, .int .i64 0, .int .u64 0, .slice none 0 0, .slice none 0 0, .slice none 0 0] _ _ rfl tyA_41 rfl tyA_43 rfl (by decide) rfl (by decide) rfl rfl) ?_
    refine walkBF (And.intro @len_vcells (And.intro @take_vcells (And.intro @take_vcellsC (And.intro hxl (And.intro @rA_vv hw))))) ?_
    (refine AO.step fun K hK => ?_; simp only [go_sem, Int.reduceBEq, Int.reduceLE, Int.reduceLT, Int.reduceNeg, Nat.reduceAdd, Nat.reduceEqDiff, Nat.reduceLT, Nat.reduceLeDiff, Nat.reduceMul, Nat.reduceSub, reduceCtorEq, ↓reduceIte, len_vcells, take_vcells, take_vcellsC, hxl, rA_vv, hw]; (first | refine gsel_go ?_ | skip))
    refine ⟨⟨by simp [rA_len], by omega, by omega⟩, hK _ _ _ ?_⟩
    clear hK K
    have hz1 := zc_at xs
    have hz2 := zc_set xs v
    have hz3 := zc_len xs
    unfold zc at hz1 hz2 hz3
    refine walkBF (And.intro @len_vcells (And.intro @take_vcells (And.intro @take_vcellsC (And.intro hxl (And.intro hz1 (And.intro hz2 (And.intro hz3 hw))))))) ?_
    refine .next ⟨(i + 1, xs ++ [v], q2, e2), hlt, by simp [h2], hql, g4⟩ ?_ (by simp only []; omega)
    simp only [ncells_mk, rA_len, rA_sc, List.length_map, Weak, eq_self, used_is, sc_any, sc_c, sc_pp, sc_ref, sc_row, sc_agg, sc_fn, ScL, some_imp, List.forall_mem_map, go_sem, Int.reduceBEq, Int.reduceLE, Int.reduceLT, Int.reduceNeg, Nat.reduceAdd, Nat.reduceEqDiff, Nat.reduceLT, Nat.reduceLeDiff, Nat.reduceMul, Nat.reduceSub, reduceCtorEq, ↓reduceIte]
    all_goals first | exact ⟨by simp, by simp⟩ | simp
  · have g4 := h4
    rw [hdr, fldS, if_neg h0] at g4
    have e1 : (e != 0) = true := by simpa using h0
    refine VC.frz [72] [(0, .ref 1000000 1 0 0), (28, .c (.sl 9 (nd.fields.map FT.cells))), (30, .c (.v (.int .i64 (i : Int))))] [(1000001, ⟨false, 43, 6, [(VT.mk nd.kind 0 0 [] xs []).cells.map .c]⟩), (1000000, ⟨false, 109, 5, [[.c (.sl 10 (ns.map NT.cells)), .c (.v (.int .i64 r)), .c (.sl 1 (bytePV B)), .c (.v (.int .i64 (p : Int))), .c (.v (.int .i64 e))]]⟩)] 3000 ?_ ?_
    · simp only [rA_sc, rA_len, WeakF, used_is, sc_any, sc_c, sc_pp, sc_ref, sc_row, sc_agg, sc_fn, ScL, some_imp, List.forall_mem_map, go_sem, Int.reduceBEq, Int.reduceLE, Int.reduceLT, Int.reduceNeg, Nat.reduceAdd, Nat.reduceEqDiff, Nat.reduceLT, Nat.reduceLeDiff, Nat.reduceMul, Nat.reduceSub, reduceCtorEq, ↓reduceIte]
      rw [vcells_mk]
      exact ⟨⟨.same _, .same _, .same _⟩, .one (.cons (.same _) (.cons (.same _) (.cons (.same _) (.cons (.nil 1) (.cons (.row (B := ⟨true, 43, 6, rA VT.cells xs⟩) (es := xs.map VT.cells) (by simp) rfl rfl (rA_len _ _) (rA_pv _ _)) (.cons (.nil 1) .nil)))))) (by simp [AV.cellish]), .same _⟩
    refine walkBF (And.intro @ncells_mk (And.intro hxq (And.intro @fcells_mk (And.intro @len_fcells (And.intro @take_fcells (And.intro @take_fcellsC (And.intro @len_cells (And.intro @take_cells (And.intro @take_cellsC e1))))))))) ?_
    rw [g4]
    refine ⟨by first | exact .inr rfl | exact .inl rfl, ?_⟩; rw [Tryz.results129]; simp only [vcells_mk, resOk, resV, go_sem, simprocAttr]
def plcS (f : Rd Int) (B : List UInt8) (many p : Nat) (e : Int) : Int × Nat × Int :=
  if (lft f 0 B p e).1 < 0 ∨ (many : Int) ≤ (lft f 0 B p e).1 then (0, (lft f 0 B p e).2.1, if (lft f 0 B p e).2.2 = 0 then 11 else (lft f 0 B p e).2.2) else lft f 0 B p e
theorem plcS_got {f : Rd Int} (hf : Fair f) {B : List UInt8} (many : Nat) {p : Nat} (hp : p ≤ B.length) (e : Int) : Got (rplace f many B p) B e (plcS f B many p e).1 (plcS f B many p e).2.1 (plcS f B many p e).2.2 := by
  unfold plcS rplace
  by_cases h : e = 0
  · subst h
    have hg := got_lft hf 0 hp 0
    have hi := hg.is hf
    generalize lft f 0 B p 0 = L at hg hi
    by_cases h0 : L.2.2 = 0
    · rw [if_pos h0, rbind_ok (hi.1 h0)]
      by_cases h1 : L.1 < 0 ∨ (many : Int) ≤ L.1
      · rw [if_pos h1, if_pos h1]
        exact got_of hg.le (fun h => absurd h (show ¬ ((11 : Int) = 0) by decide)) fun _ => rfl
      · rw [if_neg h1, if_neg h1]
        exact got_of hg.le (fun _ => by rw [h0] at *; rfl) fun h => absurd h0 h
    · rw [if_neg h0, rbind_bad (hi.2 h0)]
      split
      · exact ⟨hg.le, fun h => absurd rfl h, fun x _ hx => by injection hx, fun w q' _ hx => by simp at hx⟩
      · exact ⟨hg.le, fun h => absurd rfl h, fun x _ hx => by injection hx, fun w q' _ hx => by simp at hx⟩
  · rw [lft_e _ _ _ _ h]
    refine ⟨?_, fun _ => ?_, fun x h0 => absurd h0 h, fun w q' h0 => absurd h0 h⟩
    · split <;> exact hp
    · split <;> simp [h]
theorem plcS_in {f : Rd Int} {B : List UInt8} {many p : Nat} {e : Int} (h : (plcS f B many p e).2.2 = 0) : 0 ≤ (plcS f B many p e).1 ∧ (plcS f B many p e).1 < (many : Int) := by
  unfold plcS at h ⊢
  split at h
  · simp only [] at h
    split at h
    · simp at h
    · contradiction
  · rename_i h1
    rw [if_neg h1]
    omega
theorem dplace_told {g : FuncId} (f : Rd Int) (ns : List NT) (r : Int) (B : List UInt8) (p : Nat) (e : Int) (many : Nat) (hg : Told Tryz.prog g [.agg ((rC B p e).map .c)] (.tup [.c (.v (.int .i64 (lft f 0 B p e).1)), .agg ((rC B (lft f 0 B p e).2.1 (lft f 0 B p e).2.2).map .c)])) :
    ToldM Tryz.prog 127 [.ref 1000000 1 0 0, .fn (.func g) [] [], .c (.v (.int .i64 (many : Int)))] [dB ns r B p e] [some (dB ns r B (plcS f B many p e).2.1 (plcS f B many p e).2.2)] (.c (.v (.int .i64 (plcS f B many p e).1))) := by
  have h := dplace_any ns r B p _ e _ _ many (dnumber_told ns r B p _ e _ _ hg)
  unfold plcS
  by_cases h1 : (lft f 0 B p e).1 < 0 ∨ (many : Int) ≤ (lft f 0 B p e).1
  · rw [if_pos h1, if_pos h1] at h
    rw [if_pos h1]
    exact h
  · rw [if_neg h1, if_neg h1] at h
    rw [if_neg h1]
    exact h
set_option maxRecDepth 100000 in
set_option maxHeartbeats 3200000 in
theorem dcomp13_told (ns : List NT) (r : Int) (B : List UInt8) (hB : B.length ≤ 1000000) (nd : NT) (hk : nd.kind = 13) (hbl : nd.branches.length ≤ 1000000) (dep : Nat) (val : Int → Nat → Int → VT × Nat × Int) (hV : ∀ a ∈ nd.branches, ValT ns r B a dep (val a))
    (p0 : Nat) (hp0 : p0 ≤ B.length) (e0 : Int) (P : Int × Nat × Int) (hP : P = plcS rlong B nd.branches.length p0 e0) (F : List VT × Nat × Int) (hF : F = if P.2.2 = 0 then ([(val (branchAt nd P.1) P.2.1 0).1], (val (branchAt nd P.1) P.2.1 0).2) else ([], P.2)) :
    ToldM Tryz.prog 129 [.ref 1000000 1 0 0, nd.av, .ref 1000001 1 0 0, .c (.v (.int .i64 (dep : Int)))] [dB ns r B p0 e0, v0B nd.kind] [some (dB ns r B F.2.1 F.2.2), some (vvB (.mk nd.kind P.1 0 [] F.1 []))] (.tup []) := by
  have e9 : (nd.kind == 9) = false := by simp; omega
  have e13 : (nd.kind == 13) = true := by simpa using hk
  have hPl := dplace_told rlong ns r B p0 e0 nd.branches.length (wlong_told B hB p0 hp0 e0)
  have hgl := (plcS_got fair_long nd.branches.length hp0 e0).le
  have hin := plcS_in (f := rlong) (B := B) (many := nd.branches.length) (p := p0) (e := e0)
  rw [← hP] at hPl hgl hin
  obtain ⟨N, q, E⟩ := P
  clear hP
  simp only [] at hPl hgl hin hF ⊢
  rw [NT.av_eq]
  unfold dB v0B vvB at *
  rw [vcells_mk]
  by_cases h0 : E = 0
  · rw [if_pos h0] at hF
    subst h0
    obtain ⟨n1, n2⟩ := hin rfl
    have hlt : N.toNat < nd.branches.length := by omega
    have hba : nd.branches[N.toNat]? = some (branchAt nd N) := by rw [branchAt, List.getElem?_eq_getElem hlt]
    have hbp : (nd.branches.map iPV)[N.toNat]? = some [.v (.int .i64 (branchAt nd N))] := by rw [List.getElem?_map, hba]; rfl
    have hX := hV _ (List.mem_of_getElem? hba) q 0 hgl
    generalize branchAt nd N = a at hX hF hbp
    obtain ⟨v, q2, e2, hvv⟩ : ∃ x y z, val a q 0 = (x, y, z) := ⟨_, _, _, rfl⟩
    rw [hvv] at hX hF
    simp only [] at hX hF
    rw [VT.av_eq] at hX
    unfold dB at hX
    subst hF
    refine VC.toldM ent_129 [] Tryz.func129 rfl Tryz.ntmps129 (by simp) (by simp only [ScM, zOk, inL, eq_self, used_is, sc_any, sc_c, sc_pp, sc_ref, sc_row, sc_agg, sc_tup, sc_fn, ScL, some_imp, List.forall_mem_map, Nat.le_refl, go_sem, simprocAttr]) (by simp only [ScM, zOk, inL, eq_self, used_is, sc_any, sc_c, sc_pp, sc_ref, sc_row, sc_agg, sc_tup, sc_fn, ScL, some_imp, List.forall_mem_map, Nat.le_refl, go_sem, simprocAttr]) (by simp only [ScM, zOk, inL, eq_self, used_is, sc_any, sc_c, sc_pp, sc_ref, sc_row, sc_agg, sc_tup, sc_fn, ScL, some_imp, List.forall_mem_map, Nat.le_refl, go_sem, simprocAttr]) (by simp only [ScM, zOk, inL, eq_self, used_is, sc_any, sc_c, sc_pp, sc_ref, sc_row, sc_agg, sc_tup, sc_fn, ScL, some_imp, List.forall_mem_map, Nat.le_refl, go_sem, simprocAttr]) (by simp) fun hb hbL => ?_
    clear hb hbL
    refine VC.late ?_
    refine walkBF (And.intro @ncells_mk (And.intro e9 e13)) ?_
    ((refine AO.step fun K hK => ?_; simp only [go_sem, Int.reduceBEq, Int.reduceLE, Int.reduceLT, Int.reduceNeg, Nat.reduceAdd, Nat.reduceEqDiff, Nat.reduceLT, Nat.reduceLeDiff, Nat.reduceMul, Nat.reduceSub, reduceCtorEq, ↓reduceIte]; (first | refine gsel_go ?_ | skip)); refine .inr (.inr (.inl ⟨?vy2, [1000000], ?va2, ?vl2, ?vm2, ?cond2, ?cont2⟩)); (case cond2 => ((repeat' apply And.intro) <;> (try ((with_reducible show ToldM _ _ _ _ _ _); exact hPl))); (all_goals first | trivial | (simp only [go_sem, simprocAttr]; done) | (simp; done) | rfl)); (first | refine hK _ _ _ ?_ | (simp only [go_sem, simprocAttr]; first | refine hK _ _ _ ?_ | refine ⟨rfl, hK _ _ _ ?_⟩)); clear hK K)
    refine walkBF (And.intro @ncells_mk hbp) ?_
    ((refine AO.step fun K hK => ?_; simp only [go_sem, Int.reduceBEq, Int.reduceLE, Int.reduceLT, Int.reduceNeg, Nat.reduceAdd, Nat.reduceEqDiff, Nat.reduceLT, Nat.reduceLeDiff, Nat.reduceMul, Nat.reduceSub, reduceCtorEq, ↓reduceIte]; (first | refine gsel_go ?_ | skip)); refine .inr (.inr (.inl ⟨?vy3, [1000000], ?va3, ?vl3, ?vm3, ?cond3, ?cont3⟩)); (case cond3 => ((repeat' apply And.intro) <;> (try ((with_reducible show ToldM _ _ _ _ _ _); exact hX))); (all_goals first | trivial | (simp only [go_sem, simprocAttr]; done) | (simp; done) | rfl)); (first | refine hK _ _ _ ?_ | (simp only [go_sem, simprocAttr]; first | refine hK _ _ _ ?_ | refine ⟨rfl, hK _ _ _ ?_⟩)); clear hK K)
    refine walkBF (And.intro @len_vcells (And.intro @take_vcells @take_vcellsC)) ?_
    refine .frz [272] [] [(1000001, ⟨false, 43, 6, [(VT.mk nd.kind N 0 [] [v] []).cells.map .c]⟩), (1000000, ⟨false, 109, 5, [[.c (.sl 10 (ns.map NT.cells)), .c (.v (.int .i64 r)), .c (.sl 1 (bytePV B)), .c (.v (.int .i64 (q2 : Int))), .c (.v (.int .i64 e2))]]⟩)] 3000 ?_ ?_
    · simp only [rA_sc, rA_len, WeakF, used_is, sc_any, sc_c, sc_pp, sc_ref, sc_row, sc_agg, sc_fn, ScL, some_imp, List.forall_mem_map, go_sem, Int.reduceBEq, Int.reduceLE, Int.reduceLT, Int.reduceNeg, Nat.reduceAdd, Nat.reduceEqDiff, Nat.reduceLT, Nat.reduceLeDiff, Nat.reduceMul, Nat.reduceSub, reduceCtorEq, ↓reduceIte]
      rw [vcells_mk]
      exact ⟨.one (.cons (.same _) (.cons (.same _) (.cons (.same _) (.cons (.nil 1) (.cons (.row (B := ⟨true, 43, 6, [v.cells.map .c]⟩) (es := [v.cells]) (by simp) rfl rfl rfl rfl) (.cons (.nil 1) .nil)))))) (by simp [AV.cellish]), .same _⟩
    refine ⟨by first | exact .inr rfl | exact .inl rfl, ?_⟩; rw [Tryz.results129]; simp only [vcells_mk, resOk, resV, go_sem, simprocAttr]
  · rw [if_neg h0] at hF
    subst hF
    have e1 : (E == 0) = false := by simpa using h0
    refine VC.toldM ent_129 [] Tryz.func129 rfl Tryz.ntmps129 (by simp) (by simp only [ScM, zOk, inL, eq_self, used_is, sc_any, sc_c, sc_pp, sc_ref, sc_row, sc_agg, sc_tup, sc_fn, ScL, some_imp, List.forall_mem_map, Nat.le_refl, go_sem, simprocAttr]) (by simp only [ScM, zOk, inL, eq_self, used_is, sc_any, sc_c, sc_pp, sc_ref, sc_row, sc_agg, sc_tup, sc_fn, ScL, some_imp, List.forall_mem_map, Nat.le_refl, go_sem, simprocAttr]) (by simp only [ScM, zOk, inL, eq_self, used_is, sc_any, sc_c, sc_pp, sc_ref, sc_row, sc_agg, sc_tup, sc_fn, ScL, some_imp, List.forall_mem_map, Nat.le_refl, go_sem, simprocAttr]) (by simp only [ScM, zOk, inL, eq_self, used_is, sc_any, sc_c, sc_pp, sc_ref, sc_row, sc_agg, sc_tup, sc_fn, ScL, some_imp, List.forall_mem_map, Nat.le_refl, go_sem, simprocAttr]) (by simp) fun hb hbL => ?_
    clear hb hbL
    refine VC.late ?_
    refine walkBF (And.intro @ncells_mk (And.intro e9 e13)) ?_
    ((refine AO.step fun K hK => ?_; simp only [go_sem, Int.reduceBEq, Int.reduceLE, Int.reduceLT, Int.reduceNeg, Nat.reduceAdd, Nat.reduceEqDiff, Nat.reduceLT, Nat.reduceLeDiff, Nat.reduceMul, Nat.reduceSub, reduceCtorEq, ↓reduceIte]; (first | refine gsel_go ?_ | skip)); refine .inr (.inr (.inl ⟨?vy4, [1000000], ?va4, ?vl4, ?vm4, ?cond4, ?cont4⟩)); (case cond4 => ((repeat' apply And.intro) <;> (try ((with_reducible show ToldM _ _ _ _ _ _); exact hPl))); (all_goals first | trivial | (simp only [go_sem, simprocAttr]; done) | (simp; done) | rfl)); (first | refine hK _ _ _ ?_ | (simp only [go_sem, simprocAttr]; first | refine hK _ _ _ ?_ | refine ⟨rfl, hK _ _ _ ?_⟩)); clear hK K)
    refine walkBF (e1) ?_
    refine .frz [] [] [(1000001, ⟨false, 43, 6, [(VT.mk nd.kind N 0 [] [] []).cells.map .c]⟩), (1000000, ⟨false, 109, 5, [[.c (.sl 10 (ns.map NT.cells)), .c (.v (.int .i64 r)), .c (.sl 1 (bytePV B)), .c (.v (.int .i64 (q : Int))), .c (.v (.int .i64 E))]]⟩)] 3000 ?_ ?_
    · simp only [rA_sc, rA_len, WeakF, used_is, sc_any, sc_c, sc_pp, sc_ref, sc_row, sc_agg, sc_fn, ScL, some_imp, List.forall_mem_map, go_sem, Int.reduceBEq, Int.reduceLE, Int.reduceLT, Int.reduceNeg, Nat.reduceAdd, Nat.reduceEqDiff, Nat.reduceLT, Nat.reduceLeDiff, Nat.reduceMul, Nat.reduceSub, reduceCtorEq, ↓reduceIte]
      rw [vcells_mk]
      exact ⟨.one (.cons (.same _) (.cons (.same _) (.cons (.same _) (.cons (.nil 1) (.cons (.nil 6) (.cons (.nil 1) .nil)))))) (by simp [AV.cellish]), .same _⟩
    refine ⟨by first | exact .inr rfl | exact .inl rfl, ?_⟩; rw [Tryz.results129]; simp only [vcells_mk, resOk, resV, go_sem, simprocAttr]
set_option maxRecDepth 100000 in
set_option maxHeartbeats 800000 in
theorem dcount_bad (ns : List NT) (r : Int) (B : List UInt8) (hB : B.length ≤ 1000000) (p : Nat) (hp : p ≤ B.length) (e : Int) (he : e ≠ 0) :
    ToldM Tryz.prog 248 [.ref 1000000 1 0 0, .c (.v (.int .i64 0))] [dB ns r B p e] [some (dB ns r B p e)] (.c (.v (.int .i64 0))) := by
  have hL := wlong_told B hB p hp e
  rw [lft_e _ _ _ _ he] at hL
  have hN := dnumber_told ns r B p p e e 0 hL
  have e1 : (e != 0) = true := by simpa using he
  have hw : IntKind.i64.wrap (300 - 0) = 300 := by decide
  have hz : decide ((0 : Int) > 300) = false := by decide
  unfold dB at *
  refine VC.toldM ent_248 [] Tryz.func248 rfl Tryz.ntmps248 (by simp) (by simp only [ScM, zOk, inL, eq_self, used_is, sc_any, sc_c, sc_pp, sc_ref, sc_row, sc_agg, sc_tup, sc_fn, ScL, some_imp, List.forall_mem_map, Nat.le_refl, go_sem, simprocAttr]) (by simp only [ScM, zOk, inL, eq_self, used_is, sc_any, sc_c, sc_pp, sc_ref, sc_row, sc_agg, sc_tup, sc_fn, ScL, some_imp, List.forall_mem_map, Nat.le_refl, go_sem, simprocAttr]) (by simp only [ScM, zOk, inL, eq_self, used_is, sc_any, sc_c, sc_pp, sc_ref, sc_row, sc_agg, sc_tup, sc_fn, ScL, some_imp, List.forall_mem_map, Nat.le_refl, go_sem, simprocAttr]) (by simp only [ScM, zOk, inL, eq_self, used_is, sc_any, sc_c, sc_pp, sc_ref, sc_row, sc_agg, sc_tup, sc_fn, ScL, some_imp, List.forall_mem_map, Nat.le_refl, go_sem, simprocAttr]) (by simp) fun hb hbL => ?_
  clear hb hbL
  refine walkG ?_
  ((refine AO.step fun K hK => ?_; simp only [go_sem, Int.reduceBEq, Int.reduceLE, Int.reduceLT, Int.reduceNeg, Nat.reduceAdd, Nat.reduceEqDiff, Nat.reduceLT, Nat.reduceLeDiff, Nat.reduceMul, Nat.reduceSub, reduceCtorEq, ↓reduceIte]; (first | refine gsel_go ?_ | skip)); refine .inr (.inr (.inl ⟨?vy5, [1000000], ?va5, ?vl5, ?vm5, ?cond5, ?cont5⟩)); (case cond5 => ((repeat' apply And.intro) <;> (try ((with_reducible show ToldM _ _ _ _ _ _); exact hN))); (all_goals first | trivial | (simp only [go_sem, simprocAttr]; done) | (simp; done) | rfl)); (first | refine hK _ _ _ ?_ | (simp only [go_sem, simprocAttr]; first | refine hK _ _ _ ?_ | refine ⟨rfl, hK _ _ _ ?_⟩)); clear hK K)
  refine walkBF (And.intro hw (And.intro hz e1)) ?_
  refine ⟨by first | exact .inr rfl | exact .inl rfl, ?_⟩; rw [Tryz.results248]; simp only [resOk, resV, go_sem, simprocAttr]
  exact .c _
set_option maxRecDepth 100000 in
set_option maxHeartbeats 800000 in
theorem ditems_bad (ns : List NT) (r : Int) (B : List UInt8) (hB : B.length ≤ 1000000) (nd : NT) (dep : Nat) (p : Nat) (hp : p ≤ B.length) (e : Int) (he : e ≠ 0) :
    ToldM Tryz.prog 201 [.ref 1000000 1 0 0, nd.av, .c (.v (.int .i64 (dep : Int)))] [dB ns r B p e] [some (dB ns r B p e)] (.tup [.c (.sl 6 (([] : List VT).map VT.cells)), .c (.sl 1 (([] : List (List UInt8)).map sPV))]) := by
  have hC := dcount_bad ns r B hB p hp e he
  have hz : decide ((0 : Int) > 0) = false := by decide
  rw [NT.av_eq]
  unfold dB at *
  refine VC.toldM ent_201 [] Tryz.func201 rfl Tryz.ntmps201 (by simp) (by simp only [ScM, zOk, inL, eq_self, used_is, sc_any, sc_c, sc_pp, sc_ref, sc_row, sc_agg, sc_tup, sc_fn, ScL, some_imp, List.forall_mem_map, Nat.le_refl, go_sem, simprocAttr]) (by simp only [ScM, zOk, inL, eq_self, used_is, sc_any, sc_c, sc_pp, sc_ref, sc_row, sc_agg, sc_tup, sc_fn, ScL, some_imp, List.forall_mem_map, Nat.le_refl, go_sem, simprocAttr]) (by simp only [ScM, zOk, inL, eq_self, used_is, sc_any, sc_c, sc_pp, sc_ref, sc_row, sc_agg, sc_tup, sc_fn, ScL, some_imp, List.forall_mem_map, Nat.le_refl, go_sem, simprocAttr]) (by simp only [ScM, zOk, inL, eq_self, used_is, sc_any, sc_c, sc_pp, sc_ref, sc_row, sc_agg, sc_tup, sc_fn, ScL, some_imp, List.forall_mem_map, Nat.le_refl, go_sem, simprocAttr]) (by simp) fun hb hbL => ?_
  clear hb hbL
  refine walkG ?_
  ((refine AO.step fun K hK => ?_; simp only [go_sem, Int.reduceBEq, Int.reduceLE, Int.reduceLT, Int.reduceNeg, Nat.reduceAdd, Nat.reduceEqDiff, Nat.reduceLT, Nat.reduceLeDiff, Nat.reduceMul, Nat.reduceSub, reduceCtorEq, ↓reduceIte]; (first | refine gsel_go ?_ | skip)); refine .inr (.inr (.inl ⟨?vy6, [1000000], ?va6, ?vl6, ?vm6, ?cond6, ?cont6⟩)); (case cond6 => ((repeat' apply And.intro) <;> (try ((with_reducible show ToldM _ _ _ _ _ _); exact hC))); (all_goals first | trivial | (simp only [go_sem, simprocAttr]; done) | (simp; done) | rfl)); (first | refine hK _ _ _ ?_ | (simp only [go_sem, simprocAttr]; first | refine hK _ _ _ ?_ | refine ⟨rfl, hK _ _ _ ?_⟩)); clear hK K)
  refine walkG ?_
  refine VC.loop (ι := Unit) (fun _ => [(0, .ref 1000000 1 0 0), (6, .c (.v (.slice none 0 0))), (7, .c (.v (.slice none 0 0))), (8, .c (.v (.int .i64 0)))])
    (fun _ => [(1000000, ⟨false, 109, 5, [[.c (.sl 10 (ns.map NT.cells)), .c (.v (.int .i64 r)), .c (.sl 1 (bytePV B)), .c (.v (.int .i64 (p : Int))), .c (.v (.int .i64 e))]]⟩)]) 800 (fun _ => 0) () ?_ ?_
  · simp only [ncells_mk, Weak, eq_self, used_is, sc_any, sc_c, sc_pp, sc_ref, sc_row, sc_agg, sc_fn, ScL, some_imp, List.forall_mem_map, go_sem, Int.reduceBEq, Int.reduceLE, Int.reduceLT, Int.reduceNeg, Nat.reduceAdd, Nat.reduceEqDiff, Nat.reduceLT, Nat.reduceLeDiff, Nat.reduceMul, Nat.reduceSub, reduceCtorEq, ↓reduceIte]
  rintro ⟨⟩
  refine walkBF (hz) ?_
  refine ⟨by first | exact .inr rfl | exact .inl rfl, ?_⟩; rw [Tryz.results201]; simp only [resOk, resV, go_sem, simprocAttr]
  exact ⟨.nil 6, .nil 1⟩
set_option maxRecDepth 100000 in
set_option maxHeartbeats 1600000 in
theorem dcomp11_told (ns : List NT) (r : Int) (B : List UInt8) (nd : NT) (hk : nd.kind = 11 ∨ nd.kind = 12) (dep : Nat) (p q : Nat) (e e' : Int) (xs : List VT) (ks : List (List UInt8))
    (hI : ToldM Tryz.prog 201 [.ref 1000000 1 0 0, nd.av, .c (.v (.int .i64 (dep : Int)))] [dB ns r B p e] [some (dB ns r B q e')] (.tup [.c (.sl 6 (xs.map VT.cells)), .c (.sl 1 (ks.map sPV))])) :
    ToldM Tryz.prog 129 [.ref 1000000 1 0 0, nd.av, .ref 1000001 1 0 0, .c (.v (.int .i64 (dep : Int)))] [dB ns r B p e, v0B nd.kind] [some (dB ns r B q e'), some (vvB (.mk nd.kind 0 0 [] xs ks))] (.tup []) := by
  have e9 : (nd.kind == 9) = false := by simp; omega
  have e13 : (nd.kind == 13) = false := by simp; omega
  rw [NT.av_eq] at hI ⊢
  unfold dB v0B vvB at *
  rw [vcells_mk]
  refine VC.toldM ent_129 [] Tryz.func129 rfl Tryz.ntmps129 (by simp) (by simp only [ScM, zOk, inL, eq_self, used_is, sc_any, sc_c, sc_pp, sc_ref, sc_row, sc_agg, sc_tup, sc_fn, ScL, some_imp, List.forall_mem_map, Nat.le_refl, go_sem, simprocAttr]) (by simp only [ScM, zOk, inL, eq_self, used_is, sc_any, sc_c, sc_pp, sc_ref, sc_row, sc_agg, sc_tup, sc_fn, ScL, some_imp, List.forall_mem_map, Nat.le_refl, go_sem, simprocAttr]) (by simp only [ScM, zOk, inL, eq_self, used_is, sc_any, sc_c, sc_pp, sc_ref, sc_row, sc_agg, sc_tup, sc_fn, ScL, some_imp, List.forall_mem_map, Nat.le_refl, go_sem, simprocAttr]) (by simp only [ScM, zOk, inL, eq_self, used_is, sc_any, sc_c, sc_pp, sc_ref, sc_row, sc_agg, sc_tup, sc_fn, ScL, some_imp, List.forall_mem_map, Nat.le_refl, go_sem, simprocAttr]) (by simp) fun hb hbL => ?_
  clear hb hbL
  refine VC.late ?_
  refine walkBF (And.intro @ncells_mk (And.intro e9 e13)) ?_
  ((refine AO.step fun K hK => ?_; simp only [go_sem, Int.reduceBEq, Int.reduceLE, Int.reduceLT, Int.reduceNeg, Nat.reduceAdd, Nat.reduceEqDiff, Nat.reduceLT, Nat.reduceLeDiff, Nat.reduceMul, Nat.reduceSub, reduceCtorEq, ↓reduceIte, ncells_mk]; (first | refine gsel_go ?_ | skip)); refine .inr (.inr (.inl ⟨?vy7, [1000000], ?va7, ?vl7, ?vm7, ?cond7, ?cont7⟩)); (case cond7 => ((repeat' apply And.intro) <;> (try ((with_reducible show ToldM _ _ _ _ _ _); exact hI))); (all_goals first | trivial | (simp only [ncells_mk, go_sem, simprocAttr]; done) | (simp; done) | rfl)); (first | refine hK _ _ _ ?_ | (simp only [ncells_mk, go_sem, simprocAttr]; first | refine hK _ _ _ ?_ | refine ⟨rfl, hK _ _ _ ?_⟩)); clear hK K)
  refine walkB ?_
  refine .frz [] [] [(1000001, ⟨false, 43, 6, [(VT.mk nd.kind 0 0 [] xs ks).cells.map .c]⟩), (1000000, ⟨false, 109, 5, [[.c (.sl 10 (ns.map NT.cells)), .c (.v (.int .i64 r)), .c (.sl 1 (bytePV B)), .c (.v (.int .i64 (q : Int))), .c (.v (.int .i64 e'))]]⟩)] 3000 ?_ ?_
  · simp only [rA_sc, rA_len, WeakF, used_is, sc_any, sc_c, sc_pp, sc_ref, sc_row, sc_agg, sc_fn, ScL, some_imp, List.forall_mem_map, go_sem, Int.reduceBEq, Int.reduceLE, Int.reduceLT, Int.reduceNeg, Nat.reduceAdd, Nat.reduceEqDiff, Nat.reduceLT, Nat.reduceLeDiff, Nat.reduceMul, Nat.reduceSub, reduceCtorEq, ↓reduceIte]
    rw [vcells_mk]
    exact ⟨.one (.cons (.same _) (.cons (.same _) (.cons (.same _) (.cons (.nil 1) (.cons (.same _) (.cons (.same _) .nil)))))) (by simp [AV.cellish]), .same _⟩
  refine ⟨by first | exact .inr rfl | exact .inl rfl, ?_⟩; rw [Tryz.results129]; simp only [vcells_mk, resOk, resV, go_sem, simprocAttr]
end
end Go.Proofs.YtllnlmchjljhlaaGreatDoor
