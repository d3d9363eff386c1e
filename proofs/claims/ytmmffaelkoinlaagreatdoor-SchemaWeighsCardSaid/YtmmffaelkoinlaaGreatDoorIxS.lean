/- slices.IndexFunc and slices.ContainsFunc over []string, as contracts over plain values. -/
import Derived.Test.YtmmffaelkoinlaaGreatDoorIdx
import Derived.Test.YtmmffaelkoinlaaGreatDoorAt
namespace Go.Proofs.YtmmffaelkoinlaaGreatDoor
open Go.RowKit
set_option linter.unusedVariables false
set_option linter.unusedSimpArgs false
attribute [local go_sem] opx opE ev okx gcond bnd okO AV.get AV.okb cAV upd_at putd_some putd_none wrs_nil wrs_cons look_nil look_cons st argT_at bpick_and bpick_or bpick_true bpick_false binV binI binS binVOk binOk isShift binSOk unV unVOk loadV loadP cellsA zeroA Blkd.len setE grown moreA moreR moreOk eqRes pv fillA fillE putSeg AV.cellish AV.pureL AV.pureB lentL_is ex_some AV.ren AV.renL renL_c Blkd.ren rho wrM renN lentOk rhoE keepM endOk tyA_2 tyA_3 tyA_4 tyA_5 tyA_6 tyA_7 tyA_8 tyA_9 tyA_10 tyA_11 tyA_12 tyA_13 tyA_14 tyA_15 tyA_16 tyA_17 tyA_18 tyA_19 tyA_21 tyA_22 tyA_23 tyA_24 tyA_28 tyA_29 tyA_30 tyA_31 tyA_32 tyA_34 tyA_35 tyA_36 tyA_37 tyA_38 tyA_42 tyA_47 tyA_48 tyA_49 tyA_50 tyA_51 tyA_81 tyA_85 tyA_89 tyA_90 tyA_91 tyA_98 tyA_110 tyA_111 tyA_112 tyA_113 tyA_114 tyA_119 tyA_130 tyA_160 tyA_163 tyA_165 tyA_171 tyA_181 tyA_185 tyA_187 tyA_191 tyA_192 tyA_193 tyA_194 tyA_195 tyA_197 tyA_198 tyA_200 tyA_201 tyA_202 tyA_205 Option.map_some Option.map_none Option.getD_some Option.getD_none Option.bind_some Option.bind_none List.getElem?_cons_zero List.getElem?_cons_succ List.getElem?_nil List.getElem?_toArray List.length_cons List.length_nil List.length_map List.forall_mem_map List.map_cons List.map_nil List.drop_zero List.drop_succ_cons List.drop_nil List.take_zero List.take_succ_cons List.take_nil List.mem_cons List.not_mem_nil or_false forall_eq_or_imp forall_eq List.set_cons_zero List.set_cons_succ List.cons_append List.nil_append List.append_nil List.foldl_cons List.foldl_nil List.replicate_succ List.replicate_zero List.all_cons List.all_nil if_true if_false Bool.false_eq_true ne_eq not_false_eq_true not_true_eq_false true_and and_true and_self true_implies imp_self implies_true forall_const beq_self_eq_true Bool.and_true Bool.true_and Bool.and_false Bool.false_and Bool.or_true Bool.true_or Bool.or_false Bool.false_or Bool.not_true Bool.not_false Bool.not_eq_eq_eq_not intKindOf Value.oneCell' Int.toNat_natCast beq_true beq_false Bool.not_eq_true false_implies false_or true_or or_true Nat.zero_add Nat.add_zero decide_true decide_false Int.cast_ofNat_Int Int.toNat_zero Int.toNat_one eq_self

set_option maxRecDepth 100000 in
set_option maxHeartbeats 400000 in
theorem ixfS_told {g : FuncId} {fs cs : List AV} (hp : AV.pureL fs = true) (hp' : AV.pureL cs = true) (l : List (List UInt8)) (p : List UInt8 → Bool) (hk : ∀ x ∈ l, Told Tryz.prog g (fs ++ ([.c (.v (.string (str x)))] ++ cs)) (.c (.v (.bool (p x))))) :
    Told Tryz.prog 121 [.c (.sl 1 (l.map sPV)), .fn (.func g) fs cs] (.c (.v (.int .i64 (idxP p l)))) := by
  refine VC.told ent_121 Tryz.func121 rfl Tryz.ntmps121 (by simp) (by simp [AV.pureB, AV.pureL, hp, hp']) rfl fun hb => ?_
  simp only [List.mem_cons, List.not_mem_nil, or_false, forall_eq_or_imp, forall_eq, abd_c, pbd_sl, List.length_map] at hb
  have h1 := hb.1.1
  clear hb
  refine walkG ?_
  refine VC.loop (ι := {i : Nat // i ≤ l.length ∧ ∀ j x, j < i → l[j]? = some x → p x = false}) (fun i => [(0, .c (.sl 1 (l.map sPV))), (1, .fn (.func g) fs cs), (7, .c (.v (.int .i64 l.length))), (8, .c (.v (.int .i64 i.1)))]) (fun _ => []) 0 (fun i => l.length - i.1) ⟨0, Nat.zero_le _, by intro j x hj; omega⟩ ?_ ?_
  · simp only [sc_pureL hp, sc_pureL hp', Weak, eq_self, used_is, sc_any, sc_c, sc_pp, sc_ref, sc_row, sc_agg, sc_fn, ScL, some_imp, List.forall_mem_map, go_sem, Int.reduceBEq, Int.reduceLE, Int.reduceLT, Int.reduceNeg, Nat.reduceAdd, Nat.reduceEqDiff, Nat.reduceLT, Nat.reduceLeDiff, Nat.reduceMul, Nat.reduceSub, reduceCtorEq, ↓reduceIte]
    all_goals rfl
  rintro ⟨i, hi, ht⟩
  refine walkG ?_
  refine VC.cond (by rfl) (by trivial) (fun hc => ?_) (fun hc => ?_)
  · simp only [decide_eq_true_eq] at hc
    obtain ⟨x, hx⟩ : ∃ x, l[i]? = some x := ⟨l[i]'(by omega), List.getElem?_eq_getElem _⟩
    have hw : IntKind.i64.wrap ((i : Int) + 1) = (i : Int) + 1 := wrap64_id (by omega) (by omega)
    have hkx := hk x (List.mem_of_getElem? hx)
    (repeat (first | refine pass ?_ | refine VC.region (by rfl) (by rfl) ?_ | (refine AO.step fun K hK => ?_; simp only [List.getElem?_map, hx, sPV, go_sem, Int.reduceBEq, Int.reduceLE, Int.reduceLT, Int.reduceNeg, Nat.reduceAdd, Nat.reduceEqDiff, Nat.reduceLT, Nat.reduceLeDiff, Nat.reduceMul, Nat.reduceSub, reduceCtorEq, ↓reduceIte]; (first | refine gsel_skip ?_ | refine gsel_go ?_ | skip); (first | refine hK _ _ _ ?_ | refine ⟨by first | omega | exact ⟨_, rfl, rfl⟩ | exact fun _ => ⟨_, rfl, rfl⟩ | (intro h; simp only [List.getElem?_map, hx, sPV, h, true_and]; omega) | (clear hK; intro h; simp_all <;> omega), hK _ _ _ ?_⟩); clear hK K) | refine VC.draw mixP (by rfl) (by rfl) ?_ | refine ⟨okd_of (by kernel_rfl), ?_⟩ | refine BQ.other (by decide) ?_ | refine VC.seq ?_ | refine AO.nil ?_ | refine VC.block ?_))
    ((refine AO.step fun K hK => ?_; simp only [go_sem, Int.reduceBEq, Int.reduceLE, Int.reduceLT, Int.reduceNeg, Nat.reduceAdd, Nat.reduceEqDiff, Nat.reduceLT, Nat.reduceLeDiff, Nat.reduceMul, Nat.reduceSub, reduceCtorEq, ↓reduceIte, sPV, hp, hp', pureL_app, pureL_c, List.append_assoc]; (first | refine gsel_go ?_ | skip)); refine .inl ⟨_, hkx, hK _ _ _ ?_⟩; clear hK K)
    refine walkG ?_
    refine VC.cond (by rfl) (by trivial) (fun hpx => ?_) (fun hpx => ?_)
    · have hr := idxP_at hx hpx ht
      refine walkG ?_
      refine ⟨by first | exact .inr rfl | exact .inl rfl, ?_⟩; rw [Tryz.results121]; simp only [resOk, resV, go_sem, Int.reduceBEq, Int.reduceLE, Int.reduceLT, Int.reduceNeg, Nat.reduceAdd, Nat.reduceEqDiff, Nat.reduceLT, Nat.reduceLeDiff, Nat.reduceMul, Nat.reduceSub, reduceCtorEq, ↓reduceIte]
      rw [hr]
      exact .c _
    · refine walkGF (hw) ?_
      refine .next ⟨i + 1, by omega, fun j y hj hy => ?_⟩ ?_ (by simp only []; omega)
      · rcases Nat.lt_or_ge j i with h | h
        · exact ht j y h hy
        · obtain rfl : j = i := by omega
          rw [hx] at hy
          obtain rfl := Option.some.inj hy
          exact hpx
      simp only [sc_pureL hp, sc_pureL hp', Weak, eq_self, used_is, sc_any, sc_c, sc_pp, sc_ref, sc_row, sc_agg, sc_fn, ScL, some_imp, List.forall_mem_map, go_sem, Int.reduceBEq, Int.reduceLE, Int.reduceLT, Int.reduceNeg, Nat.reduceAdd, Nat.reduceEqDiff, Nat.reduceLT, Nat.reduceLeDiff, Nat.reduceMul, Nat.reduceSub, reduceCtorEq, ↓reduceIte]
      exact cI (by omega)
  · simp only [decide_eq_false_iff_not] at hc
    obtain rfl : i = l.length := by omega
    have hr := idxP_none ht
    refine walkG ?_
    refine ⟨by first | exact .inr rfl | exact .inl rfl, ?_⟩; rw [Tryz.results121]; simp only [resOk, resV, go_sem, Int.reduceBEq, Int.reduceLE, Int.reduceLT, Int.reduceNeg, Nat.reduceAdd, Nat.reduceEqDiff, Nat.reduceLT, Nat.reduceLeDiff, Nat.reduceMul, Nat.reduceSub, reduceCtorEq, ↓reduceIte]
    rw [hr]
    exact .c _
set_option maxRecDepth 100000 in
set_option maxHeartbeats 400000 in
theorem cnfS_told {g : FuncId} {fs cs : List AV} (hp : AV.pureL fs = true) (hp' : AV.pureL cs = true) (l : List (List UInt8)) (p : List UInt8 → Bool) (hk : ∀ x ∈ l, Told Tryz.prog g (fs ++ ([.c (.v (.string (str x)))] ++ cs)) (.c (.v (.bool (p x))))) :
    Told Tryz.prog 91 [.c (.sl 1 (l.map sPV)), .fn (.func g) fs cs] (.c (.v (.bool (l.any p)))) := by
  have hi := ixfS_told hp hp' l p hk
  refine VC.told ent_91 Tryz.func91 rfl Tryz.ntmps91 (by simp) (by simp [AV.pureB, AV.pureL, hp, hp']) rfl fun hb => ?_
  clear hb
  refine walkG ?_
  refine walkCF (And.intro hp hp') (hi) ?_
  refine walkG ?_
  refine ⟨by first | exact .inr rfl | exact .inl rfl, ?_⟩; rw [Tryz.results91]; simp only [resOk, resV, go_sem, Int.reduceBEq, Int.reduceLE, Int.reduceLT, Int.reduceNeg, Nat.reduceAdd, Nat.reduceEqDiff, Nat.reduceLT, Nat.reduceLeDiff, Nat.reduceMul, Nat.reduceSub, reduceCtorEq, ↓reduceIte]
  exact frz_c (by rw [idxP_any])

end Go.Proofs.YtmmffaelkoinlaaGreatDoor
