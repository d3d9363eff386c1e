/- The document's Deep, as a contract over plain values. -/
import Derived.Test.YticfioblapjkmaaGreatAt
namespace Go.Proofs.YticfioblapjkmaaGreat
open Go.RowKit
set_option linter.unusedVariables false
set_option linter.unusedSimpArgs false
attribute [local go_sem] opx opE ev okx gcond bnd okO AV.get AV.okb cAV upd_at putd_some putd_none wrs_nil wrs_cons look_nil look_cons st argT_at bpick_and bpick_or bpick_true bpick_false binV binI binS binVOk binOk isShift binSOk unV unVOk loadV loadP cellsA zeroA Blkd.len setE grown moreA moreR moreOk eqRes pv fillA fillE putSeg AV.cellish AV.pureL AV.pureB lentL_is ex_some AV.ren AV.renL renL_c Blkd.ren rho wrM renN lentOk rhoE keepM endOk tyA_2 tyA_3 tyA_4 tyA_5 tyA_6 tyA_7 tyA_8 tyA_9 tyA_10 tyA_11 tyA_12 tyA_13 tyA_14 tyA_15 tyA_16 tyA_17 tyA_18 tyA_19 tyA_21 tyA_22 tyA_23 tyA_24 tyA_25 tyA_28 tyA_29 tyA_38 tyA_39 tyA_40 tyA_41 tyA_42 tyA_43 tyA_49 tyA_50 tyA_51 tyA_52 tyA_53 tyA_57 tyA_62 tyA_76 tyA_87 tyA_88 tyA_89 tyA_100 tyA_101 tyA_102 tyA_106 tyA_119 tyA_128 tyA_130 tyA_132 tyA_137 tyA_141 tyA_146 tyA_149 tyA_150 tyA_151 tyA_152 tyA_153 tyA_154 tyA_155 tyA_157 tyA_158 Option.map_some Option.map_none Option.getD_some Option.getD_none Option.bind_some Option.bind_none List.getElem?_cons_zero List.getElem?_cons_succ List.getElem?_nil List.getElem?_toArray List.length_cons List.length_nil List.length_map List.forall_mem_map List.map_cons List.map_nil List.drop_zero List.drop_succ_cons List.drop_nil List.take_zero List.take_succ_cons List.take_nil List.mem_cons List.not_mem_nil or_false forall_eq_or_imp forall_eq List.set_cons_zero List.set_cons_succ List.cons_append List.nil_append List.append_nil List.foldl_cons List.foldl_nil List.replicate_succ List.replicate_zero List.all_cons List.all_nil if_true if_false Bool.false_eq_true ne_eq not_false_eq_true not_true_eq_false true_and and_true and_self true_implies imp_self implies_true forall_const beq_self_eq_true Bool.and_true Bool.true_and Bool.and_false Bool.false_and Bool.or_true Bool.true_or Bool.or_false Bool.false_or Bool.not_true Bool.not_false Bool.not_eq_eq_eq_not intKindOf Value.oneCell' Int.toNat_natCast beq_true beq_false Bool.not_eq_true false_implies false_or true_or or_true Nat.zero_add Nat.add_zero decide_true decide_false Int.cast_ofNat_Int Int.toNat_zero Int.toNat_one eq_self

set_option maxRecDepth 100000 in
set_option maxHeartbeats 400000 in
theorem rdeep_told : ∀ (m : Nat) (t : JT), SizeOf.sizeOf t ≤ m → tdeep t ≤ 1000 → Told Tryz.prog 17 [t.av] (.c (.v (.int .i64 (tdeep t)))) := by
  intro m
  induction m with
  | zero => intro t ht; cases t; simp at ht
  | succ m ih =>
  intro t ht hd
  cases t with
  | mk k n s ks xs =>
  refine VC.told ent_17 Tryz.func17 rfl Tryz.ntmps17 (by simp) rfl rfl fun hb => ?_
  simp only [JT.av, cells_mk, List.map_cons, List.map_nil, abd_agg, abd_c, pbd_v, pbd_sl, List.mem_cons, List.not_mem_nil, or_false, forall_eq_or_imp, forall_eq, true_and, List.length_map] at hb ⊢
  have hxl := hb.1.1
  clear hb
  refine walkG ?_
  refine VC.cond (by rfl) (by trivial) (fun hc => ?_) (fun hc => ?_)
  · have hk : ¬ (k = 5 ∨ k = 6) := by
      simp at hc
      omega
    have hdd : tdeep (.mk k n s ks xs) = 0 := by simp [tdeep, hk]
    rw [hdd]
    refine walkG ?_
    refine ⟨.inr rfl, ?_⟩
    rw [Tryz.results17]
    simp only [resOk, resV, go_sem, Int.reduceBEq, Int.reduceLE, Int.reduceLT, Int.reduceNeg, Nat.reduceAdd, Nat.reduceEqDiff, Nat.reduceLT, Nat.reduceLeDiff, Nat.reduceMul, Nat.reduceSub, reduceCtorEq, ↓reduceIte]
    exact .c _
  · have hk : k = 5 ∨ k = 6 := by
      simp at hc
      omega
    have hdd : tdeep (.mk k n s ks xs) = tdeeps 1 xs := by simp [tdeep, hk]
    rw [hdd] at hd ⊢
    clear hc
    refine walkG ?_
    refine VC.loop (ι := {i : Nat // i ≤ xs.length}) (fun i => [(1, .ref 0 1 0 0), (3, .c (.v (.int .i64 (tdeeps 1 (xs.take i.1))))), (4, .c (.v (.int .i64 i.1)))])
      (fun _ => [(0, ⟨false, 25, 5, [(JT.mk k n s ks xs).cells.map .c]⟩)]) 8 (fun i => xs.length - i.1) ⟨0, Nat.zero_le _⟩ ?_ ?_
    · simp only [List.take_zero, tdeeps, cells_mk, Weak, eq_self, used_is, sc_any, sc_c, sc_pp, sc_ref, sc_row, sc_agg, sc_fn, ScL, some_imp, List.forall_mem_map, go_sem, Int.reduceBEq, Int.reduceLE, Int.reduceLT, Int.reduceNeg, Nat.reduceAdd, Nat.reduceEqDiff, Nat.reduceLT, Nat.reduceLeDiff, Nat.reduceMul, Nat.reduceSub, reduceCtorEq, ↓reduceIte]
      all_goals rfl
    rintro ⟨i, hi⟩
    refine walkGF (@cells_mk) ?_
    refine VC.cond (by rfl) (by trivial) (fun hc => ?_) (fun hc => ?_)
    · simp only [decide_eq_true_eq] at hc
      have hlt : i < xs.length := by omega
      obtain ⟨x, hx⟩ : ∃ x, xs[i]? = some x := ⟨xs[i], List.getElem?_eq_getElem hlt⟩
      have hxm := List.mem_of_getElem? hx
      have hle := (tdeeps_le xs 1).2 x hxm
      have hcall := ih x (by
        have h1 := List.sizeOf_lt_of_mem hxm
        simp at ht
        omega) (by omega)
      have hmm : tdeeps 1 (xs.take (i + 1)) = max (tdeeps 1 (xs.take i)) (1 + tdeep x) := by
        rw [← tdeeps_snoc, List.take_add_one, hx]
        rfl
      have hw : IntKind.i64.wrap ((tdeep x : Int) + 1) = (tdeep x : Int) + 1 := wrap64_id (by omega) (by omega)
      have hw2 : IntKind.i64.wrap ((i : Int) + 1) = (i : Int) + 1 := wrap64_id (by omega) (by omega)
      (repeat (first | refine pass ?_ | refine VC.region (by rfl) (by rfl) ?_ | (refine AO.step fun K hK => ?_; simp only [cells_mk, List.getElem?_map, hx, len_cells, take_cells, take_cellsC, go_sem, Int.reduceBEq, Int.reduceLE, Int.reduceLT, Int.reduceNeg, Nat.reduceAdd, Nat.reduceEqDiff, Nat.reduceLT, Nat.reduceLeDiff, Nat.reduceMul, Nat.reduceSub, reduceCtorEq, ↓reduceIte]; (first | refine gsel_skip ?_ | refine gsel_go ?_ | skip); (first | refine hK _ _ _ ?_ | refine ⟨by first | omega | exact ⟨_, rfl, rfl⟩ | exact fun _ => ⟨_, rfl, rfl⟩ | (intro h; simp only [cells_mk, List.getElem?_map, hx, len_cells, take_cells, take_cellsC, h, true_and]; omega) | (clear hK; intro h; simp_all), hK _ _ _ ?_⟩); clear hK K) | refine VC.draw mixP (by rfl) (by rfl) ?_ | refine ⟨okd_of (by kernel_rfl), ?_⟩ | refine BQ.other (by decide) ?_ | refine VC.seq ?_ | refine AO.nil ?_ | refine VC.block ?_))
      (refine AO.step fun K hK => ?_; simp only [go_sem, Int.reduceBEq, Int.reduceLE, Int.reduceLT, Int.reduceNeg, Nat.reduceAdd, Nat.reduceEqDiff, Nat.reduceLT, Nat.reduceLeDiff, Nat.reduceMul, Nat.reduceSub, reduceCtorEq, ↓reduceIte, pureL_c]; (first | refine gsel_go ?_ | skip))
      refine .inl ⟨_, hcall, hK _ _ _ ?_⟩
      clear hK K
      refine walkGF (And.intro hw hw2) ?_
      refine VC.cond (by rfl) (by trivial) (fun hc2 => ?_) (fun hc2 => ?_)
      · simp only [decide_eq_true_eq] at hc2
        refine walkGF (hw2) ?_
        refine .next ⟨i + 1, by omega⟩ ?_ (by simp only []; omega)
        simp only [hmm, cells_mk, Weak, eq_self, used_is, sc_any, sc_c, sc_pp, sc_ref, sc_row, sc_agg, sc_fn, ScL, some_imp, List.forall_mem_map, go_sem, Int.reduceBEq, Int.reduceLE, Int.reduceLT, Int.reduceNeg, Nat.reduceAdd, Nat.reduceEqDiff, Nat.reduceLT, Nat.reduceLeDiff, Nat.reduceMul, Nat.reduceSub, reduceCtorEq, ↓reduceIte]
        exact ⟨cI (by omega), cI (by omega)⟩
      · simp only [decide_eq_false_iff_not] at hc2
        refine walkGF (hw2) ?_
        refine .next ⟨i + 1, by omega⟩ ?_ (by simp only []; omega)
        simp only [hmm, cells_mk, Weak, eq_self, used_is, sc_any, sc_c, sc_pp, sc_ref, sc_row, sc_agg, sc_fn, ScL, some_imp, List.forall_mem_map, go_sem, Int.reduceBEq, Int.reduceLE, Int.reduceLT, Int.reduceNeg, Nat.reduceAdd, Nat.reduceEqDiff, Nat.reduceLT, Nat.reduceLeDiff, Nat.reduceMul, Nat.reduceSub, reduceCtorEq, ↓reduceIte]
        exact ⟨cI (by omega), cI (by omega)⟩
    · simp only [decide_eq_false_iff_not] at hc
      obtain rfl : i = xs.length := by omega
      refine walkG ?_
      refine ⟨.inr rfl, ?_⟩
      rw [Tryz.results17]
      simp only [resOk, resV, go_sem, Int.reduceBEq, Int.reduceLE, Int.reduceLT, Int.reduceNeg, Nat.reduceAdd, Nat.reduceEqDiff, Nat.reduceLT, Nat.reduceLeDiff, Nat.reduceMul, Nat.reduceSub, reduceCtorEq, ↓reduceIte]
      rw [List.take_length]
      exact .c _

end Go.Proofs.YticfioblapjkmaaGreat
