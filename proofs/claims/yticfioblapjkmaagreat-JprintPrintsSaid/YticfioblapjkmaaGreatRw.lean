/- The document's Right and Print, and the law JprintPrints, as contracts. -/
import Derived.Test.YticfioblapjkmaaGreatRs
import Derived.Test.YticfioblapjkmaaGreatRt
import Derived.Test.YticfioblapjkmaaGreatRd
import Derived.Test.YticfioblapjkmaaGreatPx
import Derived.Test.YticfioblapjkmaaGreatBm
import Derived.Test.YticfioblapjkmaaGreatWk
namespace Go.Proofs.YticfioblapjkmaaGreat
open Go.RowKit
set_option linter.unusedVariables false
set_option linter.unusedSimpArgs false
attribute [local go_sem] opx opE ev okx gcond bnd okO AV.get AV.okb cAV upd_at putd_some putd_none wrs_nil wrs_cons look_nil look_cons st argT_at bpick_and bpick_or bpick_true bpick_false binV binI binS binVOk binOk isShift binSOk unV unVOk loadV loadP cellsA zeroA Blkd.len setE grown moreA moreR moreOk eqRes pv fillA fillE putSeg AV.cellish AV.pureL AV.pureB lentL_is ex_some AV.ren AV.renL renL_c Blkd.ren rho wrM renN lentOk rhoE keepM endOk tyA_2 tyA_3 tyA_4 tyA_5 tyA_6 tyA_7 tyA_8 tyA_9 tyA_10 tyA_11 tyA_12 tyA_13 tyA_14 tyA_15 tyA_16 tyA_17 tyA_18 tyA_19 tyA_21 tyA_22 tyA_23 tyA_24 tyA_25 tyA_28 tyA_29 tyA_38 tyA_39 tyA_40 tyA_41 tyA_42 tyA_43 tyA_49 tyA_50 tyA_51 tyA_52 tyA_53 tyA_57 tyA_62 tyA_76 tyA_87 tyA_88 tyA_89 tyA_100 tyA_101 tyA_102 tyA_106 tyA_119 tyA_128 tyA_130 tyA_132 tyA_137 tyA_141 tyA_146 tyA_149 tyA_150 tyA_151 tyA_152 tyA_153 tyA_154 tyA_155 tyA_157 tyA_158 Option.map_some Option.map_none Option.getD_some Option.getD_none Option.bind_some Option.bind_none List.getElem?_cons_zero List.getElem?_cons_succ List.getElem?_nil List.getElem?_toArray List.length_cons List.length_nil List.length_map List.forall_mem_map List.map_cons List.map_nil List.drop_zero List.drop_succ_cons List.drop_nil List.take_zero List.take_succ_cons List.take_nil List.mem_cons List.not_mem_nil or_false forall_eq_or_imp forall_eq List.set_cons_zero List.set_cons_succ List.cons_append List.nil_append List.append_nil List.foldl_cons List.foldl_nil List.replicate_succ List.replicate_zero List.all_cons List.all_nil if_true if_false Bool.false_eq_true ne_eq not_false_eq_true not_true_eq_false true_and and_true and_self true_implies imp_self implies_true forall_const beq_self_eq_true Bool.and_true Bool.true_and Bool.and_false Bool.false_and Bool.or_true Bool.true_or Bool.or_false Bool.false_or Bool.not_true Bool.not_false Bool.not_eq_eq_eq_not intKindOf Value.oneCell' Int.toNat_natCast beq_true beq_false Bool.not_eq_true false_implies false_or true_or or_true Nat.zero_add Nat.add_zero decide_true decide_false Int.cast_ofNat_Int Int.toNat_zero Int.toNat_one eq_self

set_option maxRecDepth 100000 in
set_option maxHeartbeats 800000 in
theorem rright_told (t : JT) (h1 : t.sm 1000000) (h2 : tdeep t ≤ 1000) : Told Tryz.prog 9 [t.av] (.c (.v (.bool (jR t)))) := by
  have hS := rshape_told _ t (Nat.le_refl _) h1
  have hD := rdeep_told _ t (Nat.le_refl _) h2
  have hV : jR t = (decide ((tdeep t : Int) ≤ 32) && rshape t) := by
    rw [jR_shape]
    congr 1
    by_cases h : tdeep t ≤ 32
    · simp [h]; omega
    · simp [h]; omega
  obtain ⟨V, hVV⟩ : ∃ V, V = jR t := ⟨_, rfl⟩
  rw [← hVV] at hV ⊢
  refine VC.told ent_9 Tryz.func9 rfl Tryz.ntmps9 (by simp) (by simp [AV.pureB, AV.pureL, JT.av, pureL_c]) rfl fun hb => ?_
  clear hb
  refine walkGF (And.intro @JT.av_eq (And.intro @len_cells (And.intro @take_cells @take_cellsC))) ?_
  refine walkCF (And.intro @JT.av_eq (And.intro @len_cells (And.intro @take_cells (And.intro @take_cellsC @pureL_c)))) (hD) ?_
  refine walkGF (And.intro @JT.av_eq (And.intro @len_cells (And.intro @take_cells @take_cellsC))) ?_
  refine walkDF (And.intro @JT.av_eq (And.intro @len_cells (And.intro @take_cells (And.intro @take_cellsC @pureL_c)))) (hS) ?_
  refine walkG ?_
  refine ⟨by first | exact .inr rfl | exact .inl rfl, ?_⟩; rw [Tryz.results9]; simp only [resOk, resV, go_sem, Int.reduceBEq, Int.reduceLE, Int.reduceLT, Int.reduceNeg, Nat.reduceAdd, Nat.reduceEqDiff, Nat.reduceLT, Nat.reduceLeDiff, Nat.reduceMul, Nat.reduceSub, reduceCtorEq, ↓reduceIte]
  rw [hV]
  exact .c _

set_option maxRecDepth 100000 in
set_option maxHeartbeats 800000 in
theorem rprint_told (t : JT) (h1 : t.sm 1000000) (h2 : tdeep t ≤ 1000) (hi : t.inr) (hl : (tText t).length ≤ 1000000) : Told Tryz.prog 7 [t.av] (.tup [.c (.v (.string (str (mPrint t).1))), .c (.v (.int .i64 (mPrint t).2))]) := by
  have hR := rright_told t h1 h2
  have hT := fun (h : jR t = true) => rtxt_told _ t (Nat.le_refl _) (sm_le (by omega) t h1) hi 0 (by rw [← h]; rfl) hl
  have hM := print_text t
  obtain ⟨M, hMM⟩ : ∃ M, M = mPrint t := ⟨_, rfl⟩
  rw [← hMM] at hM ⊢
  refine VC.told ent_7 Tryz.func7 rfl Tryz.ntmps7 (by simp) (by simp [AV.pureB, AV.pureL, JT.av, pureL_c]) (by simp [AV.pureB, AV.pureL]) fun hb => ?_
  clear hb
  refine walkGF (And.intro @JT.av_eq (And.intro @len_cells (And.intro @take_cells @take_cellsC))) ?_
  refine walkCF (And.intro @JT.av_eq (And.intro @len_cells (And.intro @take_cells (And.intro @take_cellsC @pureL_c)))) (hR) ?_
  refine walkGF (And.intro @JT.av_eq (And.intro @len_cells (And.intro @take_cells @take_cellsC))) ?_
  refine VC.cond (by rfl) (by trivial) (fun hc => ?_) (fun hc => ?_)
  · have hr : jR t = false := by simpa using hc
    rw [hr] at hM
    rw [hM]
    refine walkG ?_
    refine ⟨by first | exact .inr rfl | exact .inl rfl, ?_⟩; rw [Tryz.results7]; simp only [resOk, resV, go_sem, Int.reduceBEq, Int.reduceLE, Int.reduceLT, Int.reduceNeg, Nat.reduceAdd, Nat.reduceEqDiff, Nat.reduceLT, Nat.reduceLeDiff, Nat.reduceMul, Nat.reduceSub, reduceCtorEq, ↓reduceIte]
    exact ⟨.c _, .c _⟩
  have hr : jR t = true := by simpa using hc
  have hT := hT hr
  rw [if_pos hr] at hM
  have hz : (str (tText t)).size = (tText t).length := str_size _
  refine walkGF (And.intro @JT.av_eq (And.intro @len_cells (And.intro @take_cells @take_cellsC))) ?_
  refine walkCF (And.intro @JT.av_eq (And.intro @len_cells (And.intro @take_cells (And.intro @take_cellsC @pureL_c)))) (hT) ?_
  refine walkGF (hz) ?_
  refine VC.cond (by rfl) (by trivial) (fun hc2 => ?_) (fun hc2 => ?_)
  · rw [if_neg (by simp at hc2; omega)] at hM
    rw [hM]
    refine walkG ?_
    refine ⟨by first | exact .inr rfl | exact .inl rfl, ?_⟩; rw [Tryz.results7]; simp only [resOk, resV, go_sem, Int.reduceBEq, Int.reduceLE, Int.reduceLT, Int.reduceNeg, Nat.reduceAdd, Nat.reduceEqDiff, Nat.reduceLT, Nat.reduceLeDiff, Nat.reduceMul, Nat.reduceSub, reduceCtorEq, ↓reduceIte]
    exact ⟨.c _, .c _⟩
  · rw [if_pos (by simp at hc2; omega)] at hM
    rw [hM]
    refine walkG ?_
    refine ⟨by first | exact .inr rfl | exact .inl rfl, ?_⟩; rw [Tryz.results7]; simp only [resOk, resV, go_sem, Int.reduceBEq, Int.reduceLE, Int.reduceLT, Int.reduceNeg, Nat.reduceAdd, Nat.reduceEqDiff, Nat.reduceLT, Nat.reduceLeDiff, Nat.reduceMul, Nat.reduceSub, reduceCtorEq, ↓reduceIte]
    exact ⟨.c _, .c _⟩

set_option maxRecDepth 100000 in
set_option maxHeartbeats 800000 in
theorem prints_told (t : JT) (hi : t.inr) : Told Tryz.prog 3 [t.av] (.c (.v (.bool true))) := by
  have hG := great_told t
  refine VC.told ent_3 Tryz.func3 rfl Tryz.ntmps3 (by simp) (by simp [AV.pureB, AV.pureL, JT.av, pureL_c]) (by simp [AV.pureB, AV.pureL]) fun hb => ?_
  clear hb
  refine walkGF (And.intro @JT.av_eq (And.intro @len_cells (And.intro @take_cells @take_cellsC))) ?_
  refine walkCF (And.intro @JT.av_eq (And.intro @len_cells (And.intro @take_cells (And.intro @take_cellsC @pureL_c)))) (hG) ?_
  refine walkGF (And.intro @JT.av_eq (And.intro @len_cells (And.intro @take_cells @take_cellsC))) ?_
  refine VC.cond (by rfl) (by trivial) (fun hg => ?_) (fun hg => ?_)
  · refine walkG ?_
    refine walkC (works08_told) ?_
    refine walkG ?_
    refine ⟨by first | exact .inr rfl | exact .inl rfl, ?_⟩; rw [Tryz.results3]; simp only [resOk, resV, go_sem, Int.reduceBEq, Int.reduceLE, Int.reduceLT, Int.reduceNeg, Nat.reduceAdd, Nat.reduceEqDiff, Nat.reduceLT, Nat.reduceLeDiff, Nat.reduceMul, Nat.reduceSub, reduceCtorEq, ↓reduceIte]
    exact .c _
  have hbk : tbulk 0 t ≤ 2000 := by simp at hg; omega
  have hsm := sm_le (show (2000 : Nat) ≤ 1000000 by omega) t (bulk_sm 0 t hbk)
  have hP := print_told t (sm_le (by omega) t hsm) hi
  have hR := jRight_told t (sm_le (by omega) t hsm)
  have hd := tbulk_deep 0 t hbk
  have hl := text_short 0 t hi hbk
  have hRP := rprint_told t hsm (by omega) hi (by omega)
  have hRR := rright_told t hsm (by omega)
  obtain ⟨M, hM⟩ : ∃ M, M = mPrint t := ⟨_, rfl⟩
  rw [← hM] at hP hRP
  obtain ⟨D, hD⟩ : ∃ D, D = jR t := ⟨_, rfl⟩
  rw [← hD] at hR hRR
  clear hM hD
  obtain ⟨S, E⟩ := M
  simp only [] at hP hRP
  have hE : (E == E) = true := by simp
  have hDD : (D == D) = true := by simp
  have hSS : (S == S) = true := by simp
  have hS2 : (⟨S.toArray⟩ : ByteArray).toList = S := str_toList S
  refine walkGF (And.intro @JT.av_eq (And.intro @len_cells (And.intro @take_cells @take_cellsC))) ?_
  refine walkCF (And.intro @JT.av_eq (And.intro @len_cells (And.intro @take_cells (And.intro @take_cellsC @pureL_c)))) (hP) ?_
  refine walkGF (And.intro @JT.av_eq (And.intro @len_cells (And.intro @take_cells @take_cellsC))) ?_
  refine walkCF (And.intro @JT.av_eq (And.intro @len_cells (And.intro @take_cells (And.intro @take_cellsC @pureL_c)))) (hRP) ?_
  (repeat (first | refine pass ?_ | refine VC.region (by rfl) (by rfl) ?_ | (refine AO.step fun K hK => ?_; simp only [JT.av, len_cells, take_cells, take_cellsC, bytesOf_pv, pvOk, bstr, str, hS2, hE, hSS, go_sem, Int.reduceBEq, Int.reduceLE, Int.reduceLT, Int.reduceNeg, Nat.reduceAdd, Nat.reduceEqDiff, Nat.reduceLT, Nat.reduceLeDiff, Nat.reduceMul, Nat.reduceSub, reduceCtorEq, ↓reduceIte]; (first | refine gsel_skip ?_ | refine gsel_go ?_ | skip); (first | refine hK _ _ _ ?_ | refine ⟨by first | omega | exact ⟨_, rfl, rfl⟩ | exact fun _ => ⟨_, rfl, rfl⟩ | (intro h; simp only [JT.av, len_cells, take_cells, take_cellsC, bytesOf_pv, pvOk, bstr, str, hS2, hE, hSS, h, true_and]; omega) | (clear hK; intro h; simp_all), hK _ _ _ ?_⟩); clear hK K) | refine VC.draw mixP (by rfl) (by rfl) ?_ | refine ⟨okd_of (by kernel_rfl), ?_⟩ | refine BQ.other (by decide) ?_ | refine VC.seq ?_ | refine AO.nil ?_ | refine VC.block ?_))
  refine walkCF (And.intro @JT.av_eq (And.intro @len_cells (And.intro @take_cells (And.intro @take_cellsC @pureL_c)))) (hR) ?_
  refine walkGF (And.intro @JT.av_eq (And.intro @len_cells (And.intro @take_cells @take_cellsC))) ?_
  refine walkCF (And.intro @JT.av_eq (And.intro @len_cells (And.intro @take_cells (And.intro @take_cellsC @pureL_c)))) (hRR) ?_
  refine walkGF (hDD) ?_
  refine walkC (works08_told) ?_
  refine walkG ?_
  refine ⟨by first | exact .inr rfl | exact .inl rfl, ?_⟩; rw [Tryz.results3]; simp only [resOk, resV, go_sem, Int.reduceBEq, Int.reduceLE, Int.reduceLT, Int.reduceNeg, Nat.reduceAdd, Nat.reduceEqDiff, Nat.reduceLT, Nat.reduceLeDiff, Nat.reduceMul, Nat.reduceSub, reduceCtorEq, ↓reduceIte]
  exact .c _

end Go.Proofs.YticfioblapjkmaaGreat
