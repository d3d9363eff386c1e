/- The example of chapter 8, as a contract. -/
import Derived.Test.YticfioblapjkmaaGreatW7
import Derived.Test.YticfioblapjkmaaGreatPp
namespace Go.Proofs.YticfioblapjkmaaGreat
open Go.RowKit
set_option linter.unusedVariables false
set_option linter.unusedSimpArgs false
attribute [local go_sem] opx opE ev okx gcond bnd okO AV.get AV.okb cAV upd_at putd_some putd_none wrs_nil wrs_cons look_nil look_cons st argT_at bpick_and bpick_or bpick_true bpick_false binV binI binS binVOk binOk isShift binSOk unV unVOk loadV loadP cellsA zeroA Blkd.len setE grown moreA moreR moreOk eqRes pv fillA fillE putSeg AV.cellish AV.pureL AV.pureB lentL_is ex_some AV.ren AV.renL renL_c Blkd.ren rho wrM renN lentOk rhoE keepM endOk tyA_2 tyA_3 tyA_4 tyA_5 tyA_6 tyA_7 tyA_8 tyA_9 tyA_10 tyA_11 tyA_12 tyA_13 tyA_14 tyA_15 tyA_16 tyA_17 tyA_18 tyA_19 tyA_21 tyA_22 tyA_23 tyA_24 tyA_25 tyA_28 tyA_29 tyA_38 tyA_39 tyA_40 tyA_41 tyA_42 tyA_43 tyA_49 tyA_50 tyA_51 tyA_52 tyA_53 tyA_57 tyA_62 tyA_76 tyA_87 tyA_88 tyA_89 tyA_100 tyA_101 tyA_102 tyA_106 tyA_119 tyA_128 tyA_130 tyA_132 tyA_137 tyA_141 tyA_146 tyA_149 tyA_150 tyA_151 tyA_152 tyA_153 tyA_154 tyA_155 tyA_157 tyA_158 Option.map_some Option.map_none Option.getD_some Option.getD_none Option.bind_some Option.bind_none List.getElem?_cons_zero List.getElem?_cons_succ List.getElem?_nil List.getElem?_toArray List.length_cons List.length_nil List.length_map List.forall_mem_map List.map_cons List.map_nil List.drop_zero List.drop_succ_cons List.drop_nil List.take_zero List.take_succ_cons List.take_nil List.mem_cons List.not_mem_nil or_false forall_eq_or_imp forall_eq List.set_cons_zero List.set_cons_succ List.cons_append List.nil_append List.append_nil List.foldl_cons List.foldl_nil List.replicate_succ List.replicate_zero List.all_cons List.all_nil if_true if_false Bool.false_eq_true ne_eq not_false_eq_true not_true_eq_false true_and and_true and_self true_implies imp_self implies_true forall_const beq_self_eq_true Bool.and_true Bool.true_and Bool.and_false Bool.false_and Bool.or_true Bool.true_or Bool.or_false Bool.false_or Bool.not_true Bool.not_false Bool.not_eq_eq_eq_not intKindOf Value.oneCell' Int.toNat_natCast beq_true beq_false Bool.not_eq_true false_implies false_or true_or or_true Nat.zero_add Nat.add_zero decide_true decide_false Int.cast_ofNat_Int Int.toNat_zero Int.toNat_one eq_self

theorem pvOk (l : List UInt8) : bytesOk (bytePV l) = True := eq_true (bytePV_ok l)
def w8o : List UInt8 := [123, 34, 97, 34, 58, 91, 49, 44, 116, 114, 117, 101, 93, 125]
theorem w8_sm : w7t.sm 1000000000 := by simp [w7t, JT.sm, JT.smL]
theorem w8_inr : w7t.inr := by simp [w7t, JT.inr, JT.inrL]
theorem w8_num : mNumb (-10) = [45, 49, 48] := by
  unfold mNumb
  rw [show (-10 : Int).natAbs = 10 from rfl, digs_ge (by decide), digs_lt (by decide)]
  rfl
theorem w8_one : mNumb 1 = [49] := by
  unfold mNumb
  rw [show (1 : Int).natAbs = 1 from rfl, digs_lt (by decide)]
  rfl
theorem w8_r : jR w7t = true := by decide +kernel
theorem w8_t : pTree PS0 w7t = ⟨true, w8o, false⟩ := by
  simp [w7t, pTree, pKids, w8_one, pkey, pcomma, PS.put, PS0, mQuote, qByte, w8o]
theorem w8_print : mPrint w7t = (w8o, 0) := by
  unfold mPrint
  rw [if_pos w8_r, w8_t]
  rfl
set_option maxRecDepth 100000 in
set_option maxHeartbeats 800000 in
theorem works08_told : Told Tryz.prog 5 [] (.c (.v (.bool true))) := by
  have hp : Told Tryz.prog 11 [.c (.sl 1 (bytePV w7a))] (.tup [w7t.av, .c (.v (.int .i64 0))]) := by
    have := parse_told w7a (by decide)
    rwa [w7a_parse] at this
  have hq := print_told w7t w8_sm w8_inr
  rw [w8_print] at hq
  have hn := number_told [] (-10) (by simp) (by decide) (by decide)
  rw [w8_num] at hn
  simp only [bB, List.nil_append, List.length_nil, bA_nil] at hn
  have hn : ToldM Tryz.prog _ _ ([] ++ [⟨true, 5, 1, []⟩]) _ _ := hn
  have e1 : w7t.av = .agg [.c (.v (.int .i64 6)), .c (.v (.int .i64 0)), .c (.v (.string (str []))), .c (.sl 5 [JT.cells (.mk 5 0 [] [] [.mk 3 1 [] [] [], .mk 2 1 [] [] []])]), .c (.sl 1 [sPV [97]])] := by simp [w7t, JT.av, cells_mk]
  rw [e1] at hp hq
  refine VC.told ent_5 Tryz.func5 rfl Tryz.ntmps5 (by simp) (by first | rfl | simp [AV.pureB, AV.pureL, pureL_c, pures]) (by first | rfl | simp [AV.pureB, AV.pureL, pureL_c, pures]) fun hb => ?_
  clear hb
  refine walkG ?_
  (refine AO.step fun K hK => ?_; simp only [go_sem, Int.reduceBEq, Int.reduceLE, Int.reduceLT, Int.reduceNeg, Nat.reduceAdd, Nat.reduceEqDiff, Nat.reduceLT, Nat.reduceLeDiff, Nat.reduceMul, Nat.reduceSub, reduceCtorEq, ↓reduceIte]; (first | refine gsel_go ?_ | skip))
  refine ⟨bytePV w7a, by rfl, hK _ _ _ ?_⟩
  clear hK K
  refine walkC (hp) ?_
  refine walkG ?_
  refine walkC (hq) ?_
  have hq1 : ((⟨w8o.toArray⟩ : ByteArray).toList == (⟨#[123, 34, 97, 34, 58, 91, 49, 44, 116, 114, 117, 101, 93, 125]⟩ : ByteArray).toList) = true := by
    show ((str w8o).toList == (str w8o).toList) = true
    simp
  have hq2 : ((⟨([45, 49, 48] : List UInt8).toArray⟩ : ByteArray).toList == (⟨#[45, 49, 48]⟩ : ByteArray).toList) = true := by
    show ((str [45, 49, 48]).toList == (str [45, 49, 48]).toList) = true
    simp
  (repeat (first | refine pass ?_ | refine VC.region (by rfl) (by rfl) ?_ | (refine AO.step fun K hK => ?_; simp only [bytesOf_pv, pvOk, bstr, hq1, go_sem, Int.reduceBEq, Int.reduceLE, Int.reduceLT, Int.reduceNeg, Nat.reduceAdd, Nat.reduceEqDiff, Nat.reduceLT, Nat.reduceLeDiff, Nat.reduceMul, Nat.reduceSub, reduceCtorEq, ↓reduceIte]; (first | refine gsel_skip ?_ | refine gsel_go ?_ | skip); (first | refine hK _ _ _ ?_ | refine ⟨by first | omega | exact ⟨_, rfl, rfl⟩ | exact fun _ => ⟨_, rfl, rfl⟩ | (intro h; simp only [bytesOf_pv, pvOk, bstr, hq1, h, true_and]; omega) | (clear hK; intro h; simp_all), hK _ _ _ ?_⟩); clear hK K) | refine VC.draw mixP (by rfl) (by rfl) ?_ | refine ⟨okd_of (by kernel_rfl), ?_⟩ | refine BQ.other (by decide) ?_ | refine VC.seq ?_ | refine AO.nil ?_ | refine VC.block ?_))
  ((refine AO.step fun K hK => ?_; simp only [go_sem, Int.reduceBEq, Int.reduceLE, Int.reduceLT, Int.reduceNeg, Nat.reduceAdd, Nat.reduceEqDiff, Nat.reduceLT, Nat.reduceLeDiff, Nat.reduceMul, Nat.reduceSub, reduceCtorEq, ↓reduceIte, hq1, bA_nil, bA_ren]; (first | refine gsel_go ?_ | skip)); (first | refine .inr (.inr (.inr ⟨?vy1, [], ?vt1, ?vz1, ?va1, ?vl1, ?vm1, ?cond1, ?cont1⟩)) | refine .inr (.inr (.inr (.inl ⟨?vy1, [], ?vt1, ?vz1, ?va1, ?vl1, ?vm1, ?cond1, ?cont1⟩)))); (case cond1 => ((repeat' apply And.intro) <;> (try ((with_reducible show ToldM _ _ _ _ _ _); exact hn))); (all_goals first | trivial | (simp only [hq1, bA_nil, bA_ren, go_sem, Int.reduceBEq, Int.reduceLE, Int.reduceLT, Int.reduceNeg, Nat.reduceAdd, Nat.reduceEqDiff, Nat.reduceLT, Nat.reduceLeDiff, Nat.reduceMul, Nat.reduceSub, reduceCtorEq, ↓reduceIte]; done) | (simp; done) | rfl)); (first | refine hK _ _ _ ?_ | (simp only [hq1, bA_nil, bA_ren, go_sem, Int.reduceBEq, Int.reduceLE, Int.reduceLT, Int.reduceNeg, Nat.reduceAdd, Nat.reduceEqDiff, Nat.reduceLT, Nat.reduceLeDiff, Nat.reduceMul, Nat.reduceSub, reduceCtorEq, ↓reduceIte]; first | refine hK _ _ _ ?_ | refine ⟨rfl, hK _ _ _ ?_⟩)); clear hK K)
  refine walkGF (And.intro @bA_len @bA_ren) ?_
  (refine AO.step fun K hK => ?_; simp only [go_sem, Int.reduceBEq, Int.reduceLE, Int.reduceLT, Int.reduceNeg, Nat.reduceAdd, Nat.reduceEqDiff, Nat.reduceLT, Nat.reduceLeDiff, Nat.reduceMul, Nat.reduceSub, reduceCtorEq, ↓reduceIte, bA_len, bA_ren]; (first | refine gsel_go ?_ | skip))
  refine ⟨bytePV [45, 49, 48], ⟨bA_pv _, bytePV_ok _⟩, hK _ _ _ ?_⟩; clear hK K
  (repeat (first | refine pass ?_ | refine VC.region (by rfl) (by rfl) ?_ | (refine AO.step fun K hK => ?_; simp only [bytesOf_pv, bstr, hq2, go_sem, Int.reduceBEq, Int.reduceLE, Int.reduceLT, Int.reduceNeg, Nat.reduceAdd, Nat.reduceEqDiff, Nat.reduceLT, Nat.reduceLeDiff, Nat.reduceMul, Nat.reduceSub, reduceCtorEq, ↓reduceIte]; (first | refine gsel_skip ?_ | refine gsel_go ?_ | skip); (first | refine hK _ _ _ ?_ | refine ⟨by first | omega | exact ⟨_, rfl, rfl⟩ | exact fun _ => ⟨_, rfl, rfl⟩ | (intro h; simp only [bytesOf_pv, bstr, hq2, h, true_and]; omega) | (clear hK; intro h; simp_all), hK _ _ _ ?_⟩); clear hK K) | refine VC.draw mixP (by rfl) (by rfl) ?_ | refine ⟨okd_of (by kernel_rfl), ?_⟩ | refine BQ.other (by decide) ?_ | refine VC.seq ?_ | refine AO.nil ?_ | refine VC.block ?_))
  refine ⟨by first | exact .inr rfl | exact .inl rfl, ?_⟩; rw [Tryz.results5]; simp only [resOk, resV, go_sem, Int.reduceBEq, Int.reduceLE, Int.reduceLT, Int.reduceNeg, Nat.reduceAdd, Nat.reduceEqDiff, Nat.reduceLT, Nat.reduceLeDiff, Nat.reduceMul, Nat.reduceSub, reduceCtorEq, ↓reduceIte]
  exact .c _

end Go.Proofs.YticfioblapjkmaaGreat
