/- The reference's Number, as a contract over plain values. -/
import Derived.Test.YticfioblapjkmaaGreatNu
namespace Go.Proofs.YticfioblapjkmaaGreat
open Go.RowKit
set_option linter.unusedVariables false
set_option linter.unusedSimpArgs false
attribute [local go_sem] opx opE ev okx gcond bnd okO AV.get AV.okb cAV upd_at putd_some putd_none wrs_nil wrs_cons look_nil look_cons st argT_at bpick_and bpick_or bpick_true bpick_false binV binI binS binVOk binOk isShift binSOk unV unVOk loadV loadP cellsA zeroA Blkd.len setE grown moreA moreR moreOk eqRes pv fillA fillE putSeg AV.cellish AV.pureL AV.pureB lentL_is ex_some AV.ren AV.renL renL_c Blkd.ren rho wrM renN lentOk rhoE keepM endOk tyA_2 tyA_3 tyA_4 tyA_5 tyA_6 tyA_7 tyA_8 tyA_9 tyA_10 tyA_11 tyA_12 tyA_13 tyA_14 tyA_15 tyA_16 tyA_17 tyA_18 tyA_19 tyA_21 tyA_22 tyA_23 tyA_24 tyA_25 tyA_28 tyA_29 tyA_38 tyA_39 tyA_40 tyA_41 tyA_42 tyA_43 tyA_49 tyA_50 tyA_51 tyA_52 tyA_53 tyA_57 tyA_62 tyA_76 tyA_87 tyA_88 tyA_89 tyA_100 tyA_101 tyA_102 tyA_106 tyA_119 tyA_128 tyA_130 tyA_132 tyA_137 tyA_141 tyA_146 tyA_149 tyA_150 tyA_151 tyA_152 tyA_153 tyA_154 tyA_155 tyA_157 tyA_158 Option.map_some Option.map_none Option.getD_some Option.getD_none Option.bind_some Option.bind_none List.getElem?_cons_zero List.getElem?_cons_succ List.getElem?_nil List.getElem?_toArray List.length_cons List.length_nil List.length_map List.forall_mem_map List.map_cons List.map_nil List.drop_zero List.drop_succ_cons List.drop_nil List.take_zero List.take_succ_cons List.take_nil List.mem_cons List.not_mem_nil or_false forall_eq_or_imp forall_eq List.set_cons_zero List.set_cons_succ List.cons_append List.nil_append List.append_nil List.foldl_cons List.foldl_nil List.replicate_succ List.replicate_zero List.all_cons List.all_nil if_true if_false Bool.false_eq_true ne_eq not_false_eq_true not_true_eq_false true_and and_true and_self true_implies imp_self implies_true forall_const beq_self_eq_true Bool.and_true Bool.true_and Bool.and_false Bool.false_and Bool.or_true Bool.true_or Bool.or_false Bool.false_or Bool.not_true Bool.not_false Bool.not_eq_eq_eq_not intKindOf Value.oneCell' Int.toNat_natCast beq_true beq_false Bool.not_eq_true false_implies false_or true_or or_true Nat.zero_add Nat.add_zero decide_true decide_false Int.cast_ofNat_Int Int.toNat_zero Int.toNat_one eq_self

theorem str_add (l m : List UInt8) : (⟨l.toArray⟩ : ByteArray) ++ ⟨m.toArray⟩ = ⟨(l ++ m).toArray⟩ := by
  apply ByteArray.ext
  simp
theorem bsz' (l : List UInt8) : (⟨l.toArray⟩ : ByteArray).size = l.length := by simp [ByteArray.size]
set_option maxRecDepth 100000 in
set_option maxHeartbeats 800000 in
theorem rnumber_told (n : Int) (h1 : -9223372036854775808 ≤ n) (h2 : n ≤ 9223372036854775807) : Told Tryz.prog 28 [.c (.v (.int .i64 n))] (.c (.v (.string (str (mNumb n))))) := by
  obtain ⟨u, hu⟩ : ∃ u, u = n.natAbs := ⟨_, rfl⟩
  have hm : mNumb n = (if n < 0 then [45] else []) ++ digs u := by rw [hu]; rfl
  obtain ⟨M, hM⟩ : ∃ M, M = mNumb n := ⟨_, rfl⟩
  rw [← hM] at hm ⊢
  have hul : u < 10 ^ 20 := by omega
  have hdl := digs_len 19 u hul
  unfold str
  refine VC.told ent_28 Tryz.func28 rfl Tryz.ntmps28 (by simp) (by first | rfl | simp [AV.pureB, AV.pureL, pureL_c, pures]) (by first | rfl | simp [AV.pureB, AV.pureL, pureL_c, pures]) fun hb => ?_
  clear hb
  refine walkG ?_
  refine VC.meet [(0, .c (.v (.int .i64 n))), (3, .c (.v (.string ⟨([] : List UInt8).toArray⟩))), (4, .c (.v (.int .u64 (u : Int))))] [] 200 ?_ ?_
  · refine VC.cond (by rfl) (by trivial) (fun hc => ?_) (fun hc => ?_)
    · have hn : n < 0 := by simpa using hc
      have hw1 : IntKind.i64.wrap (n + 1) = n + 1 := wrap64_id (by omega) (by omega)
      have hw2 : IntKind.i64.wrap (0 - (n + 1)) = 0 - (n + 1) := wrap64_id (by omega) (by omega)
      have hw3 : IntKind.u64.wrap (IntKind.u64.wrap (0 - (n + 1)) + 1) = (u : Int) := by
        rw [IntKind.wrap_u64, IntKind.wrap_u64]
        omega
      refine walkGF (And.intro hw1 (And.intro hw2 hw3)) ?_
      refine .normal ?_
      simp only [Weak, eq_self, used_is, sc_any, sc_c, sc_pp, sc_ref, sc_row, sc_agg, sc_fn, ScL, some_imp, List.forall_mem_map, go_sem, Int.reduceBEq, Int.reduceLE, Int.reduceLT, Int.reduceNeg, Nat.reduceAdd, Nat.reduceEqDiff, Nat.reduceLT, Nat.reduceLeDiff, Nat.reduceMul, Nat.reduceSub, reduceCtorEq, ↓reduceIte]
    · have hn : ¬ n < 0 := by simpa using hc
      have hw : IntKind.u64.wrap n = (u : Int) := by rw [IntWalk.u64_in _ ⟨by omega, by omega⟩]; omega
      refine walkGF (hw) ?_
      refine .normal ?_
      simp only [hw, Weak, eq_self, used_is, sc_any, sc_c, sc_pp, sc_ref, sc_row, sc_agg, sc_fn, ScL, some_imp, List.forall_mem_map, go_sem, Int.reduceBEq, Int.reduceLE, Int.reduceLT, Int.reduceNeg, Nat.reduceAdd, Nat.reduceEqDiff, Nat.reduceLT, Nat.reduceLeDiff, Nat.reduceMul, Nat.reduceSub, reduceCtorEq, ↓reduceIte]
  refine walkG ?_
  refine VC.loop (ι := {q : Nat × List UInt8 // q.1 ≤ u ∧ digs u = digs q.1 ++ q.2}) (fun q => [(0, .c (.v (.int .i64 n))), (3, .c (.v (.string ⟨q.1.2.toArray⟩))), (4, .c (.v (.int .u64 (q.1.1 : Int))))]) (fun q => []) 208 (fun q => q.1.1) ⟨(u, []), Nat.le_refl _, by simp⟩ ?_ ?_
  · simp only [Weak, eq_self, used_is, sc_any, sc_c, sc_pp, sc_ref, sc_row, sc_agg, sc_fn, ScL, some_imp, List.forall_mem_map, go_sem, Int.reduceBEq, Int.reduceLE, Int.reduceLT, Int.reduceNeg, Nat.reduceAdd, Nat.reduceEqDiff, Nat.reduceLT, Nat.reduceLeDiff, Nat.reduceMul, Nat.reduceSub, reduceCtorEq, ↓reduceIte]
  rintro ⟨⟨v, ds⟩, hv, hd⟩
  simp only [] at hv hd ⊢
  have hdl2 : ds.length ≤ 20 := by rw [hd] at hdl; simp at hdl; omega
  have hdig : IntKind.u8.wrap (IntKind.u64.wrap (48 + ((v : Int).tmod 10))) = ((UInt8.ofNat (48 + v % 10)).toNat : Int) := by
    rw [← numb_digit v]
    rfl
  refine walkG ?_
  refine VC.cond (by rfl) (by trivial) (fun hc => ?_) (fun hc => ?_)
  · have hv9 : ¬ v < 10 := by simp at hc; omega
    have hq : IntKind.u64.wrap ((v : Int).tdiv 10) = ((v / 10 : Nat) : Int) := by rw [IntWalk.u64_quo _ _ ⟨by omega, by omega, by omega⟩]; omega
    obtain ⟨x, hx⟩ : ∃ x, x = UInt8.ofNat (48 + v % 10) := ⟨_, rfl⟩
    rw [← hx] at hdig
    refine walkGF (hdig) ?_
    (refine AO.step fun K hK => ?_; simp only [go_sem, Int.reduceBEq, Int.reduceLE, Int.reduceLT, Int.reduceNeg, Nat.reduceAdd, Nat.reduceEqDiff, Nat.reduceLT, Nat.reduceLeDiff, Nat.reduceMul, Nat.reduceSub, reduceCtorEq, ↓reduceIte]; (first | refine gsel_go ?_ | skip))
    refine ⟨bytePV [x], ⟨rfl, bytePV_ok [x]⟩, hK _ _ _ ?_⟩; clear hK K
    have hs := str_add [x] ds
    have hz1 := bsz' [x]
    have hz2 := bsz' ds
    (repeat (first | refine pass ?_ | refine VC.region (by rfl) (by rfl) ?_ | (refine AO.step fun K hK => ?_; simp only [bytesOf_pv, bstr, hs, hz1, hz2, hq, go_sem, Int.reduceBEq, Int.reduceLE, Int.reduceLT, Int.reduceNeg, Nat.reduceAdd, Nat.reduceEqDiff, Nat.reduceLT, Nat.reduceLeDiff, Nat.reduceMul, Nat.reduceSub, reduceCtorEq, ↓reduceIte]; (first | refine gsel_skip ?_ | refine gsel_go ?_ | skip); (first | refine hK _ _ _ ?_ | refine ⟨by first | omega | exact ⟨_, rfl, rfl⟩ | exact fun _ => ⟨_, rfl, rfl⟩ | (intro h; simp only [bytesOf_pv, bstr, hs, hz1, hz2, hq, h, true_and]; omega) | (clear hK; intro h; simp_all), hK _ _ _ ?_⟩); clear hK K) | refine VC.draw mixP (by rfl) (by rfl) ?_ | refine ⟨okd_of (by kernel_rfl), ?_⟩ | refine BQ.other (by decide) ?_ | refine VC.seq ?_ | refine AO.nil ?_ | refine VC.block ?_))
    refine .next ⟨(v / 10, x :: ds), by simp only []; omega, by simp only []; rw [hd, digs_ge hv9, hx]; simp⟩ ?_ (by simp only []; omega)
    simp only [Weak, eq_self, used_is, sc_any, sc_c, sc_pp, sc_ref, sc_row, sc_agg, sc_fn, ScL, some_imp, List.forall_mem_map, go_sem, Int.reduceBEq, Int.reduceLE, Int.reduceLT, Int.reduceNeg, Nat.reduceAdd, Nat.reduceEqDiff, Nat.reduceLT, Nat.reduceLeDiff, Nat.reduceMul, Nat.reduceSub, reduceCtorEq, ↓reduceIte]
  · have hv9 : v < 10 := by simp at hc; omega
    have hvm : IntKind.u8.wrap (IntKind.u64.wrap (48 + (v : Int))) = ((UInt8.ofNat (48 + v)).toNat : Int) := by
      have := numb_digit v
      rwa [Nat.mod_eq_of_lt hv9] at this
    obtain ⟨x, hx⟩ : ∃ x, x = UInt8.ofNat (48 + v) := ⟨_, rfl⟩
    rw [← hx] at hvm
    have hfin : digs u = x :: ds := by rw [hd, digs_lt hv9, hx]; rfl
    rw [hfin] at hm
    refine walkGF (hvm) ?_
    (refine AO.step fun K hK => ?_; simp only [go_sem, Int.reduceBEq, Int.reduceLE, Int.reduceLT, Int.reduceNeg, Nat.reduceAdd, Nat.reduceEqDiff, Nat.reduceLT, Nat.reduceLeDiff, Nat.reduceMul, Nat.reduceSub, reduceCtorEq, ↓reduceIte]; (first | refine gsel_go ?_ | skip))
    refine ⟨bytePV [x], ⟨rfl, bytePV_ok [x]⟩, hK _ _ _ ?_⟩; clear hK K
    have hs := str_add [x] ds
    have hz1 := bsz' [x]
    have hz2 := bsz' ds
    (repeat (first | refine pass ?_ | refine VC.region (by rfl) (by rfl) ?_ | (refine AO.step fun K hK => ?_; simp only [bytesOf_pv, bstr, hs, hz1, hz2, go_sem, Int.reduceBEq, Int.reduceLE, Int.reduceLT, Int.reduceNeg, Nat.reduceAdd, Nat.reduceEqDiff, Nat.reduceLT, Nat.reduceLeDiff, Nat.reduceMul, Nat.reduceSub, reduceCtorEq, ↓reduceIte]; (first | refine gsel_skip ?_ | refine gsel_go ?_ | skip); (first | refine hK _ _ _ ?_ | refine ⟨by first | omega | exact ⟨_, rfl, rfl⟩ | exact fun _ => ⟨_, rfl, rfl⟩ | (intro h; simp only [bytesOf_pv, bstr, hs, hz1, hz2, h, true_and]; omega) | (clear hK; intro h; simp_all), hK _ _ _ ?_⟩); clear hK K) | refine VC.draw mixP (by rfl) (by rfl) ?_ | refine ⟨okd_of (by kernel_rfl), ?_⟩ | refine BQ.other (by decide) ?_ | refine VC.seq ?_ | refine AO.nil ?_ | refine VC.block ?_))
    refine VC.cond (by rfl) (by trivial) (fun h3 => ?_) (fun h3 => ?_)
    · have hn : n < 0 := by simpa using h3
      rw [if_pos hn] at hm
      have hs2 : (⟨#[45]⟩ : ByteArray) ++ ⟨(x :: ds).toArray⟩ = ⟨(45 :: x :: ds).toArray⟩ := str_add [45] (x :: ds)
      have hz3 : (⟨#[45]⟩ : ByteArray).size = 1 := rfl
      have hz4 := bsz' (x :: ds)
      refine walkGF (And.intro hs2 (And.intro hz3 hz4)) ?_
      refine ⟨by first | exact .inr rfl | exact .inl rfl, ?_⟩; rw [Tryz.results28]; simp only [resOk, resV, go_sem, Int.reduceBEq, Int.reduceLE, Int.reduceLT, Int.reduceNeg, Nat.reduceAdd, Nat.reduceEqDiff, Nat.reduceLT, Nat.reduceLeDiff, Nat.reduceMul, Nat.reduceSub, reduceCtorEq, ↓reduceIte]
      subst hm
      exact .c _
    · have hn : ¬ n < 0 := by simpa using h3
      rw [if_neg hn] at hm
      refine walkG ?_
      refine ⟨by first | exact .inr rfl | exact .inl rfl, ?_⟩; rw [Tryz.results28]; simp only [resOk, resV, go_sem, Int.reduceBEq, Int.reduceLE, Int.reduceLT, Int.reduceNeg, Nat.reduceAdd, Nat.reduceEqDiff, Nat.reduceLT, Nat.reduceLeDiff, Nat.reduceMul, Nat.reduceSub, reduceCtorEq, ↓reduceIte]
      subst hm
      exact .c _

end Go.Proofs.YticfioblapjkmaaGreat
