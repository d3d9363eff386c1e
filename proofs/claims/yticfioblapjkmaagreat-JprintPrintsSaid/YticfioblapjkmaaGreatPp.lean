/- jprint.Print, as a contract over plain values (written by gen_pr.py). -/
import Derived.Test.YticfioblapjkmaaGreatPt
import Derived.Test.YticfioblapjkmaaGreatAd
namespace Go.Proofs.YticfioblapjkmaaGreat
open Go.RowKit
set_option linter.unusedVariables false
set_option linter.unusedSimpArgs false
attribute [local go_sem] opx opE ev okx gcond bnd okO AV.get AV.okb cAV upd_at putd_some putd_none wrs_nil wrs_cons look_nil look_cons st argT_at bpick_and bpick_or bpick_true bpick_false binV binI binS binVOk binOk isShift binSOk unV unVOk loadV loadP cellsA zeroA Blkd.len setE grown moreA moreR moreOk eqRes pv fillA fillE putSeg AV.cellish AV.pureL AV.pureB lentL_is ex_some AV.ren AV.renL renL_c Blkd.ren rho wrM renN lentOk rhoE keepM endOk tyA_2 tyA_3 tyA_4 tyA_5 tyA_6 tyA_7 tyA_8 tyA_9 tyA_10 tyA_11 tyA_12 tyA_13 tyA_14 tyA_15 tyA_16 tyA_17 tyA_18 tyA_19 tyA_21 tyA_22 tyA_23 tyA_24 tyA_25 tyA_28 tyA_29 tyA_38 tyA_39 tyA_40 tyA_41 tyA_42 tyA_43 tyA_49 tyA_50 tyA_51 tyA_52 tyA_53 tyA_57 tyA_62 tyA_76 tyA_87 tyA_88 tyA_89 tyA_100 tyA_101 tyA_102 tyA_106 tyA_119 tyA_128 tyA_130 tyA_132 tyA_137 tyA_141 tyA_146 tyA_149 tyA_150 tyA_151 tyA_152 tyA_153 tyA_154 tyA_155 tyA_157 tyA_158 Option.map_some Option.map_none Option.getD_some Option.getD_none Option.bind_some Option.bind_none List.getElem?_cons_zero List.getElem?_cons_succ List.getElem?_nil List.getElem?_toArray List.length_cons List.length_nil List.length_map List.forall_mem_map List.map_cons List.map_nil List.drop_zero List.drop_succ_cons List.drop_nil List.take_zero List.take_succ_cons List.take_nil List.mem_cons List.not_mem_nil or_false forall_eq_or_imp forall_eq List.set_cons_zero List.set_cons_succ List.cons_append List.nil_append List.append_nil List.foldl_cons List.foldl_nil List.replicate_succ List.replicate_zero List.all_cons List.all_nil if_true if_false Bool.false_eq_true ne_eq not_false_eq_true not_true_eq_false true_and and_true and_self true_implies imp_self implies_true forall_const beq_self_eq_true Bool.and_true Bool.true_and Bool.and_false Bool.false_and Bool.or_true Bool.true_or Bool.or_false Bool.false_or Bool.not_true Bool.not_false Bool.not_eq_eq_eq_not intKindOf Value.oneCell' Int.toNat_natCast beq_true beq_false Bool.not_eq_true false_implies false_or true_or or_true Nat.zero_add Nat.add_zero decide_true decide_false Int.cast_ofNat_Int Int.toNat_zero Int.toNat_one eq_self

def PS0 : PS := ⟨false, [], false⟩
/-- What Print tells: the text, or none, and the errno. -/
def mPrint (t : JT) : List UInt8 × Int := if jR t = true then (if (pTree PS0 t).ov = true then ([], 3) else ((pTree PS0 t).out, 0)) else ([], 2)
theorem put_out {p : PS} (s : List UInt8) (hs : s ≠ []) (h : p.ov = true ∨ p.out ≠ []) : (p.put s).ov = true ∨ (p.put s).out ≠ [] := by
  unfold PS.put
  split
  · exact .inl rfl
  · refine .inr ?_
    simp [hs]
theorem put_out1 (p : PS) (s : List UInt8) (hs : s ≠ []) : (p.put s).ov = true ∨ (p.put s).out ≠ [] := by
  unfold PS.put
  split
  · exact .inl rfl
  · refine .inr ?_
    simp [hs]
theorem pTree_out (p : PS) (t : JT) : (pTree p t).ov = true ∨ (pTree p t).out ≠ [] := by
  cases t with
  | mk k n s ks xs =>
  rw [pTree]
  have hnn : mNumb n ≠ [] := by
    unfold mNumb
    rw [digs]
    split <;> split <;> simp
  have hqq : mQuote s ≠ [] := by unfold mQuote; simp
  repeat' split
  all_goals exact put_out1 _ _ (by first | exact hnn | exact hqq | simp)
def prX (a : Nat) (u : Bool) : AV := if u = true then .ref a 1 0 0 else .c (.v (.pointer none))
theorem prA_rho (u : Bool) (a : Nat) (l : List Nat) (n : Nat) : (prA u).ren (rho (a :: l) n) = prX a u := by cases u <;> rfl
theorem prX_ce (a : Nat) (u : Bool) : (prX a u).cellish = true := by cases u <;> rfl
set_option maxRecDepth 100000 in
set_option maxHeartbeats 1600000 in
theorem print_told (t : JT) (ht : t.sm 1000000000) (hi : t.inr) : Told Tryz.prog 6 [t.av] (.tup [.c (.sl 1 (bytePV (mPrint t).1)), .c (.v (.int .i64 (mPrint t).2))]) := by
  have hR := jRight_told t (sm_le (by omega) t ht)
  have hT := fun (h : jR t = true) => tree_told _ t (Nat.le_refl _) ht hi 0 h PS0 (by unfold PS.ok PS0; simp)
  have hok := pTree_ok (p := PS0) (by unfold PS.ok PS0; simp) t
  have hout := pTree_out PS0 t
  obtain ⟨M, hM⟩ : ∃ M, M = mPrint t := ⟨_, rfl⟩
  rw [← hM]
  unfold mPrint at hM
  generalize pTree PS0 t = F at hT hok hM hout
  have hS := fun (h : F.out ≠ []) => bstring_told F.u F.out F.ov h
  have hp0 : prA false = .c (.v (.pointer none)) := rfl
  simp only [PS0, List.length_nil, prB, bB, bA_nil, hp0, JT.av] at hT hS
  refine VC.told ent_6 Tryz.func6 rfl Tryz.ntmps6 (by simp) (by simp [AV.pureB, AV.pureL, JT.av, pureL_c]) (by simp [AV.pureB, AV.pureL]) fun hb => ?_
  clear hb
  refine walkGF (And.intro @JT.av_eq (And.intro @len_cells (And.intro @take_cells @take_cellsC))) ?_
  refine walkCF (And.intro @JT.av_eq (And.intro @len_cells (And.intro @take_cells (And.intro @take_cellsC @pureL_c)))) (hR) ?_
  refine walkG ?_
  refine VC.cond (by rfl) (by trivial) (fun hc => ?_) (fun hc => ?_)
  · have hr : ¬ jR t = true := by simpa using hc
    rw [if_neg hr] at hM
    subst hM
    refine walkG ?_
    refine ⟨by first | exact .inr rfl | exact .inl rfl, ?_⟩; rw [Tryz.results6]; simp only [resOk, resV, go_sem, Int.reduceBEq, Int.reduceLE, Int.reduceLT, Int.reduceNeg, Nat.reduceAdd, Nat.reduceEqDiff, Nat.reduceLT, Nat.reduceLeDiff, Nat.reduceMul, Nat.reduceSub, reduceCtorEq, ↓reduceIte]
    exact ⟨.nil _, .c _⟩
  · have hr : jR t = true := by simpa using hc
    rw [if_pos hr] at hM
    replace hT := hT hr
    refine VC.skip ?_; refine SQ.normal ?_
    (refine VC.seq ?_; (first | refine VC.region (by rfl) (by rfl) ?_ | refine VC.draw mixP (by rfl) (by rfl) ?_); (repeat (refine AO.step fun K hK => ?_; simp only [go_sem, Int.reduceBEq, Int.reduceLE, Int.reduceLT, Int.reduceNeg, Nat.reduceAdd, Nat.reduceEqDiff, Nat.reduceLT, Nat.reduceLeDiff, Nat.reduceMul, Nat.reduceSub, reduceCtorEq, ↓reduceIte]; (first | refine gsel_skip ?_ | refine gsel_go ?_ | skip); (first | refine hK _ _ _ ?_ | refine ⟨by first | omega | exact ⟨_, rfl, rfl⟩ | exact fun _ => ⟨_, rfl, rfl⟩ | (intro h; simp only [h, true_and]; omega) | (clear hK; intro h; simp_all), hK _ _ _ ?_⟩); clear hK K)); refine AO.nil ?_; first | refine SQ.normal ?_ | refine ⟨okd_of (by kernel_rfl), SQ.normal ?_⟩)
    refine VC.nilH 56 1 5 1 ⟨false, 43, 3, [[.c (.v (.pointer none)), .c (.v (.slice none 0 0)), .c (.v (.bool false))]]⟩ [.c (.v (.pointer none)), .c (.v (.slice none 0 0)), .c (.v (.bool false))] rfl rfl rfl rfl (by rfl) ?_
    refine walkGF (And.intro @JT.av_eq (And.intro @len_cells (And.intro @take_cells (And.intro @take_cellsC @prA_rho)))) ?_
    ((refine AO.step fun K hK => ?_; simp only [go_sem, Int.reduceBEq, Int.reduceLE, Int.reduceLT, Int.reduceNeg, Nat.reduceAdd, Nat.reduceEqDiff, Nat.reduceLT, Nat.reduceLeDiff, Nat.reduceMul, Nat.reduceSub, reduceCtorEq, ↓reduceIte, JT.av, len_cells, take_cells, take_cellsC, bA_ren, prA_rho]; (first | refine gsel_go ?_ | skip)); refine .inr (.inr (.inl ⟨?vy1, [56, 72], ?va1, ?vl1, ?vm1, ?cond1, ?cont1⟩)); (case cond1 => ((repeat' apply And.intro) <;> (try ((with_reducible show ToldM _ _ _ _ _ _); exact hT))); (all_goals first | trivial | (simp only [JT.av, len_cells, take_cells, take_cellsC, bA_ren, prA_rho, go_sem, Int.reduceBEq, Int.reduceLE, Int.reduceLT, Int.reduceNeg, Nat.reduceAdd, Nat.reduceEqDiff, Nat.reduceLT, Nat.reduceLeDiff, Nat.reduceMul, Nat.reduceSub, reduceCtorEq, ↓reduceIte]; done) | (simp; done) | rfl)); (first | refine hK _ _ _ ?_ | (simp only [JT.av, len_cells, take_cells, take_cellsC, bA_ren, prA_rho, go_sem, Int.reduceBEq, Int.reduceLE, Int.reduceLT, Int.reduceNeg, Nat.reduceAdd, Nat.reduceEqDiff, Nat.reduceLT, Nat.reduceLeDiff, Nat.reduceMul, Nat.reduceSub, reduceCtorEq, ↓reduceIte]; first | refine hK _ _ _ ?_ | refine ⟨rfl, hK _ _ _ ?_⟩)); clear hK K)
    refine walkGF (And.intro @bA_ren (And.intro @prA_rho (And.intro @prX_ce @bA_len))) ?_
    refine VC.cond (by rfl) (by trivial) (fun ho => ?_) (fun ho => ?_)
    · rw [if_pos ho] at hM
      subst hM
      refine walkG ?_
      refine ⟨by first | exact .inr rfl | exact .inl rfl, ?_⟩; rw [Tryz.results6]; simp only [resOk, resV, go_sem, Int.reduceBEq, Int.reduceLE, Int.reduceLT, Int.reduceNeg, Nat.reduceAdd, Nat.reduceEqDiff, Nat.reduceLT, Nat.reduceLeDiff, Nat.reduceMul, Nat.reduceSub, reduceCtorEq, ↓reduceIte]
      exact ⟨.nil _, .c _⟩
    · have ho' : ¬ F.ov = true := by simp [ho]
      rw [if_neg ho'] at hM
      subst hM
      have hne : F.out ≠ [] := hout.resolve_left ho'
      replace hS := hS hne
      have hol : F.out.length ≤ 20000 := hok
      have hbs : (bstr F.out).size = F.out.length := bsz F.out
      have hbl : (bstr F.out).data.toList = F.out := by simp [bstr]
      refine walkGF (And.intro @bA_ren (And.intro @prA_rho (And.intro @prX_ce @bA_len))) ?_
      ((refine AO.step fun K hK => ?_; simp only [go_sem, Int.reduceBEq, Int.reduceLE, Int.reduceLT, Int.reduceNeg, Nat.reduceAdd, Nat.reduceEqDiff, Nat.reduceLT, Nat.reduceLeDiff, Nat.reduceMul, Nat.reduceSub, reduceCtorEq, ↓reduceIte, bA_ren, prA_rho, prX_ce]; (first | refine gsel_go ?_ | skip)); refine .inr (.inr (.inl ⟨?vy2, [56, 72], ?va2, ?vl2, ?vm2, ?cond2, ?cont2⟩)); (case cond2 => ((repeat' apply And.intro) <;> (try ((with_reducible show ToldM _ _ _ _ _ _); exact hS))); (all_goals first | trivial | (simp only [bA_ren, prA_rho, prX_ce, go_sem, Int.reduceBEq, Int.reduceLE, Int.reduceLT, Int.reduceNeg, Nat.reduceAdd, Nat.reduceEqDiff, Nat.reduceLT, Nat.reduceLeDiff, Nat.reduceMul, Nat.reduceSub, reduceCtorEq, ↓reduceIte]; done) | (simp; done) | rfl)); (first | refine hK _ _ _ ?_ | (simp only [bA_ren, prA_rho, prX_ce, go_sem, Int.reduceBEq, Int.reduceLE, Int.reduceLT, Int.reduceNeg, Nat.reduceAdd, Nat.reduceEqDiff, Nat.reduceLT, Nat.reduceLeDiff, Nat.reduceMul, Nat.reduceSub, reduceCtorEq, ↓reduceIte]; first | refine hK _ _ _ ?_ | refine ⟨rfl, hK _ _ _ ?_⟩)); clear hK K)
      refine walkGF (And.intro hbs hbl) ?_
      refine ⟨by first | exact .inr rfl | exact .inl rfl, ?_⟩; rw [Tryz.results6]; simp only [resOk, resV, go_sem, Int.reduceBEq, Int.reduceLE, Int.reduceLT, Int.reduceNeg, Nat.reduceAdd, Nat.reduceEqDiff, Nat.reduceLT, Nat.reduceLeDiff, Nat.reduceMul, Nat.reduceSub, reduceCtorEq, ↓reduceIte]
      exact ⟨.c _, .c _⟩

end Go.Proofs.YticfioblapjkmaaGreat
