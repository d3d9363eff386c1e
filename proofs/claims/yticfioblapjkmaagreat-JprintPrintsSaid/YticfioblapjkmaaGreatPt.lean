/- jprint's printer: tree, and Print (written by gen_pr.py). -/
import Derived.Test.YticfioblapjkmaaGreatPs
namespace Go.Proofs.YticfioblapjkmaaGreat
open Go.RowKit
set_option linter.unusedVariables false
set_option linter.unusedSimpArgs false
attribute [local go_sem] opx opE ev okx gcond bnd okO AV.get AV.okb cAV upd_at putd_some putd_none wrs_nil wrs_cons look_nil look_cons st argT_at bpick_and bpick_or bpick_true bpick_false binV binI binS binVOk binOk isShift binSOk unV unVOk loadV loadP cellsA zeroA Blkd.len setE grown moreA moreR moreOk eqRes pv fillA fillE putSeg AV.cellish AV.pureL AV.pureB lentL_is ex_some AV.ren AV.renL renL_c Blkd.ren rho wrM renN lentOk rhoE keepM endOk tyA_2 tyA_3 tyA_4 tyA_5 tyA_6 tyA_7 tyA_8 tyA_9 tyA_10 tyA_11 tyA_12 tyA_13 tyA_14 tyA_15 tyA_16 tyA_17 tyA_18 tyA_19 tyA_21 tyA_22 tyA_23 tyA_24 tyA_25 tyA_28 tyA_29 tyA_38 tyA_39 tyA_40 tyA_41 tyA_42 tyA_43 tyA_49 tyA_50 tyA_51 tyA_52 tyA_53 tyA_57 tyA_62 tyA_76 tyA_87 tyA_88 tyA_89 tyA_100 tyA_101 tyA_102 tyA_106 tyA_119 tyA_128 tyA_130 tyA_132 tyA_137 tyA_141 tyA_146 tyA_149 tyA_150 tyA_151 tyA_152 tyA_153 tyA_154 tyA_155 tyA_157 tyA_158 Option.map_some Option.map_none Option.getD_some Option.getD_none Option.bind_some Option.bind_none List.getElem?_cons_zero List.getElem?_cons_succ List.getElem?_nil List.getElem?_toArray List.length_cons List.length_nil List.length_map List.forall_mem_map List.map_cons List.map_nil List.drop_zero List.drop_succ_cons List.drop_nil List.take_zero List.take_succ_cons List.take_nil List.mem_cons List.not_mem_nil or_false forall_eq_or_imp forall_eq List.set_cons_zero List.set_cons_succ List.cons_append List.nil_append List.append_nil List.foldl_cons List.foldl_nil List.replicate_succ List.replicate_zero List.all_cons List.all_nil if_true if_false Bool.false_eq_true ne_eq not_false_eq_true not_true_eq_false true_and and_true and_self true_implies imp_self implies_true forall_const beq_self_eq_true Bool.and_true Bool.true_and Bool.and_false Bool.false_and Bool.or_true Bool.true_or Bool.or_false Bool.false_or Bool.not_true Bool.not_false Bool.not_eq_eq_eq_not intKindOf Value.oneCell' Int.toNat_natCast beq_true beq_false Bool.not_eq_true false_implies false_or true_or or_true Nat.zero_add Nat.add_zero decide_true decide_false Int.cast_ofNat_Int Int.toNat_zero Int.toNat_one eq_self

theorem jrights_mem {d : Nat} : ∀ {xs : List JT}, jrights d xs = true → ∀ x ∈ xs, jright d x = true
  | x :: xs, h, y, hy => by
    rw [jrights, Bool.and_eq_true] at h
    rcases List.mem_cons.1 hy with rfl | hy
    · exact h.1
    · exact jrights_mem h.2 y hy
theorem numb_len (n : Int) (h1 : -9223372036854775808 ≤ n) (h2 : n ≤ 9223372036854775807) : (mNumb n).length ≤ 21 := by
  have := digs_len 19 n.natAbs (by omega)
  unfold mNumb
  split <;> simp <;> omega
set_option maxRecDepth 100000 in
set_option maxHeartbeats 1600000 in
theorem tree_told : ∀ (m : Nat) (t : JT), SizeOf.sizeOf t ≤ m → t.sm 1000000000 → t.inr → ∀ d, jright d t = true → ∀ p : PS, p.ok →
    ToldM Tryz.prog 13 [.ref 1000000 1 0 0, t.av] [prB p.u p.out.length p.ov, bB p.out] [some (prB (pTree p t).u (pTree p t).out.length (pTree p t).ov), some (bB (pTree p t).out)] (.tup []) := by
  intro m
  induction m with
  | zero =>
    intro t ht
    cases t
    simp at ht
  | succ m ih =>
  intro t ht hsm hin d hr p hp
  cases t with
  | mk k n s ks xs =>
  have hx : ∀ x ∈ xs, ∀ q : PS, q.ok → ToldM Tryz.prog 13 [.ref 1000000 1 0 0, x.av] [prB q.u q.out.length q.ov, bB q.out] [some (prB (pTree q x).u (pTree q x).out.length (pTree q x).ov), some (bB (pTree q x).out)] (.tup []) := by
    intro x hxm
    rw [jright] at hr
    simp only [Bool.and_eq_true] at hr
    exact ih x (by have := List.sizeOf_lt_of_mem hxm; simp at ht; omega) (smL_mem hsm.2.2.2.2 x hxm) (inrL_mem hin.2 x hxm) (d + 1) (jrights_mem hr.2 x hxm)
  obtain ⟨hsl, hkl, hks, hxl, _⟩ := hsm
  obtain ⟨⟨hn1, hn2⟩, _⟩ := hin
  have hky : k = 6 → ks.length = xs.length := by
    intro h6
    rw [jright] at hr
    simp only [Bool.and_eq_true] at hr
    have := hr.1.1.2
    rw [jkeyed, if_neg (by omega)] at this
    simp at this
    exact this.1
  have hk16 : 1 ≤ k ∧ k ≤ 6 := by
    rw [jright] at hr
    simp only [Bool.and_eq_true] at hr
    have := hr.1.1.1
    rw [jbare] at this
    repeat' split at this
    all_goals first | omega | (simp at this)
  clear ih ht hr
  obtain ⟨F, hF⟩ : ∃ F, F = pTree p (.mk k n s ks xs) := ⟨_, rfl⟩
  rw [← hF]
  rw [pTree] at hF
  simp only [JT.av, prB, bB]
  refine VC.toldM ent_13 [] Tryz.func13 rfl Tryz.ntmps13 (by simp) (by simp only [ bA_len, bA_sc, prA_sc, prA_ce, cells_mk, ScM, zOk, inL, eq_self, used_is, sc_any, sc_c, sc_pp, sc_ref, sc_row, sc_agg, sc_tup, sc_fn, ScL, some_imp, List.forall_mem_map, Nat.le_refl, go_sem, Int.reduceBEq, Int.reduceLE, Int.reduceLT, Int.reduceNeg, Nat.reduceAdd, Nat.reduceEqDiff, Nat.reduceLT, Nat.reduceLeDiff, Nat.reduceMul, Nat.reduceSub, reduceCtorEq, ↓reduceIte]) (by simp only [ bA_len, bA_sc, prA_sc, prA_ce, cells_mk, ScM, zOk, inL, eq_self, used_is, sc_any, sc_c, sc_pp, sc_ref, sc_row, sc_agg, sc_tup, sc_fn, ScL, some_imp, List.forall_mem_map, Nat.le_refl, go_sem, Int.reduceBEq, Int.reduceLE, Int.reduceLT, Int.reduceNeg, Nat.reduceAdd, Nat.reduceEqDiff, Nat.reduceLT, Nat.reduceLeDiff, Nat.reduceMul, Nat.reduceSub, reduceCtorEq, ↓reduceIte]) (by simp only [ bA_len, bA_sc, prA_sc, prA_ce, cells_mk, ScM, zOk, inL, eq_self, used_is, sc_any, sc_c, sc_pp, sc_ref, sc_row, sc_agg, sc_tup, sc_fn, ScL, some_imp, List.forall_mem_map, Nat.le_refl, go_sem, Int.reduceBEq, Int.reduceLE, Int.reduceLT, Int.reduceNeg, Nat.reduceAdd, Nat.reduceEqDiff, Nat.reduceLT, Nat.reduceLeDiff, Nat.reduceMul, Nat.reduceSub, reduceCtorEq, ↓reduceIte]) (by simp only [ bA_len, bA_sc, prA_sc, prA_ce, cells_mk, ScM, zOk, inL, eq_self, used_is, sc_any, sc_c, sc_pp, sc_ref, sc_row, sc_agg, sc_tup, sc_fn, ScL, some_imp, List.forall_mem_map, Nat.le_refl, go_sem, Int.reduceBEq, Int.reduceLE, Int.reduceLT, Int.reduceNeg, Nat.reduceAdd, Nat.reduceEqDiff, Nat.reduceLT, Nat.reduceLeDiff, Nat.reduceMul, Nat.reduceSub, reduceCtorEq, ↓reduceIte]) (by simp) fun hb hbL => ?_
  clear hb hbL
  refine walkGF (@cells_mk) ?_
  refine VC.cond (by rfl) (by trivial) (fun h1 => ?_) (fun h1 => ?_)
  · have hk : k = 1 := by simpa using h1
    rw [if_pos hk] at hF
    subst hF
    have hP := put_told p [110, 117, 108, 108] hp (by decide)
    simp only [prB, bB, str] at hP
    refine walkGF (@cells_mk) ?_
    ((refine AO.step fun K hK => ?_; simp only [go_sem, Int.reduceBEq, Int.reduceLE, Int.reduceLT, Int.reduceNeg, Nat.reduceAdd, Nat.reduceEqDiff, Nat.reduceLT, Nat.reduceLeDiff, Nat.reduceMul, Nat.reduceSub, reduceCtorEq, ↓reduceIte, bA_ren, prA_r2]; (first | refine gsel_go ?_ | skip)); refine .inr (.inr (.inl ⟨?vy1, [1000000, 1000001], ?va1, ?vl1, ?vm1, ?cond1, ?cont1⟩)); (case cond1 => ((repeat' apply And.intro) <;> (try ((with_reducible show ToldM _ _ _ _ _ _); exact hP))); (all_goals first | trivial | (simp only [bA_ren, prA_r2, go_sem, Int.reduceBEq, Int.reduceLE, Int.reduceLT, Int.reduceNeg, Nat.reduceAdd, Nat.reduceEqDiff, Nat.reduceLT, Nat.reduceLeDiff, Nat.reduceMul, Nat.reduceSub, reduceCtorEq, ↓reduceIte]; done) | (simp; done) | rfl)); (first | refine hK _ _ _ ?_ | (simp only [bA_ren, prA_r2, go_sem, Int.reduceBEq, Int.reduceLE, Int.reduceLT, Int.reduceNeg, Nat.reduceAdd, Nat.reduceEqDiff, Nat.reduceLT, Nat.reduceLeDiff, Nat.reduceMul, Nat.reduceSub, reduceCtorEq, ↓reduceIte]; first | refine hK _ _ _ ?_ | refine ⟨rfl, hK _ _ _ ?_⟩)); clear hK K)
    refine walkGF (And.intro @bA_ren (And.intro @prA_r2 @bA_len)) ?_
    refine ⟨by first | exact .inr rfl | exact .inl rfl, ?_⟩; rw [Tryz.results13]; simp only [bA_ren, prA_e2, prA_r2, resOk, resV, go_sem, Int.reduceBEq, Int.reduceLE, Int.reduceLT, Int.reduceNeg, Nat.reduceAdd, Nat.reduceEqDiff, Nat.reduceLT, Nat.reduceLeDiff, Nat.reduceMul, Nat.reduceSub, reduceCtorEq, ↓reduceIte]
  have hk1 : ¬ k = 1 := by simpa using h1
  rw [if_neg hk1] at hF
  refine walkGF (@cells_mk) ?_
  refine VC.cond (by rfl) (by trivial) (fun h2 => ?_) (fun h2 => ?_)
  · have hk : k = 2 := by simpa using h2
    rw [if_pos hk] at hF
    refine walkGF (@cells_mk) ?_
    refine VC.cond (by rfl) (by trivial) (fun h3 => ?_) (fun h3 => ?_)
    · have hn : n = 1 := by simpa using h3
      rw [if_pos hn] at hF
      subst hF
      have hP := put_told p [116, 114, 117, 101] hp (by decide)
      simp only [prB, bB, str] at hP
      refine walkGF (@cells_mk) ?_
      ((refine AO.step fun K hK => ?_; simp only [go_sem, Int.reduceBEq, Int.reduceLE, Int.reduceLT, Int.reduceNeg, Nat.reduceAdd, Nat.reduceEqDiff, Nat.reduceLT, Nat.reduceLeDiff, Nat.reduceMul, Nat.reduceSub, reduceCtorEq, ↓reduceIte, bA_ren, prA_r2]; (first | refine gsel_go ?_ | skip)); refine .inr (.inr (.inl ⟨?vy2, [1000000, 1000001], ?va2, ?vl2, ?vm2, ?cond2, ?cont2⟩)); (case cond2 => ((repeat' apply And.intro) <;> (try ((with_reducible show ToldM _ _ _ _ _ _); exact hP))); (all_goals first | trivial | (simp only [bA_ren, prA_r2, go_sem, Int.reduceBEq, Int.reduceLE, Int.reduceLT, Int.reduceNeg, Nat.reduceAdd, Nat.reduceEqDiff, Nat.reduceLT, Nat.reduceLeDiff, Nat.reduceMul, Nat.reduceSub, reduceCtorEq, ↓reduceIte]; done) | (simp; done) | rfl)); (first | refine hK _ _ _ ?_ | (simp only [bA_ren, prA_r2, go_sem, Int.reduceBEq, Int.reduceLE, Int.reduceLT, Int.reduceNeg, Nat.reduceAdd, Nat.reduceEqDiff, Nat.reduceLT, Nat.reduceLeDiff, Nat.reduceMul, Nat.reduceSub, reduceCtorEq, ↓reduceIte]; first | refine hK _ _ _ ?_ | refine ⟨rfl, hK _ _ _ ?_⟩)); clear hK K)
      refine walkGF (And.intro @bA_ren (And.intro @prA_r2 @bA_len)) ?_
      refine ⟨by first | exact .inr rfl | exact .inl rfl, ?_⟩; rw [Tryz.results13]; simp only [bA_ren, prA_e2, prA_r2, resOk, resV, go_sem, Int.reduceBEq, Int.reduceLE, Int.reduceLT, Int.reduceNeg, Nat.reduceAdd, Nat.reduceEqDiff, Nat.reduceLT, Nat.reduceLeDiff, Nat.reduceMul, Nat.reduceSub, reduceCtorEq, ↓reduceIte]
    · have hn : ¬ n = 1 := by simpa using h3
      rw [if_neg hn] at hF
      subst hF
      have hP := put_told p [102, 97, 108, 115, 101] hp (by decide)
      simp only [prB, bB, str] at hP
      refine walkGF (@cells_mk) ?_
      ((refine AO.step fun K hK => ?_; simp only [go_sem, Int.reduceBEq, Int.reduceLE, Int.reduceLT, Int.reduceNeg, Nat.reduceAdd, Nat.reduceEqDiff, Nat.reduceLT, Nat.reduceLeDiff, Nat.reduceMul, Nat.reduceSub, reduceCtorEq, ↓reduceIte, bA_ren, prA_r2]; (first | refine gsel_go ?_ | skip)); refine .inr (.inr (.inl ⟨?vy3, [1000000, 1000001], ?va3, ?vl3, ?vm3, ?cond3, ?cont3⟩)); (case cond3 => ((repeat' apply And.intro) <;> (try ((with_reducible show ToldM _ _ _ _ _ _); exact hP))); (all_goals first | trivial | (simp only [bA_ren, prA_r2, go_sem, Int.reduceBEq, Int.reduceLE, Int.reduceLT, Int.reduceNeg, Nat.reduceAdd, Nat.reduceEqDiff, Nat.reduceLT, Nat.reduceLeDiff, Nat.reduceMul, Nat.reduceSub, reduceCtorEq, ↓reduceIte]; done) | (simp; done) | rfl)); (first | refine hK _ _ _ ?_ | (simp only [bA_ren, prA_r2, go_sem, Int.reduceBEq, Int.reduceLE, Int.reduceLT, Int.reduceNeg, Nat.reduceAdd, Nat.reduceEqDiff, Nat.reduceLT, Nat.reduceLeDiff, Nat.reduceMul, Nat.reduceSub, reduceCtorEq, ↓reduceIte]; first | refine hK _ _ _ ?_ | refine ⟨rfl, hK _ _ _ ?_⟩)); clear hK K)
      refine walkGF (And.intro @bA_ren (And.intro @prA_r2 @bA_len)) ?_
      refine ⟨by first | exact .inr rfl | exact .inl rfl, ?_⟩; rw [Tryz.results13]; simp only [bA_ren, prA_e2, prA_r2, resOk, resV, go_sem, Int.reduceBEq, Int.reduceLE, Int.reduceLT, Int.reduceNeg, Nat.reduceAdd, Nat.reduceEqDiff, Nat.reduceLT, Nat.reduceLeDiff, Nat.reduceMul, Nat.reduceSub, reduceCtorEq, ↓reduceIte]
  have hk2 : ¬ k = 2 := by simpa using h2
  rw [if_neg hk2] at hF
  refine walkGF (@cells_mk) ?_
  refine VC.cond (by rfl) (by trivial) (fun h3 => ?_) (fun h3 => ?_)
  · have hk : k = 3 := by simpa using h3
    rw [if_pos hk] at hF
    have hN := number_told [] n (by simp) hn1 hn2
    have hnl := numb_len n hn1 hn2
    generalize mNumb n = M at hF hN hnl
    subst hF
    have hP := put_told p M hp (by omega)
    simp only [prB, bB, str, List.nil_append, List.length_nil, bA_nil] at hP hN
    have hN : ToldM Tryz.prog _ _ ([] ++ [⟨true, 5, 1, []⟩]) _ _ := hN
    refine walkGF (@cells_mk) ?_
    ((refine AO.step fun K hK => ?_; simp only [go_sem, Int.reduceBEq, Int.reduceLE, Int.reduceLT, Int.reduceNeg, Nat.reduceAdd, Nat.reduceEqDiff, Nat.reduceLT, Nat.reduceLeDiff, Nat.reduceMul, Nat.reduceSub, reduceCtorEq, ↓reduceIte, bA_nil, bA_ren]; (first | refine gsel_go ?_ | skip)); (first | refine .inr (.inr (.inr ⟨?vy8, [], ?vt8, ?vz8, ?va8, ?vl8, ?vm8, ?cond8, ?cont8⟩)) | refine .inr (.inr (.inr (.inl ⟨?vy8, [], ?vt8, ?vz8, ?va8, ?vl8, ?vm8, ?cond8, ?cont8⟩)))); (case cond8 => ((repeat' apply And.intro) <;> (try ((with_reducible show ToldM _ _ _ _ _ _); exact hN))); (all_goals first | trivial | (simp only [bA_nil, bA_ren, go_sem, Int.reduceBEq, Int.reduceLE, Int.reduceLT, Int.reduceNeg, Nat.reduceAdd, Nat.reduceEqDiff, Nat.reduceLT, Nat.reduceLeDiff, Nat.reduceMul, Nat.reduceSub, reduceCtorEq, ↓reduceIte]; done) | (simp; done) | rfl)); (first | refine hK _ _ _ ?_ | (simp only [bA_nil, bA_ren, go_sem, Int.reduceBEq, Int.reduceLE, Int.reduceLT, Int.reduceNeg, Nat.reduceAdd, Nat.reduceEqDiff, Nat.reduceLT, Nat.reduceLeDiff, Nat.reduceMul, Nat.reduceSub, reduceCtorEq, ↓reduceIte]; first | refine hK _ _ _ ?_ | refine ⟨rfl, hK _ _ _ ?_⟩)); clear hK K)
    refine walkGF (And.intro @bA_len @bA_ren) ?_
    (refine AO.step fun K hK => ?_; simp only [go_sem, Int.reduceBEq, Int.reduceLE, Int.reduceLT, Int.reduceNeg, Nat.reduceAdd, Nat.reduceEqDiff, Nat.reduceLT, Nat.reduceLeDiff, Nat.reduceMul, Nat.reduceSub, reduceCtorEq, ↓reduceIte, bA_len, bA_ren]; (first | refine gsel_go ?_ | skip))
    refine ⟨bytePV M, ⟨bA_pv M, bytePV_ok M⟩, hK _ _ _ ?_⟩; clear hK K
    refine walkGF (@bytesOf_pv) ?_
    ((refine AO.step fun K hK => ?_; simp only [go_sem, Int.reduceBEq, Int.reduceLE, Int.reduceLT, Int.reduceNeg, Nat.reduceAdd, Nat.reduceEqDiff, Nat.reduceLT, Nat.reduceLeDiff, Nat.reduceMul, Nat.reduceSub, reduceCtorEq, ↓reduceIte, bytesOf_pv, bA_ren, prA_r2]; (first | refine gsel_go ?_ | skip)); refine .inr (.inr (.inl ⟨?vy4, [1000000, 1000001], ?va4, ?vl4, ?vm4, ?cond4, ?cont4⟩)); (case cond4 => ((repeat' apply And.intro) <;> (try ((with_reducible show ToldM _ _ _ _ _ _); exact hP))); (all_goals first | trivial | (simp only [bytesOf_pv, bA_ren, prA_r2, go_sem, Int.reduceBEq, Int.reduceLE, Int.reduceLT, Int.reduceNeg, Nat.reduceAdd, Nat.reduceEqDiff, Nat.reduceLT, Nat.reduceLeDiff, Nat.reduceMul, Nat.reduceSub, reduceCtorEq, ↓reduceIte]; done) | (simp; done) | rfl)); (first | refine hK _ _ _ ?_ | (simp only [bytesOf_pv, bA_ren, prA_r2, go_sem, Int.reduceBEq, Int.reduceLE, Int.reduceLT, Int.reduceNeg, Nat.reduceAdd, Nat.reduceEqDiff, Nat.reduceLT, Nat.reduceLeDiff, Nat.reduceMul, Nat.reduceSub, reduceCtorEq, ↓reduceIte]; first | refine hK _ _ _ ?_ | refine ⟨rfl, hK _ _ _ ?_⟩)); clear hK K)
    refine walkGF (And.intro @bA_ren (And.intro @prA_r2 @bA_len)) ?_
    refine ⟨by first | exact .inr rfl | exact .inl rfl, ?_⟩; rw [Tryz.results13]; simp only [bA_ren, prA_e2, prA_r2, resOk, resV, go_sem, Int.reduceBEq, Int.reduceLE, Int.reduceLT, Int.reduceNeg, Nat.reduceAdd, Nat.reduceEqDiff, Nat.reduceLT, Nat.reduceLeDiff, Nat.reduceMul, Nat.reduceSub, reduceCtorEq, ↓reduceIte]
  have hk3 : ¬ k = 3 := by simpa using h3
  rw [if_neg hk3] at hF
  refine walkGF (@cells_mk) ?_
  refine VC.cond (by rfl) (by trivial) (fun h4 => ?_) (fun h4 => ?_)
  · have hk : k = 4 := by simpa using h4
    rw [if_pos hk] at hF
    have hN := quote_told [] s (by simp) hsl
    have hnl := quote_len s
    generalize mQuote s = M at hF hN hnl
    subst hF
    have hP := put_told p M hp (by omega)
    simp only [prB, bB, List.nil_append, List.length_nil, bA_nil] at hP hN
    have hN : ToldM Tryz.prog _ _ ([] ++ [⟨true, 5, 1, []⟩]) _ _ := hN
    refine walkGF (@cells_mk) ?_
    ((refine AO.step fun K hK => ?_; simp only [go_sem, Int.reduceBEq, Int.reduceLE, Int.reduceLT, Int.reduceNeg, Nat.reduceAdd, Nat.reduceEqDiff, Nat.reduceLT, Nat.reduceLeDiff, Nat.reduceMul, Nat.reduceSub, reduceCtorEq, ↓reduceIte, bA_nil, bA_ren]; (first | refine gsel_go ?_ | skip)); (first | refine .inr (.inr (.inr ⟨?vy9, [], ?vt9, ?vz9, ?va9, ?vl9, ?vm9, ?cond9, ?cont9⟩)) | refine .inr (.inr (.inr (.inl ⟨?vy9, [], ?vt9, ?vz9, ?va9, ?vl9, ?vm9, ?cond9, ?cont9⟩)))); (case cond9 => ((repeat' apply And.intro) <;> (try ((with_reducible show ToldM _ _ _ _ _ _); exact hN))); (all_goals first | trivial | (simp only [bA_nil, bA_ren, go_sem, Int.reduceBEq, Int.reduceLE, Int.reduceLT, Int.reduceNeg, Nat.reduceAdd, Nat.reduceEqDiff, Nat.reduceLT, Nat.reduceLeDiff, Nat.reduceMul, Nat.reduceSub, reduceCtorEq, ↓reduceIte]; done) | (simp; done) | rfl)); (first | refine hK _ _ _ ?_ | (simp only [bA_nil, bA_ren, go_sem, Int.reduceBEq, Int.reduceLE, Int.reduceLT, Int.reduceNeg, Nat.reduceAdd, Nat.reduceEqDiff, Nat.reduceLT, Nat.reduceLeDiff, Nat.reduceMul, Nat.reduceSub, reduceCtorEq, ↓reduceIte]; first | refine hK _ _ _ ?_ | refine ⟨rfl, hK _ _ _ ?_⟩)); clear hK K)
    refine walkGF (And.intro @bA_len @bA_ren) ?_
    (refine AO.step fun K hK => ?_; simp only [go_sem, Int.reduceBEq, Int.reduceLE, Int.reduceLT, Int.reduceNeg, Nat.reduceAdd, Nat.reduceEqDiff, Nat.reduceLT, Nat.reduceLeDiff, Nat.reduceMul, Nat.reduceSub, reduceCtorEq, ↓reduceIte, bA_len, bA_ren]; (first | refine gsel_go ?_ | skip))
    refine ⟨bytePV M, ⟨bA_pv M, bytePV_ok M⟩, hK _ _ _ ?_⟩; clear hK K
    refine walkGF (@bytesOf_pv) ?_
    ((refine AO.step fun K hK => ?_; simp only [go_sem, Int.reduceBEq, Int.reduceLE, Int.reduceLT, Int.reduceNeg, Nat.reduceAdd, Nat.reduceEqDiff, Nat.reduceLT, Nat.reduceLeDiff, Nat.reduceMul, Nat.reduceSub, reduceCtorEq, ↓reduceIte, bytesOf_pv, bA_ren, prA_r2, str]; (first | refine gsel_go ?_ | skip)); refine .inr (.inr (.inl ⟨?vy5, [1000000, 1000001], ?va5, ?vl5, ?vm5, ?cond5, ?cont5⟩)); (case cond5 => ((repeat' apply And.intro) <;> (try ((with_reducible show ToldM _ _ _ _ _ _); exact hP))); (all_goals first | trivial | (simp only [bytesOf_pv, bA_ren, prA_r2, str, go_sem, Int.reduceBEq, Int.reduceLE, Int.reduceLT, Int.reduceNeg, Nat.reduceAdd, Nat.reduceEqDiff, Nat.reduceLT, Nat.reduceLeDiff, Nat.reduceMul, Nat.reduceSub, reduceCtorEq, ↓reduceIte]; done) | (simp; done) | rfl)); (first | refine hK _ _ _ ?_ | (simp only [bytesOf_pv, bA_ren, prA_r2, str, go_sem, Int.reduceBEq, Int.reduceLE, Int.reduceLT, Int.reduceNeg, Nat.reduceAdd, Nat.reduceEqDiff, Nat.reduceLT, Nat.reduceLeDiff, Nat.reduceMul, Nat.reduceSub, reduceCtorEq, ↓reduceIte]; first | refine hK _ _ _ ?_ | refine ⟨rfl, hK _ _ _ ?_⟩)); clear hK K)
    refine walkGF (And.intro @bA_ren (And.intro @prA_r2 @bA_len)) ?_
    refine ⟨by first | exact .inr rfl | exact .inl rfl, ?_⟩; rw [Tryz.results13]; simp only [bA_ren, prA_e2, prA_r2, resOk, resV, go_sem, Int.reduceBEq, Int.reduceLE, Int.reduceLT, Int.reduceNeg, Nat.reduceAdd, Nat.reduceEqDiff, Nat.reduceLT, Nat.reduceLeDiff, Nat.reduceMul, Nat.reduceSub, reduceCtorEq, ↓reduceIte]
  have hk4 : ¬ k = 4 := by simpa using h4
  rw [if_neg hk4] at hF
  refine walkGF (@cells_mk) ?_
  refine VC.cond (by rfl) (by trivial) (fun h5 => ?_) (fun h5 => ?_)
  · have hk : k = 5 := by simpa using h5
    rw [if_pos hk] at hF
    subst hF
    have hT := tree1L_told p hp [91] [93] (by decide) (by decide) k n s ks xs hxl hx
    simp only [prB, bB, boxB, str] at hT
    refine VC.frz [8] [(4, .fn (.func 23) [] [.ref 0 1 0 0, .pp (JT.mk k n s ks xs).cells])] [(0, ⟨false, 38, 1, [[.ref 1000000 1 0 0]]⟩), (1000000, ⟨false, 43, 3, [[prA p.u, .row 1000001 p.out.length, .c (.v (.bool p.ov))]]⟩), (1000001, ⟨true, 5, 1, bA p.out⟩)] 600 ?_ ?_
    · simp only [cells_mk, bA_sc, prA_sc, prA_ce, bA_len, WeakF, used_is, sc_any, sc_c, sc_pp, sc_ref, sc_row, sc_agg, sc_fn, ScL, some_imp, List.forall_mem_map, go_sem, Int.reduceBEq, Int.reduceLE, Int.reduceLT, Int.reduceNeg, Nat.reduceAdd, Nat.reduceEqDiff, Nat.reduceLT, Nat.reduceLeDiff, Nat.reduceMul, Nat.reduceSub, reduceCtorEq, ↓reduceIte]
      refine ⟨FV.fnL .nil (.cons (.same _) (.cons (.ref (es := [.v (.int .i64 k), .v (.int .i64 n), .v (.string (str s)), .sl 5 (xs.map JT.cells), .sl 1 (ks.map sPV)]) (by simp) rfl rfl rfl rfl) .nil)), ⟨.same _, .same _, .same _⟩, Nat.le_refl _⟩
    refine walkG ?_
    ((refine AO.step fun K hK => ?_; simp only [go_sem, Int.reduceBEq, Int.reduceLE, Int.reduceLT, Int.reduceNeg, Nat.reduceAdd, Nat.reduceEqDiff, Nat.reduceLT, Nat.reduceLeDiff, Nat.reduceMul, Nat.reduceSub, reduceCtorEq, ↓reduceIte, bA_ren, prA_r3, prA_r2]; (first | refine gsel_go ?_ | skip)); refine .inr (.inr (.inl ⟨?vy6, [1000000, 1000001, 0], ?va6, ?vl6, ?vm6, ?cond6, ?cont6⟩)); (case cond6 => ((repeat' apply And.intro) <;> (try ((with_reducible show ToldM _ _ _ _ _ _); exact hT))); (all_goals first | trivial | (simp only [bA_ren, prA_r3, prA_r2, go_sem, Int.reduceBEq, Int.reduceLE, Int.reduceLT, Int.reduceNeg, Nat.reduceAdd, Nat.reduceEqDiff, Nat.reduceLT, Nat.reduceLeDiff, Nat.reduceMul, Nat.reduceSub, reduceCtorEq, ↓reduceIte]; done) | (simp; done) | rfl)); (first | refine hK _ _ _ ?_ | (simp only [bA_ren, prA_r3, prA_r2, go_sem, Int.reduceBEq, Int.reduceLE, Int.reduceLT, Int.reduceNeg, Nat.reduceAdd, Nat.reduceEqDiff, Nat.reduceLT, Nat.reduceLeDiff, Nat.reduceMul, Nat.reduceSub, reduceCtorEq, ↓reduceIte]; first | refine hK _ _ _ ?_ | refine ⟨rfl, hK _ _ _ ?_⟩)); clear hK K)
    refine walkGF (And.intro @bA_ren (And.intro @prA_r3 (And.intro @prA_r2 @bA_len))) ?_
    refine ⟨by first | exact .inr rfl | exact .inl rfl, ?_⟩; rw [Tryz.results13]; simp only [bA_ren, prA_e2, prA_r2, prA_r3, resOk, resV, go_sem, Int.reduceBEq, Int.reduceLE, Int.reduceLT, Int.reduceNeg, Nat.reduceAdd, Nat.reduceEqDiff, Nat.reduceLT, Nat.reduceLeDiff, Nat.reduceMul, Nat.reduceSub, reduceCtorEq, ↓reduceIte]
  have hk5 : ¬ k = 5 := by simpa using h5
  rw [if_neg hk5] at hF
  subst hF
  have hT := tree1O_told p hp [123] [125] (by decide) (by decide) k n s ks xs hxl (hky (by omega)) hks hx
  simp only [prB, bB, boxB, str] at hT
  refine VC.frz [8] [(2, .ref 0 1 0 0), (3, .pp (JT.mk k n s ks xs).cells), (4, .fn (.func 23) [] [.ref 0 1 0 0, .pp (JT.mk k n s ks xs).cells])] [(0, ⟨false, 38, 1, [[.ref 1000000 1 0 0]]⟩), (1000000, ⟨false, 43, 3, [[prA p.u, .row 1000001 p.out.length, .c (.v (.bool p.ov))]]⟩), (1000001, ⟨true, 5, 1, bA p.out⟩)] 600 ?_ ?_
  · simp only [cells_mk, bA_sc, prA_sc, prA_ce, bA_len, WeakF, used_is, sc_any, sc_c, sc_pp, sc_ref, sc_row, sc_agg, sc_fn, ScL, some_imp, List.forall_mem_map, go_sem, Int.reduceBEq, Int.reduceLE, Int.reduceLT, Int.reduceNeg, Nat.reduceAdd, Nat.reduceEqDiff, Nat.reduceLT, Nat.reduceLeDiff, Nat.reduceMul, Nat.reduceSub, reduceCtorEq, ↓reduceIte]
    refine ⟨⟨.same _, .ref (es := [.v (.int .i64 k), .v (.int .i64 n), .v (.string (str s)), .sl 5 (xs.map JT.cells), .sl 1 (ks.map sPV)]) (by simp) rfl rfl rfl rfl, FV.fnL .nil (.cons (.same _) (.cons (.ref (es := [.v (.int .i64 k), .v (.int .i64 n), .v (.string (str s)), .sl 5 (xs.map JT.cells), .sl 1 (ks.map sPV)]) (by simp) rfl rfl rfl rfl) .nil))⟩, ⟨.same _, .same _, .same _⟩, Nat.le_refl _⟩
  refine walkG ?_
  ((refine AO.step fun K hK => ?_; simp only [go_sem, Int.reduceBEq, Int.reduceLE, Int.reduceLT, Int.reduceNeg, Nat.reduceAdd, Nat.reduceEqDiff, Nat.reduceLT, Nat.reduceLeDiff, Nat.reduceMul, Nat.reduceSub, reduceCtorEq, ↓reduceIte, bA_ren, prA_r3, prA_r2]; (first | refine gsel_go ?_ | skip)); refine .inr (.inr (.inl ⟨?vy7, [1000000, 1000001, 0], ?va7, ?vl7, ?vm7, ?cond7, ?cont7⟩)); (case cond7 => ((repeat' apply And.intro) <;> (try ((with_reducible show ToldM _ _ _ _ _ _); exact hT))); (all_goals first | trivial | (simp only [bA_ren, prA_r3, prA_r2, go_sem, Int.reduceBEq, Int.reduceLE, Int.reduceLT, Int.reduceNeg, Nat.reduceAdd, Nat.reduceEqDiff, Nat.reduceLT, Nat.reduceLeDiff, Nat.reduceMul, Nat.reduceSub, reduceCtorEq, ↓reduceIte]; done) | (simp; done) | rfl)); (first | refine hK _ _ _ ?_ | (simp only [bA_ren, prA_r3, prA_r2, go_sem, Int.reduceBEq, Int.reduceLE, Int.reduceLT, Int.reduceNeg, Nat.reduceAdd, Nat.reduceEqDiff, Nat.reduceLT, Nat.reduceLeDiff, Nat.reduceMul, Nat.reduceSub, reduceCtorEq, ↓reduceIte]; first | refine hK _ _ _ ?_ | refine ⟨rfl, hK _ _ _ ?_⟩)); clear hK K)
  refine walkGF (And.intro @bA_ren (And.intro @prA_r3 (And.intro @prA_r2 @bA_len))) ?_
  refine ⟨by first | exact .inr rfl | exact .inl rfl, ?_⟩; rw [Tryz.results13]; simp only [bA_ren, prA_e2, prA_r2, prA_r3, resOk, resV, go_sem, Int.reduceBEq, Int.reduceLE, Int.reduceLT, Int.reduceNeg, Nat.reduceAdd, Nat.reduceEqDiff, Nat.reduceLT, Nat.reduceLeDiff, Nat.reduceMul, Nat.reduceSub, reduceCtorEq, ↓reduceIte]

end Go.Proofs.YticfioblapjkmaaGreat
