/- jprint's printer: its closures over lists and objects (written by gen_pr.py). -/
import Derived.Test.YticfioblapjkmaaGreatPr
namespace Go.Proofs.YticfioblapjkmaaGreat
open Go.RowKit
set_option linter.unusedVariables false
set_option linter.unusedSimpArgs false
attribute [local go_sem] opx opE ev okx gcond bnd okO AV.get AV.okb cAV upd_at putd_some putd_none wrs_nil wrs_cons look_nil look_cons st argT_at bpick_and bpick_or bpick_true bpick_false binV binI binS binVOk binOk isShift binSOk unV unVOk loadV loadP cellsA zeroA Blkd.len setE grown moreA moreR moreOk eqRes pv fillA fillE putSeg AV.cellish AV.pureL AV.pureB lentL_is ex_some AV.ren AV.renL renL_c Blkd.ren rho wrM renN lentOk rhoE keepM endOk tyA_2 tyA_3 tyA_4 tyA_5 tyA_6 tyA_7 tyA_8 tyA_9 tyA_10 tyA_11 tyA_12 tyA_13 tyA_14 tyA_15 tyA_16 tyA_17 tyA_18 tyA_19 tyA_21 tyA_22 tyA_23 tyA_24 tyA_25 tyA_28 tyA_29 tyA_38 tyA_39 tyA_40 tyA_41 tyA_42 tyA_43 tyA_49 tyA_50 tyA_51 tyA_52 tyA_53 tyA_57 tyA_62 tyA_76 tyA_87 tyA_88 tyA_89 tyA_100 tyA_101 tyA_102 tyA_106 tyA_119 tyA_128 tyA_130 tyA_132 tyA_137 tyA_141 tyA_146 tyA_149 tyA_150 tyA_151 tyA_152 tyA_153 tyA_154 tyA_155 tyA_157 tyA_158 Option.map_some Option.map_none Option.getD_some Option.getD_none Option.bind_some Option.bind_none List.getElem?_cons_zero List.getElem?_cons_succ List.getElem?_nil List.getElem?_toArray List.length_cons List.length_nil List.length_map List.forall_mem_map List.map_cons List.map_nil List.drop_zero List.drop_succ_cons List.drop_nil List.take_zero List.take_succ_cons List.take_nil List.mem_cons List.not_mem_nil or_false forall_eq_or_imp forall_eq List.set_cons_zero List.set_cons_succ List.cons_append List.nil_append List.append_nil List.foldl_cons List.foldl_nil List.replicate_succ List.replicate_zero List.all_cons List.all_nil if_true if_false Bool.false_eq_true ne_eq not_false_eq_true not_true_eq_false true_and and_true and_self true_implies imp_self implies_true forall_const beq_self_eq_true Bool.and_true Bool.true_and Bool.and_false Bool.false_and Bool.or_true Bool.true_or Bool.or_false Bool.false_or Bool.not_true Bool.not_false Bool.not_eq_eq_eq_not intKindOf Value.oneCell' Int.toNat_natCast beq_true beq_false Bool.not_eq_true false_implies false_or true_or or_true Nat.zero_add Nat.add_zero decide_true decide_false Int.cast_ofNat_Int Int.toNat_zero Int.toNat_one eq_self

set_option maxRecDepth 100000 in
set_option maxHeartbeats 1600000 in
theorem tree1L_told (p : PS) (hp : p.ok) (o e : List UInt8) (ho : o.length ≤ 10) (he : e.length ≤ 10) (k n : Int) (s : List UInt8) (ks : List (List UInt8)) (xs : List JT) (hxl : xs.length ≤ 1000000000)
    (hx : ∀ x ∈ xs, ∀ q : PS, q.ok → ToldM Tryz.prog 13 [.ref 1000000 1 0 0, x.av] [prB q.u q.out.length q.ov, bB q.out] [some (prB (pTree q x).u (pTree q x).out.length (pTree q x).ov), some (bB (pTree q x).out)] (.tup [])) :
    ToldM Tryz.prog 23 [.c (.v (.string (str o))), .c (.v (.string (str e))), .fn (.func 26) [] [], .ref 1000002 1 0 0, .pp (JT.mk k n s ks xs).cells] [prB p.u p.out.length p.ov, bB p.out, boxB]
      [some (prB ((pKids none (p.put o) 0 xs).put e).u ((pKids none (p.put o) 0 xs).put e).out.length ((pKids none (p.put o) 0 xs).put e).ov), some (bB ((pKids none (p.put o) 0 xs).put e).out), some boxB] (.tup []) := by
  have h1 := put_told p o hp (by omega)
  have hok := PS.put_ok hp o
  generalize p.put o = p1 at h1 hok ⊢
  obtain ⟨F1, hF1⟩ : ∃ F1, F1 = pKids none p1 0 xs := ⟨_, rfl⟩
  rw [← hF1]
  simp only [prB, bB, boxB] at h1 ⊢
  refine VC.toldM ent_23 [] Tryz.func23 rfl Tryz.ntmps23 (by simp) (by simp only [ bA_len, bA_sc, prA_sc, prA_ce, ScM, zOk, inL, eq_self, used_is, sc_any, sc_c, sc_pp, sc_ref, sc_row, sc_agg, sc_tup, sc_fn, ScL, some_imp, List.forall_mem_map, Nat.le_refl, go_sem, Int.reduceBEq, Int.reduceLE, Int.reduceLT, Int.reduceNeg, Nat.reduceAdd, Nat.reduceEqDiff, Nat.reduceLT, Nat.reduceLeDiff, Nat.reduceMul, Nat.reduceSub, reduceCtorEq, ↓reduceIte]) (by simp only [ bA_len, bA_sc, prA_sc, prA_ce, ScM, zOk, inL, eq_self, used_is, sc_any, sc_c, sc_pp, sc_ref, sc_row, sc_agg, sc_tup, sc_fn, ScL, some_imp, List.forall_mem_map, Nat.le_refl, go_sem, Int.reduceBEq, Int.reduceLE, Int.reduceLT, Int.reduceNeg, Nat.reduceAdd, Nat.reduceEqDiff, Nat.reduceLT, Nat.reduceLeDiff, Nat.reduceMul, Nat.reduceSub, reduceCtorEq, ↓reduceIte]) (by simp only [ bA_len, bA_sc, prA_sc, prA_ce, ScM, zOk, inL, eq_self, used_is, sc_any, sc_c, sc_pp, sc_ref, sc_row, sc_agg, sc_tup, sc_fn, ScL, some_imp, List.forall_mem_map, Nat.le_refl, go_sem, Int.reduceBEq, Int.reduceLE, Int.reduceLT, Int.reduceNeg, Nat.reduceAdd, Nat.reduceEqDiff, Nat.reduceLT, Nat.reduceLeDiff, Nat.reduceMul, Nat.reduceSub, reduceCtorEq, ↓reduceIte]) (by simp only [ bA_len, bA_sc, prA_sc, prA_ce, ScM, zOk, inL, eq_self, used_is, sc_any, sc_c, sc_pp, sc_ref, sc_row, sc_agg, sc_tup, sc_fn, ScL, some_imp, List.forall_mem_map, Nat.le_refl, go_sem, Int.reduceBEq, Int.reduceLE, Int.reduceLT, Int.reduceNeg, Nat.reduceAdd, Nat.reduceEqDiff, Nat.reduceLT, Nat.reduceLeDiff, Nat.reduceMul, Nat.reduceSub, reduceCtorEq, ↓reduceIte]) (by simp) fun hb hbL => ?_
  clear hb hbL
  refine walkGF (@cells_mk) ?_
  ((refine AO.step fun K hK => ?_; simp only [go_sem, Int.reduceBEq, Int.reduceLE, Int.reduceLT, Int.reduceNeg, Nat.reduceAdd, Nat.reduceEqDiff, Nat.reduceLT, Nat.reduceLeDiff, Nat.reduceMul, Nat.reduceSub, reduceCtorEq, ↓reduceIte, bA_ren, prA_r2]; (first | refine gsel_go ?_ | skip)); refine .inr (.inr (.inl ⟨?vy1, [1000000, 1000001], ?va1, ?vl1, ?vm1, ?cond1, ?cont1⟩)); (case cond1 => ((repeat' apply And.intro) <;> (try ((with_reducible show ToldM _ _ _ _ _ _); exact h1))); (all_goals first | trivial | (simp only [bA_ren, prA_r2, go_sem, Int.reduceBEq, Int.reduceLE, Int.reduceLT, Int.reduceNeg, Nat.reduceAdd, Nat.reduceEqDiff, Nat.reduceLT, Nat.reduceLeDiff, Nat.reduceMul, Nat.reduceSub, reduceCtorEq, ↓reduceIte]; done) | (simp; done) | rfl)); (first | refine hK _ _ _ ?_ | (simp only [bA_ren, prA_r2, go_sem, Int.reduceBEq, Int.reduceLE, Int.reduceLT, Int.reduceNeg, Nat.reduceAdd, Nat.reduceEqDiff, Nat.reduceLT, Nat.reduceLeDiff, Nat.reduceMul, Nat.reduceSub, reduceCtorEq, ↓reduceIte]; first | refine hK _ _ _ ?_ | refine ⟨rfl, hK _ _ _ ?_⟩)); clear hK K)
  refine walkGF (And.intro @cells_mk (And.intro @bA_ren (And.intro @prA_r2 @bA_len))) ?_
  refine VC.loop (ι := {q : Nat × PS // q.1 ≤ xs.length ∧ pKids none q.2 q.1 (xs.drop q.1) = F1 ∧ q.2.ok})
    (fun q => [(1, .c (.v (.string (str e)))), (2, .fn (.func 26) [] []), (3, .ref 1000002 1 0 0), (4, .pp (JT.mk k n s ks xs).cells), (14, .c (.sl 5 (xs.map JT.cells))), (15, .c (.v (.int .i64 (xs.length : Int)))), (16, .c (.v (.int .i64 (q.1.1 : Int))))])
    (fun q => [(1000000, ⟨false, 43, 3, [[prA q.1.2.u, .row 1000001 q.1.2.out.length, .c (.v (.bool q.1.2.ov))]]⟩), (1000001, ⟨true, 5, 1, bA q.1.2.out⟩), (1000002, ⟨false, 38, 1, [[.ref 1000000 1 0 0]]⟩)])
    64 (fun q => xs.length - q.1.1) ⟨(0, p1), Nat.zero_le _, by simp [hF1], hok⟩ ?_ ?_
  · simp only [bA_len, bA_sc, prA_sc, prA_r2, bA_ren, List.length_map, Weak, eq_self, used_is, sc_any, sc_c, sc_pp, sc_ref, sc_row, sc_agg, sc_fn, ScL, some_imp, List.forall_mem_map, go_sem, Int.reduceBEq, Int.reduceLE, Int.reduceLT, Int.reduceNeg, Nat.reduceAdd, Nat.reduceEqDiff, Nat.reduceLT, Nat.reduceLeDiff, Nat.reduceMul, Nat.reduceSub, reduceCtorEq, ↓reduceIte]
    simp [prA_ce, bA_sc]
  rintro ⟨⟨i, q⟩, hi, hfin, hq⟩
  simp only [] at hi hfin hq ⊢
  refine walkG ?_
  refine VC.cond (by rfl) (by trivial) (fun hc => ?_) (fun hc => ?_)
  · have hlt : i < xs.length := by simp at hc; omega
    obtain ⟨x, hxi⟩ : ∃ x, xs[i]? = some x := ⟨xs[i], List.getElem?_eq_getElem hlt⟩
    have hxc : (xs.map JT.cells)[i]? = some x.cells := by rw [List.getElem?_map, hxi]; rfl
    have hxm := List.mem_of_getElem? hxi
    have hpc : (pcomma q i).ok := pcomma_ok hq i
    have hw : IntKind.i64.wrap ((i : Int) + 1) = (i : Int) + 1 := wrap64_id (by omega) (by omega)
    have h3 := key2_told (pcomma q i) i
    have hpko := pkey_ok hpc none i
    have h4 := hx x hxm (pkey none (pcomma q i) i) hpko
    have hnx : pKids none (pTree (pkey none (pcomma q i) i) x) (i + 1) (xs.drop (i + 1)) = F1 := by
      rw [← hfin, List.drop_eq_getElem_cons hlt, pKids]
      rw [List.getElem?_eq_getElem hlt] at hxi
      rw [Option.some.inj hxi]
    have hnok := pTree_ok hpko x
    simp only [JT.av, prB, bB, boxB] at h3 h4
    refine walkGF (And.intro hxc (And.intro @len_cells (And.intro @take_cells @take_cellsC))) ?_
    have hcm := put_told q [44] hq (by decide)
    simp only [prB, bB, str] at hcm
    refine VC.meet [(1, .c (.v (.string (str e)))), (2, .fn (.func 26) [] []), (3, .ref 1000002 1 0 0), (4, .pp (JT.mk k n s ks xs).cells), (8, .c (.v (.int .i64 (i : Int)))), (9, .ref 96 1 0 0), (14, .c (.sl 5 (xs.map JT.cells))), (15, .c (.v (.int .i64 (xs.length : Int)))), (16, .c (.v (.int .i64 (i : Int))))]
      [(1000000, ⟨false, 43, 3, [[prA (pcomma q i).u, .row 1000001 (pcomma q i).out.length, .c (.v (.bool (pcomma q i).ov))]]⟩), (1000001, ⟨true, 5, 1, bA (pcomma q i).out⟩), (1000002, ⟨false, 38, 1, [[.ref 1000000 1 0 0]]⟩), (96, ⟨false, 25, 5, [x.cells.map .c]⟩)] 160 ?_ ?_
    · refine VC.cond (by rfl) (by trivial) (fun hc2 => ?_) (fun hc2 => ?_)
      · have hi0 : 0 < i := by simp at hc2; omega
        rw [show pcomma q i = q.put [44] from if_pos hi0]
        refine walkG ?_
        ((refine AO.step fun K hK => ?_; simp only [go_sem, Int.reduceBEq, Int.reduceLE, Int.reduceLT, Int.reduceNeg, Nat.reduceAdd, Nat.reduceEqDiff, Nat.reduceLT, Nat.reduceLeDiff, Nat.reduceMul, Nat.reduceSub, reduceCtorEq, ↓reduceIte, bA_ren, prA_r2]; (first | refine gsel_go ?_ | skip)); refine .inr (.inr (.inl ⟨?vy2, [1000000, 1000001], ?va2, ?vl2, ?vm2, ?cond2, ?cont2⟩)); (case cond2 => ((repeat' apply And.intro) <;> (try ((with_reducible show ToldM _ _ _ _ _ _); exact hcm))); (all_goals first | trivial | (simp only [bA_ren, prA_r2, go_sem, Int.reduceBEq, Int.reduceLE, Int.reduceLT, Int.reduceNeg, Nat.reduceAdd, Nat.reduceEqDiff, Nat.reduceLT, Nat.reduceLeDiff, Nat.reduceMul, Nat.reduceSub, reduceCtorEq, ↓reduceIte]; done) | (simp; done) | rfl)); (first | refine hK _ _ _ ?_ | (simp only [bA_ren, prA_r2, go_sem, Int.reduceBEq, Int.reduceLE, Int.reduceLT, Int.reduceNeg, Nat.reduceAdd, Nat.reduceEqDiff, Nat.reduceLT, Nat.reduceLeDiff, Nat.reduceMul, Nat.reduceSub, reduceCtorEq, ↓reduceIte]; first | refine hK _ _ _ ?_ | refine ⟨rfl, hK _ _ _ ?_⟩)); clear hK K)
        refine walkGF (And.intro @bA_ren @prA_r2) ?_
        refine .normal ?_
        simp only [bA_len, bA_sc, prA_sc, prA_ce, prA_r2, bA_ren, List.length_map, len_cells, Weak, eq_self, used_is, sc_any, sc_c, sc_pp, sc_ref, sc_row, sc_agg, sc_fn, ScL, some_imp, List.forall_mem_map, go_sem, Int.reduceBEq, Int.reduceLE, Int.reduceLT, Int.reduceNeg, Nat.reduceAdd, Nat.reduceEqDiff, Nat.reduceLT, Nat.reduceLeDiff, Nat.reduceMul, Nat.reduceSub, reduceCtorEq, ↓reduceIte]
        exact Nat.le_refl _
      · have hi0 : ¬ 0 < i := by simp at hc2; omega
        rw [show pcomma q i = q from if_neg hi0]
        refine walkG ?_
        refine .normal ?_
        simp only [bA_len, bA_sc, prA_sc, prA_ce, prA_r2, bA_ren, List.length_map, len_cells, Weak, eq_self, used_is, sc_any, sc_c, sc_pp, sc_ref, sc_row, sc_agg, sc_fn, ScL, some_imp, List.forall_mem_map, go_sem, Int.reduceBEq, Int.reduceLE, Int.reduceLT, Int.reduceNeg, Nat.reduceAdd, Nat.reduceEqDiff, Nat.reduceLT, Nat.reduceLeDiff, Nat.reduceMul, Nat.reduceSub, reduceCtorEq, ↓reduceIte]
        exact Nat.le_refl _
    refine walkG ?_
    ((refine AO.step fun K hK => ?_; simp only [go_sem, Int.reduceBEq, Int.reduceLE, Int.reduceLT, Int.reduceNeg, Nat.reduceAdd, Nat.reduceEqDiff, Nat.reduceLT, Nat.reduceLeDiff, Nat.reduceMul, Nat.reduceSub, reduceCtorEq, ↓reduceIte, bA_ren, prA_r3]; (first | refine gsel_go ?_ | skip)); refine .inr (.inr (.inl ⟨?vy3, [1000000, 1000001, 1000002], ?va3, ?vl3, ?vm3, ?cond3, ?cont3⟩)); (case cond3 => ((repeat' apply And.intro) <;> (try ((with_reducible show ToldM _ _ _ _ _ _); exact h3))); (all_goals first | trivial | (simp only [bA_ren, prA_r3, go_sem, Int.reduceBEq, Int.reduceLE, Int.reduceLT, Int.reduceNeg, Nat.reduceAdd, Nat.reduceEqDiff, Nat.reduceLT, Nat.reduceLeDiff, Nat.reduceMul, Nat.reduceSub, reduceCtorEq, ↓reduceIte]; done) | (simp; done) | rfl)); (first | refine hK _ _ _ ?_ | (simp only [bA_ren, prA_r3, go_sem, Int.reduceBEq, Int.reduceLE, Int.reduceLT, Int.reduceNeg, Nat.reduceAdd, Nat.reduceEqDiff, Nat.reduceLT, Nat.reduceLeDiff, Nat.reduceMul, Nat.reduceSub, reduceCtorEq, ↓reduceIte]; first | refine hK _ _ _ ?_ | refine ⟨rfl, hK _ _ _ ?_⟩)); clear hK K)
    refine walkGF (And.intro @bA_ren (And.intro @prA_r3 (And.intro @len_cells (And.intro @take_cells @take_cellsC)))) ?_
    ((refine AO.step fun K hK => ?_; simp only [go_sem, Int.reduceBEq, Int.reduceLE, Int.reduceLT, Int.reduceNeg, Nat.reduceAdd, Nat.reduceEqDiff, Nat.reduceLT, Nat.reduceLeDiff, Nat.reduceMul, Nat.reduceSub, reduceCtorEq, ↓reduceIte, bA_ren, prA_r2, prA_r3]; (first | refine gsel_go ?_ | skip)); refine .inr (.inr (.inl ⟨?vy4, [1000000, 1000001], ?va4, ?vl4, ?vm4, ?cond4, ?cont4⟩)); (case cond4 => ((repeat' apply And.intro) <;> (try ((with_reducible show ToldM _ _ _ _ _ _); exact h4))); (all_goals first | trivial | (simp only [bA_ren, prA_r2, prA_r3, go_sem, Int.reduceBEq, Int.reduceLE, Int.reduceLT, Int.reduceNeg, Nat.reduceAdd, Nat.reduceEqDiff, Nat.reduceLT, Nat.reduceLeDiff, Nat.reduceMul, Nat.reduceSub, reduceCtorEq, ↓reduceIte]; done) | (simp; done) | rfl)); (first | refine hK _ _ _ ?_ | (simp only [bA_ren, prA_r2, prA_r3, go_sem, Int.reduceBEq, Int.reduceLE, Int.reduceLT, Int.reduceNeg, Nat.reduceAdd, Nat.reduceEqDiff, Nat.reduceLT, Nat.reduceLeDiff, Nat.reduceMul, Nat.reduceSub, reduceCtorEq, ↓reduceIte]; first | refine hK _ _ _ ?_ | refine ⟨rfl, hK _ _ _ ?_⟩)); clear hK K)
    refine walkGF (And.intro @bA_ren (And.intro @prA_r2 (And.intro @prA_r3 hw))) ?_
    refine .next ⟨(i + 1, pTree (pkey none (pcomma q i) i) x), by simp only []; omega, hnx, hnok⟩ ?_ (by simp only []; omega)
    simp only [bA_len, bA_sc, prA_sc, prA_ce, prA_r2, prA_r3, bA_ren, List.length_map, Weak, eq_self, used_is, sc_any, sc_c, sc_pp, sc_ref, sc_row, sc_agg, sc_fn, ScL, some_imp, List.forall_mem_map, go_sem, Int.reduceBEq, Int.reduceLE, Int.reduceLT, Int.reduceNeg, Nat.reduceAdd, Nat.reduceEqDiff, Nat.reduceLT, Nat.reduceLeDiff, Nat.reduceMul, Nat.reduceSub, reduceCtorEq, ↓reduceIte]
    exact ⟨cI (by omega), Nat.le_refl _⟩
  · have hge : i = xs.length := by simp at hc; omega
    subst hge
    rw [List.drop_length, pKids] at hfin
    subst hfin
    have h5 := put_told q e hq (by omega)
    simp only [prB, bB] at h5
    refine walkG ?_
    ((refine AO.step fun K hK => ?_; simp only [go_sem, Int.reduceBEq, Int.reduceLE, Int.reduceLT, Int.reduceNeg, Nat.reduceAdd, Nat.reduceEqDiff, Nat.reduceLT, Nat.reduceLeDiff, Nat.reduceMul, Nat.reduceSub, reduceCtorEq, ↓reduceIte, bA_ren, prA_r2]; (first | refine gsel_go ?_ | skip)); refine .inr (.inr (.inl ⟨?vy5, [1000000, 1000001], ?va5, ?vl5, ?vm5, ?cond5, ?cont5⟩)); (case cond5 => ((repeat' apply And.intro) <;> (try ((with_reducible show ToldM _ _ _ _ _ _); exact h5))); (all_goals first | trivial | (simp only [bA_ren, prA_r2, go_sem, Int.reduceBEq, Int.reduceLE, Int.reduceLT, Int.reduceNeg, Nat.reduceAdd, Nat.reduceEqDiff, Nat.reduceLT, Nat.reduceLeDiff, Nat.reduceMul, Nat.reduceSub, reduceCtorEq, ↓reduceIte]; done) | (simp; done) | rfl)); (first | refine hK _ _ _ ?_ | (simp only [bA_ren, prA_r2, go_sem, Int.reduceBEq, Int.reduceLE, Int.reduceLT, Int.reduceNeg, Nat.reduceAdd, Nat.reduceEqDiff, Nat.reduceLT, Nat.reduceLeDiff, Nat.reduceMul, Nat.reduceSub, reduceCtorEq, ↓reduceIte]; first | refine hK _ _ _ ?_ | refine ⟨rfl, hK _ _ _ ?_⟩)); clear hK K)
    refine walkGF (And.intro @bA_ren (And.intro @prA_r2 @bA_len)) ?_
    refine ⟨by first | exact .inr rfl | exact .inl rfl, ?_⟩; rw [Tryz.results23]; simp only [bA_ren, prA_e3, prA_r2, resOk, resV, go_sem, Int.reduceBEq, Int.reduceLE, Int.reduceLT, Int.reduceNeg, Nat.reduceAdd, Nat.reduceEqDiff, Nat.reduceLT, Nat.reduceLeDiff, Nat.reduceMul, Nat.reduceSub, reduceCtorEq, ↓reduceIte]

set_option maxRecDepth 100000 in
set_option maxHeartbeats 1600000 in
theorem tree1O_told (p : PS) (hp : p.ok) (o e : List UInt8) (ho : o.length ≤ 10) (he : e.length ≤ 10) (k n : Int) (s : List UInt8) (ks : List (List UInt8)) (xs : List JT) (hxl : xs.length ≤ 1000000000) (hkl : ks.length = xs.length) (hks : ∀ y ∈ ks, y.length ≤ 1000000000)
    (hx : ∀ x ∈ xs, ∀ q : PS, q.ok → ToldM Tryz.prog 13 [.ref 1000000 1 0 0, x.av] [prB q.u q.out.length q.ov, bB q.out] [some (prB (pTree q x).u (pTree q x).out.length (pTree q x).ov), some (bB (pTree q x).out)] (.tup [])) :
    ToldM Tryz.prog 23 [.c (.v (.string (str o))), .c (.v (.string (str e))), .fn (.func 27) [] [.ref 1000002 1 0 0, .pp (JT.mk k n s ks xs).cells], .ref 1000002 1 0 0, .pp (JT.mk k n s ks xs).cells] [prB p.u p.out.length p.ov, bB p.out, boxB]
      [some (prB ((pKids (some ks) (p.put o) 0 xs).put e).u ((pKids (some ks) (p.put o) 0 xs).put e).out.length ((pKids (some ks) (p.put o) 0 xs).put e).ov), some (bB ((pKids (some ks) (p.put o) 0 xs).put e).out), some boxB] (.tup []) := by
  have h1 := put_told p o hp (by omega)
  have hok := PS.put_ok hp o
  generalize p.put o = p1 at h1 hok ⊢
  obtain ⟨F1, hF1⟩ : ∃ F1, F1 = pKids (some ks) p1 0 xs := ⟨_, rfl⟩
  rw [← hF1]
  simp only [prB, bB, boxB] at h1 ⊢
  refine VC.toldM ent_23 [] Tryz.func23 rfl Tryz.ntmps23 (by simp) (by simp only [ bA_len, bA_sc, prA_sc, prA_ce, ScM, zOk, inL, eq_self, used_is, sc_any, sc_c, sc_pp, sc_ref, sc_row, sc_agg, sc_tup, sc_fn, ScL, some_imp, List.forall_mem_map, Nat.le_refl, go_sem, Int.reduceBEq, Int.reduceLE, Int.reduceLT, Int.reduceNeg, Nat.reduceAdd, Nat.reduceEqDiff, Nat.reduceLT, Nat.reduceLeDiff, Nat.reduceMul, Nat.reduceSub, reduceCtorEq, ↓reduceIte]) (by simp only [ bA_len, bA_sc, prA_sc, prA_ce, ScM, zOk, inL, eq_self, used_is, sc_any, sc_c, sc_pp, sc_ref, sc_row, sc_agg, sc_tup, sc_fn, ScL, some_imp, List.forall_mem_map, Nat.le_refl, go_sem, Int.reduceBEq, Int.reduceLE, Int.reduceLT, Int.reduceNeg, Nat.reduceAdd, Nat.reduceEqDiff, Nat.reduceLT, Nat.reduceLeDiff, Nat.reduceMul, Nat.reduceSub, reduceCtorEq, ↓reduceIte]) (by simp only [ bA_len, bA_sc, prA_sc, prA_ce, ScM, zOk, inL, eq_self, used_is, sc_any, sc_c, sc_pp, sc_ref, sc_row, sc_agg, sc_tup, sc_fn, ScL, some_imp, List.forall_mem_map, Nat.le_refl, go_sem, Int.reduceBEq, Int.reduceLE, Int.reduceLT, Int.reduceNeg, Nat.reduceAdd, Nat.reduceEqDiff, Nat.reduceLT, Nat.reduceLeDiff, Nat.reduceMul, Nat.reduceSub, reduceCtorEq, ↓reduceIte]) (by simp only [ bA_len, bA_sc, prA_sc, prA_ce, ScM, zOk, inL, eq_self, used_is, sc_any, sc_c, sc_pp, sc_ref, sc_row, sc_agg, sc_tup, sc_fn, ScL, some_imp, List.forall_mem_map, Nat.le_refl, go_sem, Int.reduceBEq, Int.reduceLE, Int.reduceLT, Int.reduceNeg, Nat.reduceAdd, Nat.reduceEqDiff, Nat.reduceLT, Nat.reduceLeDiff, Nat.reduceMul, Nat.reduceSub, reduceCtorEq, ↓reduceIte]) (by simp) fun hb hbL => ?_
  clear hb hbL
  refine walkGF (@cells_mk) ?_
  ((refine AO.step fun K hK => ?_; simp only [go_sem, Int.reduceBEq, Int.reduceLE, Int.reduceLT, Int.reduceNeg, Nat.reduceAdd, Nat.reduceEqDiff, Nat.reduceLT, Nat.reduceLeDiff, Nat.reduceMul, Nat.reduceSub, reduceCtorEq, ↓reduceIte, bA_ren, prA_r2]; (first | refine gsel_go ?_ | skip)); refine .inr (.inr (.inl ⟨?vy6, [1000000, 1000001], ?va6, ?vl6, ?vm6, ?cond6, ?cont6⟩)); (case cond6 => ((repeat' apply And.intro) <;> (try ((with_reducible show ToldM _ _ _ _ _ _); exact h1))); (all_goals first | trivial | (simp only [bA_ren, prA_r2, go_sem, Int.reduceBEq, Int.reduceLE, Int.reduceLT, Int.reduceNeg, Nat.reduceAdd, Nat.reduceEqDiff, Nat.reduceLT, Nat.reduceLeDiff, Nat.reduceMul, Nat.reduceSub, reduceCtorEq, ↓reduceIte]; done) | (simp; done) | rfl)); (first | refine hK _ _ _ ?_ | (simp only [bA_ren, prA_r2, go_sem, Int.reduceBEq, Int.reduceLE, Int.reduceLT, Int.reduceNeg, Nat.reduceAdd, Nat.reduceEqDiff, Nat.reduceLT, Nat.reduceLeDiff, Nat.reduceMul, Nat.reduceSub, reduceCtorEq, ↓reduceIte]; first | refine hK _ _ _ ?_ | refine ⟨rfl, hK _ _ _ ?_⟩)); clear hK K)
  refine walkGF (And.intro @cells_mk (And.intro @bA_ren (And.intro @prA_r2 @bA_len))) ?_
  refine VC.loop (ι := {q : Nat × PS // q.1 ≤ xs.length ∧ pKids (some ks) q.2 q.1 (xs.drop q.1) = F1 ∧ q.2.ok})
    (fun q => [(1, .c (.v (.string (str e)))), (2, .fn (.func 27) [] [.ref 1000002 1 0 0, .pp (JT.mk k n s ks xs).cells]), (3, .ref 1000002 1 0 0), (4, .pp (JT.mk k n s ks xs).cells), (14, .c (.sl 5 (xs.map JT.cells))), (15, .c (.v (.int .i64 (xs.length : Int)))), (16, .c (.v (.int .i64 (q.1.1 : Int))))])
    (fun q => [(1000000, ⟨false, 43, 3, [[prA q.1.2.u, .row 1000001 q.1.2.out.length, .c (.v (.bool q.1.2.ov))]]⟩), (1000001, ⟨true, 5, 1, bA q.1.2.out⟩), (1000002, ⟨false, 38, 1, [[.ref 1000000 1 0 0]]⟩)])
    64 (fun q => xs.length - q.1.1) ⟨(0, p1), Nat.zero_le _, by simp [hF1], hok⟩ ?_ ?_
  · simp only [bA_len, bA_sc, prA_sc, prA_r2, bA_ren, List.length_map, Weak, eq_self, used_is, sc_any, sc_c, sc_pp, sc_ref, sc_row, sc_agg, sc_fn, ScL, some_imp, List.forall_mem_map, go_sem, Int.reduceBEq, Int.reduceLE, Int.reduceLT, Int.reduceNeg, Nat.reduceAdd, Nat.reduceEqDiff, Nat.reduceLT, Nat.reduceLeDiff, Nat.reduceMul, Nat.reduceSub, reduceCtorEq, ↓reduceIte]
    simp [prA_ce, bA_sc]
  rintro ⟨⟨i, q⟩, hi, hfin, hq⟩
  simp only [] at hi hfin hq ⊢
  refine walkG ?_
  refine VC.cond (by rfl) (by trivial) (fun hc => ?_) (fun hc => ?_)
  · have hlt : i < xs.length := by simp at hc; omega
    obtain ⟨x, hxi⟩ : ∃ x, xs[i]? = some x := ⟨xs[i], List.getElem?_eq_getElem hlt⟩
    have hxc : (xs.map JT.cells)[i]? = some x.cells := by rw [List.getElem?_map, hxi]; rfl
    have hxm := List.mem_of_getElem? hxi
    have hpc : (pcomma q i).ok := pcomma_ok hq i
    have hw : IntKind.i64.wrap ((i : Int) + 1) = (i : Int) + 1 := wrap64_id (by omega) (by omega)
    obtain ⟨ke, hke⟩ : ∃ ke, ks[i]? = some ke := ⟨ks[i]'(by omega), List.getElem?_eq_getElem _⟩
    have h3 := key3_told (pcomma q i) (pcomma_ok hq i) i k n s ke ks xs hke (hks ke (List.mem_of_getElem? hke))
    have hpko := pkey_ok hpc (some ks) i
    have h4 := hx x hxm (pkey (some ks) (pcomma q i) i) hpko
    have hnx : pKids (some ks) (pTree (pkey (some ks) (pcomma q i) i) x) (i + 1) (xs.drop (i + 1)) = F1 := by
      rw [← hfin, List.drop_eq_getElem_cons hlt, pKids]
      rw [List.getElem?_eq_getElem hlt] at hxi
      rw [Option.some.inj hxi]
    have hnok := pTree_ok hpko x
    simp only [JT.av, prB, bB, boxB] at h3 h4
    refine walkGF (And.intro hxc (And.intro @len_cells (And.intro @take_cells @take_cellsC))) ?_
    have hcm := put_told q [44] hq (by decide)
    simp only [prB, bB, str] at hcm
    refine VC.meet [(1, .c (.v (.string (str e)))), (2, .fn (.func 27) [] [.ref 1000002 1 0 0, .pp (JT.mk k n s ks xs).cells]), (3, .ref 1000002 1 0 0), (4, .pp (JT.mk k n s ks xs).cells), (8, .c (.v (.int .i64 (i : Int)))), (9, .ref 96 1 0 0), (14, .c (.sl 5 (xs.map JT.cells))), (15, .c (.v (.int .i64 (xs.length : Int)))), (16, .c (.v (.int .i64 (i : Int))))]
      [(1000000, ⟨false, 43, 3, [[prA (pcomma q i).u, .row 1000001 (pcomma q i).out.length, .c (.v (.bool (pcomma q i).ov))]]⟩), (1000001, ⟨true, 5, 1, bA (pcomma q i).out⟩), (1000002, ⟨false, 38, 1, [[.ref 1000000 1 0 0]]⟩), (96, ⟨false, 25, 5, [x.cells.map .c]⟩)] 160 ?_ ?_
    · refine VC.cond (by rfl) (by trivial) (fun hc2 => ?_) (fun hc2 => ?_)
      · have hi0 : 0 < i := by simp at hc2; omega
        rw [show pcomma q i = q.put [44] from if_pos hi0]
        refine walkG ?_
        ((refine AO.step fun K hK => ?_; simp only [go_sem, Int.reduceBEq, Int.reduceLE, Int.reduceLT, Int.reduceNeg, Nat.reduceAdd, Nat.reduceEqDiff, Nat.reduceLT, Nat.reduceLeDiff, Nat.reduceMul, Nat.reduceSub, reduceCtorEq, ↓reduceIte, bA_ren, prA_r2]; (first | refine gsel_go ?_ | skip)); refine .inr (.inr (.inl ⟨?vy7, [1000000, 1000001], ?va7, ?vl7, ?vm7, ?cond7, ?cont7⟩)); (case cond7 => ((repeat' apply And.intro) <;> (try ((with_reducible show ToldM _ _ _ _ _ _); exact hcm))); (all_goals first | trivial | (simp only [bA_ren, prA_r2, go_sem, Int.reduceBEq, Int.reduceLE, Int.reduceLT, Int.reduceNeg, Nat.reduceAdd, Nat.reduceEqDiff, Nat.reduceLT, Nat.reduceLeDiff, Nat.reduceMul, Nat.reduceSub, reduceCtorEq, ↓reduceIte]; done) | (simp; done) | rfl)); (first | refine hK _ _ _ ?_ | (simp only [bA_ren, prA_r2, go_sem, Int.reduceBEq, Int.reduceLE, Int.reduceLT, Int.reduceNeg, Nat.reduceAdd, Nat.reduceEqDiff, Nat.reduceLT, Nat.reduceLeDiff, Nat.reduceMul, Nat.reduceSub, reduceCtorEq, ↓reduceIte]; first | refine hK _ _ _ ?_ | refine ⟨rfl, hK _ _ _ ?_⟩)); clear hK K)
        refine walkGF (And.intro @bA_ren @prA_r2) ?_
        refine .normal ?_
        simp only [bA_len, bA_sc, prA_sc, prA_ce, prA_r2, bA_ren, List.length_map, len_cells, Weak, eq_self, used_is, sc_any, sc_c, sc_pp, sc_ref, sc_row, sc_agg, sc_fn, ScL, some_imp, List.forall_mem_map, go_sem, Int.reduceBEq, Int.reduceLE, Int.reduceLT, Int.reduceNeg, Nat.reduceAdd, Nat.reduceEqDiff, Nat.reduceLT, Nat.reduceLeDiff, Nat.reduceMul, Nat.reduceSub, reduceCtorEq, ↓reduceIte]
        exact Nat.le_refl _
      · have hi0 : ¬ 0 < i := by simp at hc2; omega
        rw [show pcomma q i = q from if_neg hi0]
        refine walkG ?_
        refine .normal ?_
        simp only [bA_len, bA_sc, prA_sc, prA_ce, prA_r2, bA_ren, List.length_map, len_cells, Weak, eq_self, used_is, sc_any, sc_c, sc_pp, sc_ref, sc_row, sc_agg, sc_fn, ScL, some_imp, List.forall_mem_map, go_sem, Int.reduceBEq, Int.reduceLE, Int.reduceLT, Int.reduceNeg, Nat.reduceAdd, Nat.reduceEqDiff, Nat.reduceLT, Nat.reduceLeDiff, Nat.reduceMul, Nat.reduceSub, reduceCtorEq, ↓reduceIte]
        exact Nat.le_refl _
    refine walkG ?_
    ((refine AO.step fun K hK => ?_; simp only [go_sem, Int.reduceBEq, Int.reduceLE, Int.reduceLT, Int.reduceNeg, Nat.reduceAdd, Nat.reduceEqDiff, Nat.reduceLT, Nat.reduceLeDiff, Nat.reduceMul, Nat.reduceSub, reduceCtorEq, ↓reduceIte, bA_ren, prA_r3]; (first | refine gsel_go ?_ | skip)); refine .inr (.inr (.inl ⟨?vy8, [1000000, 1000001, 1000002], ?va8, ?vl8, ?vm8, ?cond8, ?cont8⟩)); (case cond8 => ((repeat' apply And.intro) <;> (try ((with_reducible show ToldM _ _ _ _ _ _); exact h3))); (all_goals first | trivial | (simp only [bA_ren, prA_r3, go_sem, Int.reduceBEq, Int.reduceLE, Int.reduceLT, Int.reduceNeg, Nat.reduceAdd, Nat.reduceEqDiff, Nat.reduceLT, Nat.reduceLeDiff, Nat.reduceMul, Nat.reduceSub, reduceCtorEq, ↓reduceIte]; done) | (simp; done) | rfl)); (first | refine hK _ _ _ ?_ | (simp only [bA_ren, prA_r3, go_sem, Int.reduceBEq, Int.reduceLE, Int.reduceLT, Int.reduceNeg, Nat.reduceAdd, Nat.reduceEqDiff, Nat.reduceLT, Nat.reduceLeDiff, Nat.reduceMul, Nat.reduceSub, reduceCtorEq, ↓reduceIte]; first | refine hK _ _ _ ?_ | refine ⟨rfl, hK _ _ _ ?_⟩)); clear hK K)
    refine walkGF (And.intro @bA_ren (And.intro @prA_r3 (And.intro @len_cells (And.intro @take_cells @take_cellsC)))) ?_
    ((refine AO.step fun K hK => ?_; simp only [go_sem, Int.reduceBEq, Int.reduceLE, Int.reduceLT, Int.reduceNeg, Nat.reduceAdd, Nat.reduceEqDiff, Nat.reduceLT, Nat.reduceLeDiff, Nat.reduceMul, Nat.reduceSub, reduceCtorEq, ↓reduceIte, bA_ren, prA_r2, prA_r3]; (first | refine gsel_go ?_ | skip)); refine .inr (.inr (.inl ⟨?vy9, [1000000, 1000001], ?va9, ?vl9, ?vm9, ?cond9, ?cont9⟩)); (case cond9 => ((repeat' apply And.intro) <;> (try ((with_reducible show ToldM _ _ _ _ _ _); exact h4))); (all_goals first | trivial | (simp only [bA_ren, prA_r2, prA_r3, go_sem, Int.reduceBEq, Int.reduceLE, Int.reduceLT, Int.reduceNeg, Nat.reduceAdd, Nat.reduceEqDiff, Nat.reduceLT, Nat.reduceLeDiff, Nat.reduceMul, Nat.reduceSub, reduceCtorEq, ↓reduceIte]; done) | (simp; done) | rfl)); (first | refine hK _ _ _ ?_ | (simp only [bA_ren, prA_r2, prA_r3, go_sem, Int.reduceBEq, Int.reduceLE, Int.reduceLT, Int.reduceNeg, Nat.reduceAdd, Nat.reduceEqDiff, Nat.reduceLT, Nat.reduceLeDiff, Nat.reduceMul, Nat.reduceSub, reduceCtorEq, ↓reduceIte]; first | refine hK _ _ _ ?_ | refine ⟨rfl, hK _ _ _ ?_⟩)); clear hK K)
    refine walkGF (And.intro @bA_ren (And.intro @prA_r2 (And.intro @prA_r3 hw))) ?_
    refine .next ⟨(i + 1, pTree (pkey (some ks) (pcomma q i) i) x), by simp only []; omega, hnx, hnok⟩ ?_ (by simp only []; omega)
    simp only [bA_len, bA_sc, prA_sc, prA_ce, prA_r2, prA_r3, bA_ren, List.length_map, Weak, eq_self, used_is, sc_any, sc_c, sc_pp, sc_ref, sc_row, sc_agg, sc_fn, ScL, some_imp, List.forall_mem_map, go_sem, Int.reduceBEq, Int.reduceLE, Int.reduceLT, Int.reduceNeg, Nat.reduceAdd, Nat.reduceEqDiff, Nat.reduceLT, Nat.reduceLeDiff, Nat.reduceMul, Nat.reduceSub, reduceCtorEq, ↓reduceIte]
    exact ⟨cI (by omega), Nat.le_refl _⟩
  · have hge : i = xs.length := by simp at hc; omega
    subst hge
    rw [List.drop_length, pKids] at hfin
    subst hfin
    have h5 := put_told q e hq (by omega)
    simp only [prB, bB] at h5
    refine walkG ?_
    ((refine AO.step fun K hK => ?_; simp only [go_sem, Int.reduceBEq, Int.reduceLE, Int.reduceLT, Int.reduceNeg, Nat.reduceAdd, Nat.reduceEqDiff, Nat.reduceLT, Nat.reduceLeDiff, Nat.reduceMul, Nat.reduceSub, reduceCtorEq, ↓reduceIte, bA_ren, prA_r2]; (first | refine gsel_go ?_ | skip)); refine .inr (.inr (.inl ⟨?vy10, [1000000, 1000001], ?va10, ?vl10, ?vm10, ?cond10, ?cont10⟩)); (case cond10 => ((repeat' apply And.intro) <;> (try ((with_reducible show ToldM _ _ _ _ _ _); exact h5))); (all_goals first | trivial | (simp only [bA_ren, prA_r2, go_sem, Int.reduceBEq, Int.reduceLE, Int.reduceLT, Int.reduceNeg, Nat.reduceAdd, Nat.reduceEqDiff, Nat.reduceLT, Nat.reduceLeDiff, Nat.reduceMul, Nat.reduceSub, reduceCtorEq, ↓reduceIte]; done) | (simp; done) | rfl)); (first | refine hK _ _ _ ?_ | (simp only [bA_ren, prA_r2, go_sem, Int.reduceBEq, Int.reduceLE, Int.reduceLT, Int.reduceNeg, Nat.reduceAdd, Nat.reduceEqDiff, Nat.reduceLT, Nat.reduceLeDiff, Nat.reduceMul, Nat.reduceSub, reduceCtorEq, ↓reduceIte]; first | refine hK _ _ _ ?_ | refine ⟨rfl, hK _ _ _ ?_⟩)); clear hK K)
    refine walkGF (And.intro @bA_ren (And.intro @prA_r2 @bA_len)) ?_
    refine ⟨by first | exact .inr rfl | exact .inl rfl, ?_⟩; rw [Tryz.results23]; simp only [bA_ren, prA_e3, prA_r2, resOk, resV, go_sem, Int.reduceBEq, Int.reduceLE, Int.reduceLT, Int.reduceNeg, Nat.reduceAdd, Nat.reduceEqDiff, Nat.reduceLT, Nat.reduceLeDiff, Nat.reduceMul, Nat.reduceSub, reduceCtorEq, ↓reduceIte]

end Go.Proofs.YticfioblapjkmaaGreat
