/- Texts that lead to the law FingerSchemas, joined. -/
import Derived.Test.YtkaogeogjjcdhaaGreatDoorPkFingerSchemasC
import Derived.Test.YtkaogeogjjcdhaaGreatDoorPkFingerSchemasD
namespace Go.Proofs.YtkaogeogjjcdhaaGreatDoor
open Go.RowKit
set_option linter.unusedVariables false
set_option linter.unusedSimpArgs false
section
attribute [local go_sem] opx opE ev okx gcond bnd okO AV.get AV.okb cAV upd_at putd_some putd_none wrs_nil wrs_cons look_nil look_cons st argT_at bpick_and bpick_or bpick_true bpick_false binV binI binS binVOk binOk isShift binSOk unV unVOk loadV loadP cellsA zeroA Blkd.len setE grown moreA moreR moreOk eqRes pv fillA fillE putSeg AV.cellish AV.pureL AV.pureB lentL_is ex_some AV.ren AV.renL renL_c Blkd.ren rho wrM renN lentOk rhoE keepM endOk tyA_2 tyA_3 tyA_4 tyA_5 tyA_6 tyA_7 tyA_8 tyA_9 tyA_10 tyA_11 tyA_12 tyA_13 tyA_14 tyA_15 tyA_16 tyA_17 tyA_18 tyA_19 tyA_21 tyA_22 tyA_23 tyA_24 tyA_29 tyA_30 tyA_31 tyA_32 tyA_33 tyA_34 tyA_35 tyA_36 tyA_37 tyA_38 tyA_39 tyA_40 tyA_41 tyA_42 tyA_43 tyA_48 tyA_89 tyA_93 tyA_107 tyA_108 tyA_109 tyA_113 tyA_114 tyA_115 tyA_116 tyA_117 tyA_119 tyA_120 tyA_121 tyA_122 tyA_131 tyA_134 tyA_135 tyA_136 tyA_137 tyA_138 tyA_154 tyA_156 tyA_157 tyA_158 tyA_159 tyA_170 tyA_180 tyA_181 tyA_182 tyA_196 tyA_202 tyA_208 tyA_209 tyA_210 tyA_211 tyA_212 tyA_213 tyA_229 tyA_230 tyA_231 tyA_241 tyA_264 tyA_268 tyA_293 tyA_294 tyA_295 tyA_311 tyA_313 tyA_321 tyA_326 tyA_334 tyA_338 tyA_340 tyA_343 tyA_344 tyA_345 tyA_346 tyA_347 tyA_348 tyA_349 tyA_351 tyA_352 Option.map_some Option.map_none Option.getD_some Option.getD_none Option.bind_some Option.bind_none List.getElem?_cons_zero List.getElem?_cons_succ List.getElem?_nil List.getElem?_toArray List.length_cons List.length_nil List.length_map List.forall_mem_map List.map_cons List.map_nil List.drop_zero List.drop_succ_cons List.drop_nil List.take_zero List.take_succ_cons List.take_nil List.mem_cons List.not_mem_nil or_false forall_eq_or_imp forall_eq List.set_cons_zero List.set_cons_succ List.cons_append List.nil_append List.append_nil List.foldl_cons List.foldl_nil List.replicate_succ List.replicate_zero List.all_cons List.all_nil if_true if_false Bool.false_eq_true ne_eq not_false_eq_true not_true_eq_false true_and and_true and_self true_implies imp_self implies_true forall_const beq_self_eq_true Bool.and_true Bool.true_and Bool.and_false Bool.false_and Bool.or_true Bool.true_or Bool.or_false Bool.false_or Bool.not_true Bool.not_false Bool.not_eq_eq_eq_not intKindOf Value.oneCell' Int.toNat_natCast beq_true beq_false Bool.not_eq_true false_implies false_or true_or or_true Nat.zero_add Nat.add_zero decide_true decide_false Int.cast_ofNat_Int Int.toNat_zero Int.toNat_one eq_self

set_option maxRecDepth 100000 in
set_option maxHeartbeats 3200000 in
theorem named_enum (ns : List NT) (r : Int) (N : Nat) (n : NT) (h9 : n.kind = 10) (hn : n.name.length ≤ 1000000) (hfn : ∀ f ∈ n.symbols, f.length ≤ 1000000) (hfl : n.symbols.length ≤ 1000000) (M : List Bool) (hM : M.length = N)
    (l L : List UInt8) (hL : L = putsF (symsF (putsF l [jName, mQuote n.name, jType, mQuote (wordM 10), jSyms]) n.symbols n.symbols.length) [[93], [125]]) (hO : L.length ≤ 500000000) :
    ToldM Tryz.prog 192 [.ref 1000000 1 0 0, n.av] [fB ns r N l.length, mB M, bB l] [some (fB ns r N L.length), some (mB M), some (bB L)] (.tup []) := by
  obtain ⟨l5, hl5⟩ : ∃ l5, l5 = putsF l [jName, mQuote n.name, jType, mQuote (wordM 10), jSyms] := ⟨_, rfl⟩
  rw [← hl5] at hL
  obtain ⟨A, hA⟩ : ∃ A, A = symsF l5 n.symbols n.symbols.length := ⟨_, rfl⟩
  rw [← hA] at hL
  simp only [putsF] at hL hl5
  obtain ⟨l1, hl1⟩ : ∃ l1, l1 = l ++ jName := ⟨_, rfl⟩
  obtain ⟨l2, hl2⟩ : ∃ l2, l2 = l1 ++ mQuote n.name := ⟨_, rfl⟩
  obtain ⟨l3, hl3⟩ : ∃ l3, l3 = l2 ++ jType := ⟨_, rfl⟩
  obtain ⟨l4, hl4⟩ : ∃ l4, l4 = l3 ++ mQuote (wordM 10) := ⟨_, rfl⟩
  rw [← hl1, ← hl2, ← hl3, ← hl4] at hl5
  obtain ⟨e1, he1⟩ : ∃ e1, e1 = A ++ [93] := ⟨_, rfl⟩
  rw [← he1] at hL
  have hAl := symsF_le l5 n.symbols (Nat.zero_le n.symbols.length)
  rw [← hA, symsF] at hAl
  have b5 : l5.length ≤ 500000000 := by rw [hL, he1] at hO; simp at hO; omega
  have b4 : l4.length ≤ 500000000 := by rw [hl5] at b5; simp at b5; omega
  have b3 : l3.length ≤ 500000000 := by rw [hl4] at b4; simp at b4; omega
  have b2 : l2.length ≤ 500000000 := by rw [hl3] at b3; simp at b3; omega
  have b1 : l1.length ≤ 500000000 := by rw [hl2] at b2; simp at b2; omega
  have b0 : l.length ≤ 500000000 := by rw [hl1] at b1; simp at b1; omega
  have bA' : A.length ≤ 500000000 := by rw [hL, he1] at hO; simp at hO; omega
  have be : e1.length ≤ 500000000 := by rw [hL] at hO; simp at hO; omega
  have p1 := fput_told ns r M l jName (by omega) (by decide)
  have p2 := fquote_told ns r M l1 n.name (by omega) (by omega)
  have p3 := fput_told ns r M l2 jType (by omega) (by decide)
  have p4 := fquote_told ns r M l3 (wordM 10) (by omega) (by decide)
  have p5 := fput_told ns r M l4 jSyms (by omega) (by decide)
  have p6 := fput_told ns r M A [93] (by omega) (by decide)
  have p7 := fput_told ns r M e1 [125] (by omega) (by decide)
  have hW := word_told 10 (by decide)
  rw [← hl1] at p1
  rw [← hl2] at p2
  rw [← hl3] at p3
  rw [← hl4] at p4
  rw [← hl5] at p5
  rw [← he1] at p6
  rw [← hL] at p7
  rw [hM] at p1 p2 p3 p4 p5 p6 p7
  clear hl1 hl2 hl3 hl4 hl5 he1 hL
  generalize wordM 10 = w at hW p4
  simp only [fB, mB, bB, str, jName, jType, jSyms] at p1 p2 p3 p4 p5 p6 p7
  unfold str at hW
  rw [NT.av_eq, ncells_mk, h9]
  unfold fB mB bB
  refine VC.toldM ent_192 [] Tryz.func192 rfl Tryz.ntmps192 (by simp) (by simp only [ bA_len, bA_sc, rA_len, rA_sc, hM, ScM, zOk, inL, eq_self, used_is, sc_any, sc_c, sc_pp, sc_ref, sc_row, sc_agg, sc_tup, sc_fn, ScL, some_imp, List.forall_mem_map, Nat.le_refl, go_sem, simprocAttr]) (by simp only [ bA_len, bA_sc, rA_len, rA_sc, hM, ScM, zOk, inL, eq_self, used_is, sc_any, sc_c, sc_pp, sc_ref, sc_row, sc_agg, sc_tup, sc_fn, ScL, some_imp, List.forall_mem_map, Nat.le_refl, go_sem, simprocAttr]) (by simp only [ bA_len, bA_sc, rA_len, rA_sc, hM, ScM, zOk, inL, eq_self, used_is, sc_any, sc_c, sc_pp, sc_ref, sc_row, sc_agg, sc_tup, sc_fn, ScL, some_imp, List.forall_mem_map, Nat.le_refl, go_sem, simprocAttr]) (by simp only [ bA_len, bA_sc, rA_len, rA_sc, hM, ScM, zOk, inL, eq_self, used_is, sc_any, sc_c, sc_pp, sc_ref, sc_row, sc_agg, sc_tup, sc_fn, ScL, some_imp, List.forall_mem_map, Nat.le_refl, go_sem, simprocAttr]) (by simp) fun hb hbL => ?_
  clear hb hbL
  refine walkGF (And.intro @bA_len (And.intro @rA_len hM)) ?_
  ((refine AO.step fun K hK => ?_; simp only [go_sem, Int.reduceBEq, Int.reduceLE, Int.reduceLT, Int.reduceNeg, Nat.reduceAdd, Nat.reduceEqDiff, Nat.reduceLT, Nat.reduceLeDiff, Nat.reduceMul, Nat.reduceSub, reduceCtorEq, ↓reduceIte, bA_len, bA_ren, rA_len, rA_ren, hM]; (first | refine gsel_go ?_ | skip)); refine .inr (.inr (.inl ⟨?vy1, [1000000, 1000001, 1000002], ?va1, ?vl1, ?vm1, ?cond1, ?cont1⟩)); (case cond1 => ((repeat' apply And.intro) <;> (try ((with_reducible show ToldM _ _ _ _ _ _); exact p1))); (all_goals first | trivial | (simp only [bA_len, bA_ren, rA_len, rA_ren, hM, go_sem, simprocAttr]; done) | (simp; done) | rfl)); (first | refine hK _ _ _ ?_ | (simp only [bA_len, bA_ren, rA_len, rA_ren, hM, go_sem, simprocAttr]; first | refine hK _ _ _ ?_ | refine ⟨rfl, hK _ _ _ ?_⟩)); clear hK K)
  refine walkGF (And.intro @bA_len (And.intro @bA_ren (And.intro @rA_len (And.intro @rA_ren (And.intro hM @str_eq))))) ?_
  ((refine AO.step fun K hK => ?_; simp only [go_sem, Int.reduceBEq, Int.reduceLE, Int.reduceLT, Int.reduceNeg, Nat.reduceAdd, Nat.reduceEqDiff, Nat.reduceLT, Nat.reduceLeDiff, Nat.reduceMul, Nat.reduceSub, reduceCtorEq, ↓reduceIte, bA_len, bA_ren, rA_len, rA_ren, hM]; (first | refine gsel_go ?_ | skip)); refine .inr (.inr (.inl ⟨?vy2, [1000000, 1000001, 1000002], ?va2, ?vl2, ?vm2, ?cond2, ?cont2⟩)); (case cond2 => ((repeat' apply And.intro) <;> (try ((with_reducible show ToldM _ _ _ _ _ _); exact p2))); (all_goals first | trivial | (simp only [bA_len, bA_ren, rA_len, rA_ren, hM, go_sem, simprocAttr]; done) | (simp; done) | rfl)); (first | refine hK _ _ _ ?_ | (simp only [bA_len, bA_ren, rA_len, rA_ren, hM, go_sem, simprocAttr]; first | refine hK _ _ _ ?_ | refine ⟨rfl, hK _ _ _ ?_⟩)); clear hK K)
  refine walkGF (And.intro @bA_len (And.intro @bA_ren (And.intro @rA_len (And.intro @rA_ren (And.intro hM @str_eq))))) ?_
  ((refine AO.step fun K hK => ?_; simp only [go_sem, Int.reduceBEq, Int.reduceLE, Int.reduceLT, Int.reduceNeg, Nat.reduceAdd, Nat.reduceEqDiff, Nat.reduceLT, Nat.reduceLeDiff, Nat.reduceMul, Nat.reduceSub, reduceCtorEq, ↓reduceIte, bA_len, bA_ren, rA_len, rA_ren, hM]; (first | refine gsel_go ?_ | skip)); refine .inr (.inr (.inl ⟨?vy3, [1000000, 1000001, 1000002], ?va3, ?vl3, ?vm3, ?cond3, ?cont3⟩)); (case cond3 => ((repeat' apply And.intro) <;> (try ((with_reducible show ToldM _ _ _ _ _ _); exact p3))); (all_goals first | trivial | (simp only [bA_len, bA_ren, rA_len, rA_ren, hM, go_sem, simprocAttr]; done) | (simp; done) | rfl)); (first | refine hK _ _ _ ?_ | (simp only [bA_len, bA_ren, rA_len, rA_ren, hM, go_sem, simprocAttr]; first | refine hK _ _ _ ?_ | refine ⟨rfl, hK _ _ _ ?_⟩)); clear hK K)
  refine walkGF (And.intro @bA_len (And.intro @bA_ren (And.intro @rA_len (And.intro @rA_ren (And.intro hM @str_eq))))) ?_
  refine walkC (hW) ?_
  refine walkGF (And.intro @bA_len (And.intro @bA_ren (And.intro @rA_len (And.intro @rA_ren (And.intro hM @str_eq))))) ?_
  ((refine AO.step fun K hK => ?_; simp only [go_sem, Int.reduceBEq, Int.reduceLE, Int.reduceLT, Int.reduceNeg, Nat.reduceAdd, Nat.reduceEqDiff, Nat.reduceLT, Nat.reduceLeDiff, Nat.reduceMul, Nat.reduceSub, reduceCtorEq, ↓reduceIte, bA_len, bA_ren, rA_len, rA_ren, hM]; (first | refine gsel_go ?_ | skip)); refine .inr (.inr (.inl ⟨?vy4, [1000000, 1000001, 1000002], ?va4, ?vl4, ?vm4, ?cond4, ?cont4⟩)); (case cond4 => ((repeat' apply And.intro) <;> (try ((with_reducible show ToldM _ _ _ _ _ _); exact p4))); (all_goals first | trivial | (simp only [bA_len, bA_ren, rA_len, rA_ren, hM, go_sem, simprocAttr]; done) | (simp; done) | rfl)); (first | refine hK _ _ _ ?_ | (simp only [bA_len, bA_ren, rA_len, rA_ren, hM, go_sem, simprocAttr]; first | refine hK _ _ _ ?_ | refine ⟨rfl, hK _ _ _ ?_⟩)); clear hK K)
  refine walkBF (And.intro @bA_len (And.intro @bA_ren (And.intro @rA_len (And.intro @rA_ren (And.intro hM @str_eq))))) ?_
  ((refine AO.step fun K hK => ?_; simp only [go_sem, Int.reduceBEq, Int.reduceLE, Int.reduceLT, Int.reduceNeg, Nat.reduceAdd, Nat.reduceEqDiff, Nat.reduceLT, Nat.reduceLeDiff, Nat.reduceMul, Nat.reduceSub, reduceCtorEq, ↓reduceIte, bA_len, bA_ren, rA_len, rA_ren, hM]; (first | refine gsel_go ?_ | skip)); refine .inr (.inr (.inl ⟨?vy5, [1000000, 1000001, 1000002], ?va5, ?vl5, ?vm5, ?cond5, ?cont5⟩)); (case cond5 => ((repeat' apply And.intro) <;> (try ((with_reducible show ToldM _ _ _ _ _ _); exact p5))); (all_goals first | trivial | (simp only [bA_len, bA_ren, rA_len, rA_ren, hM, go_sem, simprocAttr]; done) | (simp; done) | rfl)); (first | refine hK _ _ _ ?_ | (simp only [bA_len, bA_ren, rA_len, rA_ren, hM, go_sem, simprocAttr]; first | refine hK _ _ _ ?_ | refine ⟨rfl, hK _ _ _ ?_⟩)); clear hK K)
  refine walkGF (And.intro @bA_len (And.intro @bA_ren (And.intro @rA_len (And.intro @rA_ren (And.intro hM @str_eq))))) ?_
  refine VC.loop (ι := {i : Nat // i ≤ n.symbols.length}) (fun q => [(0, .ref 1000000 1 0 0), (3, .ref 0 1 0 0), (4, .fn (.func 193) [.ref 1000000 1 0 0] []), (5, .fn (.func 191) [.ref 1000000 1 0 0] []), (78, .c (.sl 1 (n.symbols.map sPV))), (79, .c (.v (.int .i64 (n.symbols.length : Int)))), (80, .c (.v (.int .i64 (q.1 : Int))))])
    (fun q => [(0, ⟨false, 33, 10, [({n with kind := 10} : NT).cells.map .c]⟩), (1000000, fB ns r N (symsF l5 n.symbols q.1).length), (1000001, mB M), (1000002, bB (symsF l5 n.symbols q.1))]) 4000 (fun q => n.symbols.length - q.1) ⟨0, Nat.zero_le _⟩ ?_ ?_
  · simp only [bA_len, bA_sc, rA_len, rA_sc, rA_ren, bA_ren, hM, symsF, fB, mB, bB, ncells_mk, Weak, eq_self, used_is, sc_any, sc_c, sc_pp, sc_ref, sc_row, sc_agg, sc_fn, ScL, some_imp, List.forall_mem_map, go_sem, Int.reduceBEq, Int.reduceLE, Int.reduceLT, Int.reduceNeg, Nat.reduceAdd, Nat.reduceEqDiff, Nat.reduceLT, Nat.reduceLeDiff, Nat.reduceMul, Nat.reduceSub, reduceCtorEq, ↓reduceIte]
    try simp
  rintro ⟨i, hi⟩
  simp only [fB, mB, bB]
  refine walkGF (And.intro @bA_len (And.intro @rA_len hM)) ?_
  refine VC.cond (by rfl) (by trivial) (fun hc2 => ?_) (fun hc2 => ?_)
  rotate_left
  · obtain rfl : i = n.symbols.length := by simp at hc2; omega
    rw [← hA]
    refine walkGF (And.intro @bA_len (And.intro @rA_len hM)) ?_
    ((refine AO.step fun K hK => ?_; simp only [go_sem, Int.reduceBEq, Int.reduceLE, Int.reduceLT, Int.reduceNeg, Nat.reduceAdd, Nat.reduceEqDiff, Nat.reduceLT, Nat.reduceLeDiff, Nat.reduceMul, Nat.reduceSub, reduceCtorEq, ↓reduceIte, bA_len, bA_ren, rA_len, rA_ren, hM]; (first | refine gsel_go ?_ | skip)); refine .inr (.inr (.inl ⟨?vy6, [1000000, 1000001, 1000002], ?va6, ?vl6, ?vm6, ?cond6, ?cont6⟩)); (case cond6 => ((repeat' apply And.intro) <;> (try ((with_reducible show ToldM _ _ _ _ _ _); exact p6))); (all_goals first | trivial | (simp only [bA_len, bA_ren, rA_len, rA_ren, hM, go_sem, simprocAttr]; done) | (simp; done) | rfl)); (first | refine hK _ _ _ ?_ | (simp only [bA_len, bA_ren, rA_len, rA_ren, hM, go_sem, simprocAttr]; first | refine hK _ _ _ ?_ | refine ⟨rfl, hK _ _ _ ?_⟩)); clear hK K)
    refine walkBF (And.intro @bA_len (And.intro @bA_ren (And.intro @rA_len (And.intro @rA_ren (And.intro hM @str_eq))))) ?_
    ((refine AO.step fun K hK => ?_; simp only [go_sem, Int.reduceBEq, Int.reduceLE, Int.reduceLT, Int.reduceNeg, Nat.reduceAdd, Nat.reduceEqDiff, Nat.reduceLT, Nat.reduceLeDiff, Nat.reduceMul, Nat.reduceSub, reduceCtorEq, ↓reduceIte, bA_len, bA_ren, rA_len, rA_ren, hM]; (first | refine gsel_go ?_ | skip)); refine .inr (.inr (.inl ⟨?vy7, [1000000, 1000001, 1000002], ?va7, ?vl7, ?vm7, ?cond7, ?cont7⟩)); (case cond7 => ((repeat' apply And.intro) <;> (try ((with_reducible show ToldM _ _ _ _ _ _); exact p7))); (all_goals first | trivial | (simp only [bA_len, bA_ren, rA_len, rA_ren, hM, go_sem, simprocAttr]; done) | (simp; done) | rfl)); (first | refine hK _ _ _ ?_ | (simp only [bA_len, bA_ren, rA_len, rA_ren, hM, go_sem, simprocAttr]; first | refine hK _ _ _ ?_ | refine ⟨rfl, hK _ _ _ ?_⟩)); clear hK K)
    refine walkBF (And.intro @bA_len (And.intro @bA_ren (And.intro @rA_len (And.intro @rA_ren (And.intro hM @str_eq))))) ?_
    refine ⟨by first | exact .inr rfl | exact .inl rfl, ?_⟩; rw [Tryz.results192]; simp only [bA_ren, bA_len, rA_len, rA_ren, hM, resOk, resV, go_sem, Int.reduceBEq, Int.reduceLE, Int.reduceLT, Int.reduceNeg, Nat.reduceAdd, Nat.reduceEqDiff, Nat.reduceLT, Nat.reduceLeDiff, Nat.reduceMul, Nat.reduceSub, reduceCtorEq, ↓reduceIte]
  have hlt : i < n.symbols.length := by simp at hc2; omega
  obtain ⟨f, hx⟩ : ∃ f, n.symbols[i]? = some f := ⟨n.symbols[i], List.getElem?_eq_getElem hlt⟩
  have hxp : (n.symbols.map sPV)[i]? = some (sPV f) := by rw [List.getElem?_map, hx]; rfl
  have hw : IntKind.i64.wrap ((i : Int) + 1) = (i : Int) + 1 := wrap64_id (by omega) (by omega)
  have hfn' := hfn f (List.mem_of_getElem? hx)
  have hB := symsF_le l5 n.symbols (show i + 1 ≤ n.symbols.length by omega)
  rw [← hA] at hB
  have hS : symsF l5 n.symbols (i + 1) = putsF (symsF l5 n.symbols i) [commaM i, mQuote f] := by rw [symsF, hx]
  obtain ⟨a0, ha0⟩ : ∃ a0, a0 = symsF l5 n.symbols i := ⟨_, rfl⟩
  obtain ⟨Z, hZ⟩ : ∃ Z, Z = symsF l5 n.symbols (i + 1) := ⟨_, rfl⟩
  rw [← ha0]
  rw [← ha0, ← hZ] at hS
  rw [← hZ] at hB
  simp only [putsF] at hS
  obtain ⟨a1, ha1⟩ : ∃ a1, a1 = a0 ++ commaM i := ⟨_, rfl⟩
  rw [← ha1] at hS
  have c1 : a1.length ≤ 500000000 := by rw [hS] at hB; simp at hB; omega
  have c0 : a0.length ≤ 500000000 := by rw [ha1] at c1; simp at c1; omega
  have q0 := fcomma_told ns r M a0 (by omega) i
  have q1 := fquote_told ns r M a1 f (by omega) (by omega)
  rw [← ha1] at q0
  rw [← hS] at q1
  rw [hM] at q0 q1
  clear hS ha1 p1 p2 p3 p4 p5 p6 p7
  simp only [fB, mB, bB, str] at q0 q1
  refine walkGF (And.intro @ncells_mk (And.intro hxp (And.intro @sPV_eq (And.intro @str_eq (And.intro @bA_len (And.intro @rA_len hM)))))) ?_
  ((refine AO.step fun K hK => ?_; simp only [go_sem, Int.reduceBEq, Int.reduceLE, Int.reduceLT, Int.reduceNeg, Nat.reduceAdd, Nat.reduceEqDiff, Nat.reduceLT, Nat.reduceLeDiff, Nat.reduceMul, Nat.reduceSub, reduceCtorEq, ↓reduceIte, bA_len, bA_ren, rA_len, rA_ren, hM]; (first | refine gsel_go ?_ | skip)); refine .inr (.inr (.inl ⟨?vy8, [1000000, 1000001, 1000002], ?va8, ?vl8, ?vm8, ?cond8, ?cont8⟩)); (case cond8 => ((repeat' apply And.intro) <;> (try ((with_reducible show ToldM _ _ _ _ _ _); exact q0))); (all_goals first | trivial | (simp only [bA_len, bA_ren, rA_len, rA_ren, hM, go_sem, simprocAttr]; done) | (simp; done) | rfl)); (first | refine hK _ _ _ ?_ | (simp only [bA_len, bA_ren, rA_len, rA_ren, hM, go_sem, simprocAttr]; first | refine hK _ _ _ ?_ | refine ⟨rfl, hK _ _ _ ?_⟩)); clear hK K)
  refine walkGF (And.intro @bA_len (And.intro @bA_ren (And.intro @rA_len (And.intro @rA_ren (And.intro hM @str_eq))))) ?_
  ((refine AO.step fun K hK => ?_; simp only [go_sem, Int.reduceBEq, Int.reduceLE, Int.reduceLT, Int.reduceNeg, Nat.reduceAdd, Nat.reduceEqDiff, Nat.reduceLT, Nat.reduceLeDiff, Nat.reduceMul, Nat.reduceSub, reduceCtorEq, ↓reduceIte, bA_len, bA_ren, rA_len, rA_ren, hM]; (first | refine gsel_go ?_ | skip)); refine .inr (.inr (.inl ⟨?vy9, [1000000, 1000001, 1000002], ?va9, ?vl9, ?vm9, ?cond9, ?cont9⟩)); (case cond9 => ((repeat' apply And.intro) <;> (try ((with_reducible show ToldM _ _ _ _ _ _); exact q1))); (all_goals first | trivial | (simp only [bA_len, bA_ren, rA_len, rA_ren, hM, go_sem, simprocAttr]; done) | (simp; done) | rfl)); (first | refine hK _ _ _ ?_ | (simp only [bA_len, bA_ren, rA_len, rA_ren, hM, go_sem, simprocAttr]; first | refine hK _ _ _ ?_ | refine ⟨rfl, hK _ _ _ ?_⟩)); clear hK K)
  refine walkGF (And.intro @bA_len (And.intro @bA_ren (And.intro @rA_len (And.intro @rA_ren (And.intro hM (And.intro @str_eq hw)))))) ?_
  refine .next ⟨i + 1, by omega⟩ ?_ (by simp only []; omega)
  simp only [← hZ]
  simp only [bA_len, bA_sc, rA_len, rA_sc, rA_ren, bA_ren, hM, fB, mB, bB, ncells_mk, Weak, eq_self, used_is, sc_any, sc_c, sc_pp, sc_ref, sc_row, sc_agg, sc_fn, ScL, some_imp, List.forall_mem_map, go_sem, Int.reduceBEq, Int.reduceLE, Int.reduceLT, Int.reduceNeg, Nat.reduceAdd, Nat.reduceEqDiff, Nat.reduceLT, Nat.reduceLeDiff, Nat.reduceMul, Nat.reduceSub, reduceCtorEq, ↓reduceIte]
  exact ⟨cI (by omega), Nat.le_refl _, Nat.le_refl _⟩
set_option maxRecDepth 100000 in
set_option maxHeartbeats 3200000 in
theorem named_fixed (ns : List NT) (r : Int) (N : Nat) (n : NT) (h9 : n.kind = 14) (hn : n.name.length ≤ 1000000) (hz1 : -9223372036854775808 ≤ n.size) (hz2 : n.size ≤ 9223372036854775807) (M : List Bool) (hM : M.length = N)
    (l L : List UInt8) (hL : L = putsF l [jName, mQuote n.name, jType, mQuote (wordM 14), jSize, mNumb n.size, [125]]) (hO : L.length ≤ 500000000) :
    ToldM Tryz.prog 192 [.ref 1000000 1 0 0, n.av] [fB ns r N l.length, mB M, bB l] [some (fB ns r N L.length), some (mB M), some (bB L)] (.tup []) := by
  simp only [putsF] at hL
  obtain ⟨l1, hl1⟩ : ∃ l1, l1 = l ++ jName := ⟨_, rfl⟩
  obtain ⟨l2, hl2⟩ : ∃ l2, l2 = l1 ++ mQuote n.name := ⟨_, rfl⟩
  obtain ⟨l3, hl3⟩ : ∃ l3, l3 = l2 ++ jType := ⟨_, rfl⟩
  obtain ⟨l4, hl4⟩ : ∃ l4, l4 = l3 ++ mQuote (wordM 14) := ⟨_, rfl⟩
  obtain ⟨l5, hl5⟩ : ∃ l5, l5 = l4 ++ jSize := ⟨_, rfl⟩
  obtain ⟨l6, hl6⟩ : ∃ l6, l6 = l5 ++ mNumb n.size := ⟨_, rfl⟩
  rw [← hl1, ← hl2, ← hl3, ← hl4, ← hl5, ← hl6] at hL
  have b6 : l6.length ≤ 500000000 := by rw [hL] at hO; simp at hO; omega
  have b5 : l5.length ≤ 500000000 := by rw [hl6] at b6; simp at b6; omega
  have b4 : l4.length ≤ 500000000 := by rw [hl5] at b5; simp at b5; omega
  have b3 : l3.length ≤ 500000000 := by rw [hl4] at b4; simp at b4; omega
  have b2 : l2.length ≤ 500000000 := by rw [hl3] at b3; simp at b3; omega
  have b1 : l1.length ≤ 500000000 := by rw [hl2] at b2; simp at b2; omega
  have b0 : l.length ≤ 500000000 := by rw [hl1] at b1; simp at b1; omega
  have p1 := fput_told ns r M l jName (by omega) (by decide)
  have p2 := fquote_told ns r M l1 n.name (by omega) (by omega)
  have p3 := fput_told ns r M l2 jType (by omega) (by decide)
  have p4 := fquote_told ns r M l3 (wordM 14) (by omega) (by decide)
  have p5 := fput_told ns r M l4 jSize (by omega) (by decide)
  have p6 := number_told l5 n.size (by omega) hz1 hz2
  have p7 := fput_told ns r M l6 [125] (by omega) (by decide)
  have hW := word_told 14 (by decide)
  rw [← hl1] at p1
  rw [← hl2] at p2
  rw [← hl3] at p3
  rw [← hl4] at p4
  rw [← hl5] at p5
  rw [← hl6] at p6
  rw [← hL] at p7
  rw [hM] at p1 p2 p3 p4 p5 p7
  clear hl1 hl2 hl3 hl4 hl5 hl6 hL
  generalize wordM 14 = w at hW p4
  simp only [fB, mB, bB, str, jName, jType, jSize] at p1 p2 p3 p4 p5 p6 p7
  unfold str at hW
  rw [NT.av_eq, ncells_mk, h9]
  unfold fB mB bB
  refine VC.toldM ent_192 [] Tryz.func192 rfl Tryz.ntmps192 (by simp) (by simp only [ bA_len, bA_sc, rA_len, rA_sc, hM, ScM, zOk, inL, eq_self, used_is, sc_any, sc_c, sc_pp, sc_ref, sc_row, sc_agg, sc_tup, sc_fn, ScL, some_imp, List.forall_mem_map, Nat.le_refl, go_sem, simprocAttr]) (by simp only [ bA_len, bA_sc, rA_len, rA_sc, hM, ScM, zOk, inL, eq_self, used_is, sc_any, sc_c, sc_pp, sc_ref, sc_row, sc_agg, sc_tup, sc_fn, ScL, some_imp, List.forall_mem_map, Nat.le_refl, go_sem, simprocAttr]) (by simp only [ bA_len, bA_sc, rA_len, rA_sc, hM, ScM, zOk, inL, eq_self, used_is, sc_any, sc_c, sc_pp, sc_ref, sc_row, sc_agg, sc_tup, sc_fn, ScL, some_imp, List.forall_mem_map, Nat.le_refl, go_sem, simprocAttr]) (by simp only [ bA_len, bA_sc, rA_len, rA_sc, hM, ScM, zOk, inL, eq_self, used_is, sc_any, sc_c, sc_pp, sc_ref, sc_row, sc_agg, sc_tup, sc_fn, ScL, some_imp, List.forall_mem_map, Nat.le_refl, go_sem, simprocAttr]) (by simp) fun hb hbL => ?_
  clear hb hbL
  refine walkGF (And.intro @bA_len (And.intro @rA_len hM)) ?_
  ((refine AO.step fun K hK => ?_; simp only [go_sem, Int.reduceBEq, Int.reduceLE, Int.reduceLT, Int.reduceNeg, Nat.reduceAdd, Nat.reduceEqDiff, Nat.reduceLT, Nat.reduceLeDiff, Nat.reduceMul, Nat.reduceSub, reduceCtorEq, ↓reduceIte, bA_len, bA_ren, rA_len, rA_ren, hM]; (first | refine gsel_go ?_ | skip)); refine .inr (.inr (.inl ⟨?vy10, [1000000, 1000001, 1000002], ?va10, ?vl10, ?vm10, ?cond10, ?cont10⟩)); (case cond10 => ((repeat' apply And.intro) <;> (try ((with_reducible show ToldM _ _ _ _ _ _); exact p1))); (all_goals first | trivial | (simp only [bA_len, bA_ren, rA_len, rA_ren, hM, go_sem, simprocAttr]; done) | (simp; done) | rfl)); (first | refine hK _ _ _ ?_ | (simp only [bA_len, bA_ren, rA_len, rA_ren, hM, go_sem, simprocAttr]; first | refine hK _ _ _ ?_ | refine ⟨rfl, hK _ _ _ ?_⟩)); clear hK K)
  refine walkGF (And.intro @bA_len (And.intro @bA_ren (And.intro @rA_len (And.intro @rA_ren (And.intro hM @str_eq))))) ?_
  ((refine AO.step fun K hK => ?_; simp only [go_sem, Int.reduceBEq, Int.reduceLE, Int.reduceLT, Int.reduceNeg, Nat.reduceAdd, Nat.reduceEqDiff, Nat.reduceLT, Nat.reduceLeDiff, Nat.reduceMul, Nat.reduceSub, reduceCtorEq, ↓reduceIte, bA_len, bA_ren, rA_len, rA_ren, hM]; (first | refine gsel_go ?_ | skip)); refine .inr (.inr (.inl ⟨?vy11, [1000000, 1000001, 1000002], ?va11, ?vl11, ?vm11, ?cond11, ?cont11⟩)); (case cond11 => ((repeat' apply And.intro) <;> (try ((with_reducible show ToldM _ _ _ _ _ _); exact p2))); (all_goals first | trivial | (simp only [bA_len, bA_ren, rA_len, rA_ren, hM, go_sem, simprocAttr]; done) | (simp; done) | rfl)); (first | refine hK _ _ _ ?_ | (simp only [bA_len, bA_ren, rA_len, rA_ren, hM, go_sem, simprocAttr]; first | refine hK _ _ _ ?_ | refine ⟨rfl, hK _ _ _ ?_⟩)); clear hK K)
  refine walkGF (And.intro @bA_len (And.intro @bA_ren (And.intro @rA_len (And.intro @rA_ren (And.intro hM @str_eq))))) ?_
  ((refine AO.step fun K hK => ?_; simp only [go_sem, Int.reduceBEq, Int.reduceLE, Int.reduceLT, Int.reduceNeg, Nat.reduceAdd, Nat.reduceEqDiff, Nat.reduceLT, Nat.reduceLeDiff, Nat.reduceMul, Nat.reduceSub, reduceCtorEq, ↓reduceIte, bA_len, bA_ren, rA_len, rA_ren, hM]; (first | refine gsel_go ?_ | skip)); refine .inr (.inr (.inl ⟨?vy12, [1000000, 1000001, 1000002], ?va12, ?vl12, ?vm12, ?cond12, ?cont12⟩)); (case cond12 => ((repeat' apply And.intro) <;> (try ((with_reducible show ToldM _ _ _ _ _ _); exact p3))); (all_goals first | trivial | (simp only [bA_len, bA_ren, rA_len, rA_ren, hM, go_sem, simprocAttr]; done) | (simp; done) | rfl)); (first | refine hK _ _ _ ?_ | (simp only [bA_len, bA_ren, rA_len, rA_ren, hM, go_sem, simprocAttr]; first | refine hK _ _ _ ?_ | refine ⟨rfl, hK _ _ _ ?_⟩)); clear hK K)
  refine walkGF (And.intro @bA_len (And.intro @bA_ren (And.intro @rA_len (And.intro @rA_ren (And.intro hM @str_eq))))) ?_
  refine walkC (hW) ?_
  refine walkGF (And.intro @bA_len (And.intro @bA_ren (And.intro @rA_len (And.intro @rA_ren (And.intro hM @str_eq))))) ?_
  ((refine AO.step fun K hK => ?_; simp only [go_sem, Int.reduceBEq, Int.reduceLE, Int.reduceLT, Int.reduceNeg, Nat.reduceAdd, Nat.reduceEqDiff, Nat.reduceLT, Nat.reduceLeDiff, Nat.reduceMul, Nat.reduceSub, reduceCtorEq, ↓reduceIte, bA_len, bA_ren, rA_len, rA_ren, hM]; (first | refine gsel_go ?_ | skip)); refine .inr (.inr (.inl ⟨?vy13, [1000000, 1000001, 1000002], ?va13, ?vl13, ?vm13, ?cond13, ?cont13⟩)); (case cond13 => ((repeat' apply And.intro) <;> (try ((with_reducible show ToldM _ _ _ _ _ _); exact p4))); (all_goals first | trivial | (simp only [bA_len, bA_ren, rA_len, rA_ren, hM, go_sem, simprocAttr]; done) | (simp; done) | rfl)); (first | refine hK _ _ _ ?_ | (simp only [bA_len, bA_ren, rA_len, rA_ren, hM, go_sem, simprocAttr]; first | refine hK _ _ _ ?_ | refine ⟨rfl, hK _ _ _ ?_⟩)); clear hK K)
  refine walkBF (And.intro @bA_len (And.intro @bA_ren (And.intro @rA_len (And.intro @rA_ren (And.intro hM @str_eq))))) ?_
  ((refine AO.step fun K hK => ?_; simp only [go_sem, Int.reduceBEq, Int.reduceLE, Int.reduceLT, Int.reduceNeg, Nat.reduceAdd, Nat.reduceEqDiff, Nat.reduceLT, Nat.reduceLeDiff, Nat.reduceMul, Nat.reduceSub, reduceCtorEq, ↓reduceIte, bA_len, bA_ren, rA_len, rA_ren, hM]; (first | refine gsel_go ?_ | skip)); refine .inr (.inr (.inl ⟨?vy14, [1000000, 1000001, 1000002], ?va14, ?vl14, ?vm14, ?cond14, ?cont14⟩)); (case cond14 => ((repeat' apply And.intro) <;> (try ((with_reducible show ToldM _ _ _ _ _ _); exact p5))); (all_goals first | trivial | (simp only [bA_len, bA_ren, rA_len, rA_ren, hM, go_sem, simprocAttr]; done) | (simp; done) | rfl)); (first | refine hK _ _ _ ?_ | (simp only [bA_len, bA_ren, rA_len, rA_ren, hM, go_sem, simprocAttr]; first | refine hK _ _ _ ?_ | refine ⟨rfl, hK _ _ _ ?_⟩)); clear hK K)
  refine walkGF (And.intro @bA_len (And.intro @bA_ren (And.intro @rA_len (And.intro @rA_ren (And.intro hM @str_eq))))) ?_
  ((refine AO.step fun K hK => ?_; simp only [go_sem, Int.reduceBEq, Int.reduceLE, Int.reduceLT, Int.reduceNeg, Nat.reduceAdd, Nat.reduceEqDiff, Nat.reduceLT, Nat.reduceLeDiff, Nat.reduceMul, Nat.reduceSub, reduceCtorEq, ↓reduceIte, bA_len, bA_ren, rA_len, rA_ren, hM]; (first | refine gsel_go ?_ | skip)); refine .inr (.inr (.inl ⟨?vy15, [1000002], ?va15, ?vl15, ?vm15, ?cond15, ?cont15⟩)); (case cond15 => ((repeat' apply And.intro) <;> (try ((with_reducible show ToldM _ _ _ _ _ _); exact p6))); (all_goals first | trivial | (simp only [bA_len, bA_ren, rA_len, rA_ren, hM, go_sem, simprocAttr]; done) | (simp; done) | rfl)); (first | refine hK _ _ _ ?_ | (simp only [bA_len, bA_ren, rA_len, rA_ren, hM, go_sem, simprocAttr]; first | refine hK _ _ _ ?_ | refine ⟨rfl, hK _ _ _ ?_⟩)); clear hK K)
  refine walkBF (And.intro @bA_len (And.intro @bA_ren (And.intro @rA_len (And.intro @rA_ren (And.intro hM @str_eq))))) ?_
  ((refine AO.step fun K hK => ?_; simp only [go_sem, Int.reduceBEq, Int.reduceLE, Int.reduceLT, Int.reduceNeg, Nat.reduceAdd, Nat.reduceEqDiff, Nat.reduceLT, Nat.reduceLeDiff, Nat.reduceMul, Nat.reduceSub, reduceCtorEq, ↓reduceIte, bA_len, bA_ren, rA_len, rA_ren, hM]; (first | refine gsel_go ?_ | skip)); refine .inr (.inr (.inl ⟨?vy16, [1000000, 1000001, 1000002], ?va16, ?vl16, ?vm16, ?cond16, ?cont16⟩)); (case cond16 => ((repeat' apply And.intro) <;> (try ((with_reducible show ToldM _ _ _ _ _ _); exact p7))); (all_goals first | trivial | (simp only [bA_len, bA_ren, rA_len, rA_ren, hM, go_sem, simprocAttr]; done) | (simp; done) | rfl)); (first | refine hK _ _ _ ?_ | (simp only [bA_len, bA_ren, rA_len, rA_ren, hM, go_sem, simprocAttr]; first | refine hK _ _ _ ?_ | refine ⟨rfl, hK _ _ _ ?_⟩)); clear hK K)
  refine walkBF (And.intro @bA_len (And.intro @bA_ren (And.intro @rA_len (And.intro @rA_ren (And.intro hM @str_eq))))) ?_
  refine ⟨by first | exact .inr rfl | exact .inl rfl, ?_⟩; rw [Tryz.results192]; simp only [bA_ren, bA_len, rA_len, rA_ren, hM, resOk, resV, go_sem, Int.reduceBEq, Int.reduceLE, Int.reduceLT, Int.reduceNeg, Nat.reduceAdd, Nat.reduceEqDiff, Nat.reduceLT, Nat.reduceLeDiff, Nat.reduceMul, Nat.reduceSub, reduceCtorEq, ↓reduceIte]

def PutOk (ns : List NT) : Prop := ∀ n ∈ ns, (1 ≤ n.kind ∧ n.kind ≤ 14) ∧ n.name.length ≤ 1000000 ∧ ((∀ f ∈ n.fields, f.name.length ≤ 1000000) ∧ n.fields.length ≤ 1000000) ∧ ((∀ f ∈ n.symbols, f.length ≤ 1000000) ∧ n.symbols.length ≤ 1000000) ∧ n.branches.length ≤ 1000000 ∧ (-9223372036854775808 ≤ n.size ∧ n.size ≤ 9223372036854775807)
set_option maxRecDepth 100000 in
set_option maxHeartbeats 1600000 in
theorem cnode_met (ns : List NT) (r : Int) (hk : PutOk ns) (d q p : Nat) (hlt : q < p) (hnm : namedK (kindAt ns q) = true) (l L : List UInt8) (hL : L = l ++ (formN ns d q p).1) (hO : L.length ≤ 500000000) :
    ToldM Tryz.prog 112 [.ref 1000000 1 0 0, .c (.v (.int .i64 (q : Int)))] [fB ns r ns.length l.length, mB (metL ns p), bB l] [some (fB ns r ns.length L.length), some (mB (metL ns (formN ns d q p).2)), some (bB L)] (.tup []) := by
  obtain ⟨n, hn⟩ : ∃ n, ns[q]? = some n := by
    unfold kindAt at hnm
    cases hq : ns[q]? with
    | none => rw [hq] at hnm; simp [namedK] at hnm
    | some n => exact ⟨n, rfl⟩
  have hq1 := (List.getElem?_eq_some_iff.1 hn).1
  obtain ⟨⟨k1, k2⟩, hnl, _⟩ := hk n (List.mem_of_getElem? hn)
  rw [kindAt, hn] at hnm
  simp only [] at hnm
  rw [formN_met ns _ _ _ hlt, nameAt, hn] at hL
  rw [formN_met ns _ _ _ hlt]
  simp only [] at hL ⊢
  have hl0 : l.length ≤ 500000000 := by rw [hL] at hO; simp at hO; omega
  have pQ := fquote_told ns r (metL ns p) l n.name (by omega) (by omega)
  rw [← hL, metL_len] at pQ
  have hNm := named_told n.kind
  rw [hnm] at hNm
  have hM := metL_len ns p
  have hat := metL_at hn p
  rw [hnm] at hat
  have hme : (rA blP (metL ns p))[q]? = some [.c (.v (.bool true))] := by
    rw [rA_at hat, decide_eq_true hlt]
    rfl
  generalize metL ns p = M at *
  have k8 : decide (n.kind ≤ 8) = false := by
    simp only [namedK, Bool.or_eq_true, beq_iff_eq] at hnm
    simp
    omega
  have hxp : (ns.map NT.cells)[q]? = some n.cells := by rw [List.getElem?_map, hn]; rfl
  simp only [fB, mB, bB, str] at pQ
  unfold fB mB bB
  refine VC.toldM ent_112 [] Tryz.func112 rfl Tryz.ntmps112 (by simp) (by simp only [ bA_len, bA_sc, rA_len, rA_sc, hM, ScM, zOk, inL, eq_self, used_is, sc_any, sc_c, sc_pp, sc_ref, sc_row, sc_agg, sc_tup, sc_fn, ScL, some_imp, List.forall_mem_map, Nat.le_refl, go_sem, simprocAttr]) (by simp only [ bA_len, bA_sc, rA_len, rA_sc, hM, ScM, zOk, inL, eq_self, used_is, sc_any, sc_c, sc_pp, sc_ref, sc_row, sc_agg, sc_tup, sc_fn, ScL, some_imp, List.forall_mem_map, Nat.le_refl, go_sem, simprocAttr]) (by simp only [ bA_len, bA_sc, rA_len, rA_sc, hM, ScM, zOk, inL, eq_self, used_is, sc_any, sc_c, sc_pp, sc_ref, sc_row, sc_agg, sc_tup, sc_fn, ScL, some_imp, List.forall_mem_map, Nat.le_refl, go_sem, simprocAttr]) (by simp only [ bA_len, bA_sc, rA_len, rA_sc, hM, ScM, zOk, inL, eq_self, used_is, sc_any, sc_c, sc_pp, sc_ref, sc_row, sc_agg, sc_tup, sc_fn, ScL, some_imp, List.forall_mem_map, Nat.le_refl, go_sem, simprocAttr]) (by simp) fun hb hbL => ?_
  clear hb hbL
  refine walkBF (And.intro @bA_len (And.intro @rA_len (And.intro hM (And.intro hxp (And.intro @ncells_mk k8))))) ?_
  refine walkC (hNm) ?_
  refine walkBF (And.intro @bA_len (And.intro @rA_len (And.intro hM (And.intro hme @str_eq)))) ?_
  ((refine AO.step fun K hK => ?_; simp only [go_sem, Int.reduceBEq, Int.reduceLE, Int.reduceLT, Int.reduceNeg, Nat.reduceAdd, Nat.reduceEqDiff, Nat.reduceLT, Nat.reduceLeDiff, Nat.reduceMul, Nat.reduceSub, reduceCtorEq, ↓reduceIte, bA_len, bA_ren, rA_len, rA_ren, hM]; (first | refine gsel_go ?_ | skip)); refine .inr (.inr (.inl ⟨?vy1, [1000000, 1000001, 1000002], ?va1, ?vl1, ?vm1, ?cond1, ?cont1⟩)); (case cond1 => ((repeat' apply And.intro) <;> (try ((with_reducible show ToldM _ _ _ _ _ _); exact pQ))); (all_goals first | trivial | (simp only [bA_len, bA_ren, rA_len, rA_ren, hM, go_sem, simprocAttr]; done) | (simp; done) | rfl)); (first | refine hK _ _ _ ?_ | (simp only [bA_len, bA_ren, rA_len, rA_ren, hM, go_sem, simprocAttr]; first | refine hK _ _ _ ?_ | refine ⟨rfl, hK _ _ _ ?_⟩)); clear hK K)
  refine walkBF (And.intro @bA_len (And.intro @bA_ren (And.intro @rA_len (And.intro @rA_ren hM)))) ?_
  refine ⟨by first | exact .inr rfl | exact .inl rfl, ?_⟩; rw [Tryz.results112]; simp only [bA_ren, bA_len, rA_len, rA_ren, hM, resOk, resV, go_sem, Int.reduceBEq, Int.reduceLE, Int.reduceLT, Int.reduceNeg, Nat.reduceAdd, Nat.reduceEqDiff, Nat.reduceLT, Nat.reduceLeDiff, Nat.reduceMul, Nat.reduceSub, reduceCtorEq, ↓reduceIte]
set_option maxRecDepth 100000 in
set_option maxHeartbeats 6400000 in
theorem cnode_told (ns : List NT) (r : Int) (hk : PutOk ns) (hns : ns.length ≤ 1000000) : ∀ (d : Nat) (k : Int) (p : Nat), KidOk ns d k p → ∀ (l L : List UInt8), L = l ++ (formN ns d k.toNat p).1 → L.length ≤ 500000000 →
    ToldM Tryz.prog 112 [.ref 1000000 1 0 0, .c (.v (.int .i64 k))] [fB ns r ns.length l.length, mB (metL ns p), bB l] [some (fB ns r ns.length L.length), some (mB (metL ns (formN ns d k.toNat p).2)), some (bB L)] (.tup []) := by
  intro d
  induction d with
  | zero =>
    intro k p hkid l L hL hO
    obtain ⟨q, rfl⟩ : ∃ q : Nat, k = (q : Int) := ⟨k.toNat, by have := hkid.1; omega⟩
    rw [Int.toNat_natCast] at hL ⊢
    obtain ⟨h0, h | ⟨hlt, hnm⟩⟩ := hkid
    · have h := h.2
      rw [walkM] at h
      simp at h
    · rw [Int.toNat_natCast] at hlt hnm
      exact cnode_met ns r hk 0 q p hlt hnm l L hL hO
  | succ d ih =>
  intro k p hkid l L hL hO
  obtain ⟨q, rfl⟩ : ∃ q : Nat, k = (q : Int) := ⟨k.toNat, by have := hkid.1; omega⟩
  rw [Int.toNat_natCast] at hL ⊢
  obtain ⟨h0, h | h⟩ := hkid
  rotate_left
  · rw [Int.toNat_natCast] at h
    exact cnode_met ns r hk (d + 1) q p h.1 h.2 l L hL hO
  obtain ⟨hqp, hw⟩ := h
  rw [Int.toNat_natCast] at hqp
  subst hqp
  rw [walkM] at hw
  obtain ⟨n, hn⟩ : ∃ n, ns[q]? = some n := by
    cases hq : ns[q]? with
    | none => rw [hq] at hw; simp at hw
    | some n => exact ⟨n, rfl⟩
  rw [hn] at hw
  simp only [] at hw
  have hq1 := (List.getElem?_eq_some_iff.1 hn).1
  obtain ⟨⟨k1, k2⟩, hnl, ⟨hf1, hf2⟩, ⟨hs1, hs2⟩, hbl, hz1, hz2⟩ := hk n (List.mem_of_getElem? hn)
  have hpl := (walkK_place (form_place ns d) (kidsN n) (q + 1) _ (Prod.ext hw rfl)).2
  clear hw
  rw [formN_new ns d q n hn] at hL ⊢
  simp only [] at hL ⊢
  rw [← bodyF_app] at hL
  obtain ⟨P, hP⟩ : ∃ P : Nat → Nat, P = fun i => placeF (formN ns d) ((kidsN n).take i) (q + 1) := ⟨_, rfl⟩
  obtain ⟨X, hX⟩ : ∃ X, X = kidF (formN ns d) (kidsN n) (q + 1) := ⟨_, rfl⟩
  have hP0 : P 0 = q + 1 := by rw [hP]; rfl
  have hPe : placeF (formN ns d) (kidsN n) (q + 1) = P (kidsN n).length := by
    rw [hP]
    simp only []
    rw [List.take_length]
  have hT : ∀ (i : Nat) (k : Int), (kidsN n)[i]? = some k → ∀ l : List UInt8, (l ++ X i).length ≤ 500000000 →
      ToldM Tryz.prog 112 [.ref 1000000 1 0 0, .c (.v (.int .i64 k))] [fB ns r ns.length l.length, mB (metL ns (P i)), bB l] [some (fB ns r ns.length (l ++ X i).length), some (mB (metL ns (P (i + 1)))), some (bB (l ++ X i))] (.tup []) := fun i k hki l hl => by
    have e1 : X i = (formN ns d k.toNat (P i)).1 := by rw [hX, kidF, hki, hP]
    have e2 : P (i + 1) = (formN ns d k.toNat (P i)).2 := by rw [hP]; exact placeF_take _ _ _ _ _ hki
    rw [e1] at hl ⊢
    rw [e2]
    have := hpl i k hki
    rw [show placeF (formN ns d) ((kidsN n).take i) (q + 1) = P i by rw [hP]] at this
    exact ih k (P i) this l _ rfl hl
  rw [hPe]
  rw [← hX] at hL
  clear hP hX hPe hpl ih
  have hxp : (ns.map NT.cells)[q]? = some n.cells := by rw [List.getElem?_map, hn]; rfl
  by_cases h8 : n.kind ≤ 8
  · have hnm : namedK n.kind = false := by
      cases hb : namedK n.kind with
      | false => rfl
      | true =>
        simp only [namedK, Bool.or_eq_true, beq_iff_eq] at hb
        omega
    have hkn : kidsN n = [] := by unfold kidsN; rw [if_neg (by omega), if_neg (by omega), if_neg (by omega)]
    rw [hkn, List.length_nil, hP0, metL_plain hn hnm]
    obtain ⟨u, hu⟩ : ∃ u : Nat, n.kind = (u : Int) := ⟨n.kind.toNat, by omega⟩
    unfold bodyF at hL
    rw [if_neg (by omega), if_neg (by omega), if_neg (by omega), if_neg (by omega), if_neg (by omega), if_neg (by omega), hu, Int.toNat_natCast] at hL
    simp only [putsF] at hL
    have hWd := word_told u (by omega)
    have hl0 : l.length ≤ 500000000 := by rw [hL] at hO; simp at hO; omega
    have hwl : (wordM u).length ≤ 100 := by
      have : ∀ x : Fin 15, (wordM x.val).length ≤ 100 := by decide
      exact this ⟨u, by omega⟩
    have pQ := fquote_told ns r (metL ns q) l (wordM u) (by omega) (by omega)
    rw [← hL, metL_len] at pQ
    have hM := metL_len ns q
    generalize metL ns q = M at *
    generalize wordM u = w at *
    have k8 : decide ((u : Int) ≤ 8) = true := by simp; omega
    simp only [fB, mB, bB, str] at pQ
    unfold str at hWd
    unfold fB mB bB
    refine VC.toldM ent_112 [] Tryz.func112 rfl Tryz.ntmps112 (by simp) (by simp only [ bA_len, bA_sc, rA_len, rA_sc, hM, ScM, zOk, inL, eq_self, used_is, sc_any, sc_c, sc_pp, sc_ref, sc_row, sc_agg, sc_tup, sc_fn, ScL, some_imp, List.forall_mem_map, Nat.le_refl, go_sem, simprocAttr]) (by simp only [ bA_len, bA_sc, rA_len, rA_sc, hM, ScM, zOk, inL, eq_self, used_is, sc_any, sc_c, sc_pp, sc_ref, sc_row, sc_agg, sc_tup, sc_fn, ScL, some_imp, List.forall_mem_map, Nat.le_refl, go_sem, simprocAttr]) (by simp only [ bA_len, bA_sc, rA_len, rA_sc, hM, ScM, zOk, inL, eq_self, used_is, sc_any, sc_c, sc_pp, sc_ref, sc_row, sc_agg, sc_tup, sc_fn, ScL, some_imp, List.forall_mem_map, Nat.le_refl, go_sem, simprocAttr]) (by simp only [ bA_len, bA_sc, rA_len, rA_sc, hM, ScM, zOk, inL, eq_self, used_is, sc_any, sc_c, sc_pp, sc_ref, sc_row, sc_agg, sc_tup, sc_fn, ScL, some_imp, List.forall_mem_map, Nat.le_refl, go_sem, simprocAttr]) (by simp) fun hb hbL => ?_
    clear hb hbL
    refine walkBF (And.intro @bA_len (And.intro @rA_len (And.intro hM (And.intro hxp (And.intro @ncells_mk (And.intro hu k8)))))) ?_
    refine walkC (hWd) ?_
    refine walkBF (And.intro @bA_len (And.intro @rA_len hM)) ?_
    ((refine AO.step fun K hK => ?_; simp only [go_sem, Int.reduceBEq, Int.reduceLE, Int.reduceLT, Int.reduceNeg, Nat.reduceAdd, Nat.reduceEqDiff, Nat.reduceLT, Nat.reduceLeDiff, Nat.reduceMul, Nat.reduceSub, reduceCtorEq, ↓reduceIte, bA_len, bA_ren, rA_len, rA_ren, hM]; (first | refine gsel_go ?_ | skip)); refine .inr (.inr (.inl ⟨?vy2, [1000000, 1000001, 1000002], ?va2, ?vl2, ?vm2, ?cond2, ?cont2⟩)); (case cond2 => ((repeat' apply And.intro) <;> (try ((with_reducible show ToldM _ _ _ _ _ _); exact pQ))); (all_goals first | trivial | (simp only [bA_len, bA_ren, rA_len, rA_ren, hM, go_sem, simprocAttr]; done) | (simp; done) | rfl)); (first | refine hK _ _ _ ?_ | (simp only [bA_len, bA_ren, rA_len, rA_ren, hM, go_sem, simprocAttr]; first | refine hK _ _ _ ?_ | refine ⟨rfl, hK _ _ _ ?_⟩)); clear hK K)
    refine walkBF (And.intro @bA_len (And.intro @bA_ren (And.intro @rA_len (And.intro @rA_ren hM)))) ?_
    refine ⟨by first | exact .inr rfl | exact .inl rfl, ?_⟩; rw [Tryz.results112]; simp only [bA_ren, bA_len, rA_len, rA_ren, hM, resOk, resV, go_sem, Int.reduceBEq, Int.reduceLE, Int.reduceLT, Int.reduceNeg, Nat.reduceAdd, Nat.reduceEqDiff, Nat.reduceLT, Nat.reduceLeDiff, Nat.reduceMul, Nat.reduceSub, reduceCtorEq, ↓reduceIte]
  have k8 : decide (n.kind ≤ 8) = false := by simp; omega
  have hNm := named_told n.kind
  by_cases hnm : namedK n.kind = true
  · rw [hnm] at hNm
    have hat := metL_at hn q
    rw [hnm] at hat
    have hme : (rA blP (metL ns q))[q]? = some [.c (.v (.bool false))] := by
      rw [rA_at hat]
      simp [blP]
    have hst : (rA blP (metL ns q)).set q [.c (.v (.bool true))] = rA blP (metL ns (q + 1)) := by
      rw [metL_mark hn hnm, ← rA_set]
      rfl
    have hnd : ToldM Tryz.prog 192 [.ref 1000000 1 0 0, n.av] [fB ns r ns.length l.length, mB (metL ns (q + 1)), bB l] [some (fB ns r ns.length L.length), some (mB (metL ns (P (kidsN n).length))), some (bB L)] (.tup []) := by
      simp only [namedK, Bool.or_eq_true, beq_iff_eq] at hnm
      unfold bodyF at hL
      by_cases h9 : n.kind = 9
      · rw [if_pos h9] at hL
        have hkn : kidsN n = n.fields.map (·.type) := by unfold kidsN; rw [if_pos h9]
        rw [hkn] at hT ⊢
        rw [List.length_map, ← hP0]
        exact named_rec ns r ns.length n h9 hnl hf1 hf2 (fun i => metL ns (P i)) (fun i => metL_len ns (P i)) X (fun i f hf l hl => hT i f.type (by rw [List.getElem?_map, hf]; rfl) l hl) l L hL hO
      rw [if_neg h9] at hL
      have hkn : kidsN n = [] := by unfold kidsN; rw [if_neg h9, if_neg (by omega), if_neg (by omega)]
      rw [hkn, List.length_nil, hP0]
      by_cases h10 : n.kind = 10
      · rw [if_pos h10] at hL
        exact named_enum ns r ns.length n h10 hnl hs1 hs2 (metL ns (q + 1)) (metL_len ns (q + 1)) l L hL hO
      · rw [if_neg h10, if_pos (by omega)] at hL
        exact named_fixed ns r ns.length n (by omega) hnl hz1 hz2 (metL ns (q + 1)) (metL_len ns (q + 1)) l L hL hO
    have hM := metL_len ns q
    have hM1 := metL_len ns (q + 1)
    have hM2 := metL_len ns (P (kidsN n).length)
    generalize metL ns (q + 1) = M1 at *
    generalize metL ns (P (kidsN n).length) = M2 at *
    generalize metL ns q = M at *
    rw [NT.av_eq, ncells_mk] at hnd
    simp only [fB, mB, bB, str] at hnd
    clear hT
    unfold fB mB bB
    refine VC.toldM ent_112 [] Tryz.func112 rfl Tryz.ntmps112 (by simp) (by simp only [ bA_len, bA_sc, rA_len, rA_sc, hM, hM2, ScM, zOk, inL, eq_self, used_is, sc_any, sc_c, sc_pp, sc_ref, sc_row, sc_agg, sc_tup, sc_fn, ScL, some_imp, List.forall_mem_map, Nat.le_refl, go_sem, simprocAttr]) (by simp only [ bA_len, bA_sc, rA_len, rA_sc, hM, hM2, ScM, zOk, inL, eq_self, used_is, sc_any, sc_c, sc_pp, sc_ref, sc_row, sc_agg, sc_tup, sc_fn, ScL, some_imp, List.forall_mem_map, Nat.le_refl, go_sem, simprocAttr]) (by simp only [ bA_len, bA_sc, rA_len, rA_sc, hM, hM2, ScM, zOk, inL, eq_self, used_is, sc_any, sc_c, sc_pp, sc_ref, sc_row, sc_agg, sc_tup, sc_fn, ScL, some_imp, List.forall_mem_map, Nat.le_refl, go_sem, simprocAttr]) (by simp only [ bA_len, bA_sc, rA_len, rA_sc, hM, hM2, ScM, zOk, inL, eq_self, used_is, sc_any, sc_c, sc_pp, sc_ref, sc_row, sc_agg, sc_tup, sc_fn, ScL, some_imp, List.forall_mem_map, Nat.le_refl, go_sem, simprocAttr]) (by simp) fun hb hbL => ?_
    clear hb hbL
    refine walkBF (And.intro @bA_len (And.intro @rA_len (And.intro hM (And.intro hxp (And.intro @ncells_mk k8))))) ?_
    refine walkC (hNm) ?_
    refine walkBF (And.intro @bA_len (And.intro @rA_len (And.intro hM hme))) ?_
    refine walkC (hNm) ?_
    refine walkBF (And.intro @bA_len (And.intro @rA_len (And.intro hM (And.intro hme hst)))) ?_
    ((refine AO.step fun K hK => ?_; simp only [go_sem, Int.reduceBEq, Int.reduceLE, Int.reduceLT, Int.reduceNeg, Nat.reduceAdd, Nat.reduceEqDiff, Nat.reduceLT, Nat.reduceLeDiff, Nat.reduceMul, Nat.reduceSub, reduceCtorEq, ↓reduceIte, bA_len, bA_ren, rA_len, rA_ren, hM, hM1, hM2]; (first | refine gsel_go ?_ | skip)); refine .inr (.inr (.inl ⟨?vy3, [1000000, 1000001, 1000002], ?va3, ?vl3, ?vm3, ?cond3, ?cont3⟩)); (case cond3 => ((repeat' apply And.intro) <;> (try ((with_reducible show ToldM _ _ _ _ _ _); exact hnd))); (all_goals first | trivial | (simp only [bA_len, bA_ren, rA_len, rA_ren, hM, hM1, hM2, go_sem, simprocAttr]; done) | (simp; done) | rfl)); (first | refine hK _ _ _ ?_ | (simp only [bA_len, bA_ren, rA_len, rA_ren, hM, hM1, hM2, go_sem, simprocAttr]; first | refine hK _ _ _ ?_ | refine ⟨rfl, hK _ _ _ ?_⟩)); clear hK K)
    refine walkBF (And.intro @bA_len (And.intro @bA_ren (And.intro @rA_len (And.intro @rA_ren (And.intro hM (And.intro hM1 hM2)))))) ?_
    refine ⟨by first | exact .inr rfl | exact .inl rfl, ?_⟩; rw [Tryz.results112]; simp only [bA_ren, bA_len, rA_len, rA_ren, hM, hM1, hM2, resOk, resV, go_sem, Int.reduceBEq, Int.reduceLE, Int.reduceLT, Int.reduceNeg, Nat.reduceAdd, Nat.reduceEqDiff, Nat.reduceLT, Nat.reduceLeDiff, Nat.reduceMul, Nat.reduceSub, reduceCtorEq, ↓reduceIte]
  have hnm' : namedK n.kind = false := by simpa using hnm
  rw [hnm'] at hNm
  rw [← metL_plain hn hnm', ← hP0]
  simp only [namedK, Bool.or_eq_true, beq_iff_eq] at hnm
  obtain ⟨M, hMd⟩ : ∃ M : Nat → List Bool, M = fun i => metL ns (P i) := ⟨_, rfl⟩
  have hM : ∀ i, (M i).length = ns.length := fun i => by rw [hMd]; exact metL_len _ _
  rw [show metL ns (P 0) = M 0 by rw [hMd], show metL ns (P (kidsN n).length) = M (kidsN n).length by rw [hMd]]
  replace hT : ∀ (i : Nat) (k : Int), (kidsN n)[i]? = some k → ∀ l : List UInt8, (l ++ X i).length ≤ 500000000 →
      ToldM Tryz.prog 112 [.ref 1000000 1 0 0, .c (.v (.int .i64 k))] [fB ns r ns.length l.length, mB (M i), bB l] [some (fB ns r ns.length (l ++ X i).length), some (mB (M (i + 1))), some (bB (l ++ X i))] (.tup []) := by
    rw [hMd]
    exact hT
  clear hMd hP0
  unfold bodyF at hL
  rw [if_neg (by omega), if_neg (by omega), if_neg (by omega)] at hL
  by_cases h13 : n.kind = 13
  · rw [if_pos h13] at hL
    have hkn : kidsN n = n.branches := by unfold kidsN; rw [if_neg (by omega), if_neg (by omega), if_pos h13]
    rw [hkn] at hT ⊢
    simp only [putsF] at hL
    obtain ⟨l5, hl5⟩ : ∃ l5, l5 = l ++ [91] := ⟨_, rfl⟩
    rw [← hl5] at hL
    obtain ⟨A, hA⟩ : ∃ A, A = brsF l5 X n.branches.length := ⟨_, rfl⟩
    rw [← hA] at hL
    have hAl := brsF_le l5 X (Nat.zero_le n.branches.length)
    rw [← hA, brsF] at hAl
    have bA' : A.length ≤ 500000000 := by rw [hL] at hO; simp at hO; omega
    have b0 : l.length ≤ 500000000 := by rw [hl5] at hAl; simp at hAl; omega
    have p1 := fput_told ns r (M 0) l [91] (by omega) (by decide)
    have p6 := fput_told ns r (M n.branches.length) A [93] (by omega) (by decide)
    rw [← hl5, hM] at p1
    rw [← hL, hM] at p6
    clear hl5 hL
    simp only [fB, mB, bB, str] at p1 p6
    rw [h13] at hNm k8
    unfold fB mB bB
    refine VC.toldM ent_112 [] Tryz.func112 rfl Tryz.ntmps112 (by simp) (by simp only [ bA_len, bA_sc, rA_len, rA_sc, hM, ScM, zOk, inL, eq_self, used_is, sc_any, sc_c, sc_pp, sc_ref, sc_row, sc_agg, sc_tup, sc_fn, ScL, some_imp, List.forall_mem_map, Nat.le_refl, go_sem, simprocAttr]) (by simp only [ bA_len, bA_sc, rA_len, rA_sc, hM, ScM, zOk, inL, eq_self, used_is, sc_any, sc_c, sc_pp, sc_ref, sc_row, sc_agg, sc_tup, sc_fn, ScL, some_imp, List.forall_mem_map, Nat.le_refl, go_sem, simprocAttr]) (by simp only [ bA_len, bA_sc, rA_len, rA_sc, hM, ScM, zOk, inL, eq_self, used_is, sc_any, sc_c, sc_pp, sc_ref, sc_row, sc_agg, sc_tup, sc_fn, ScL, some_imp, List.forall_mem_map, Nat.le_refl, go_sem, simprocAttr]) (by simp only [ bA_len, bA_sc, rA_len, rA_sc, hM, ScM, zOk, inL, eq_self, used_is, sc_any, sc_c, sc_pp, sc_ref, sc_row, sc_agg, sc_tup, sc_fn, ScL, some_imp, List.forall_mem_map, Nat.le_refl, go_sem, simprocAttr]) (by simp) fun hb hbL => ?_
    clear hb hbL
    refine walkBF (And.intro @bA_len (And.intro @rA_len (And.intro hM (And.intro hxp (And.intro @ncells_mk h13))))) ?_
    refine walkC (hNm) ?_
    refine walkBF (And.intro @bA_len (And.intro @rA_len hM)) ?_
    refine walkC (hNm) ?_
    refine walkBF (And.intro @bA_len (And.intro @rA_len hM)) ?_
    ((refine AO.step fun K hK => ?_; simp only [go_sem, Int.reduceBEq, Int.reduceLE, Int.reduceLT, Int.reduceNeg, Nat.reduceAdd, Nat.reduceEqDiff, Nat.reduceLT, Nat.reduceLeDiff, Nat.reduceMul, Nat.reduceSub, reduceCtorEq, ↓reduceIte, bA_len, bA_ren, rA_len, rA_ren, hM]; (first | refine gsel_go ?_ | skip)); refine .inr (.inr (.inl ⟨?vy4, [1000000, 1000001, 1000002], ?va4, ?vl4, ?vm4, ?cond4, ?cont4⟩)); (case cond4 => ((repeat' apply And.intro) <;> (try ((with_reducible show ToldM _ _ _ _ _ _); exact p1))); (all_goals first | trivial | (simp only [bA_len, bA_ren, rA_len, rA_ren, hM, go_sem, simprocAttr]; done) | (simp; done) | rfl)); (first | refine hK _ _ _ ?_ | (simp only [bA_len, bA_ren, rA_len, rA_ren, hM, go_sem, simprocAttr]; first | refine hK _ _ _ ?_ | refine ⟨rfl, hK _ _ _ ?_⟩)); clear hK K)
    refine walkGF (And.intro @bA_len (And.intro @bA_ren (And.intro @rA_len (And.intro @rA_ren (And.intro hM @ncells_mk))))) ?_
    refine VC.loop (ι := {i : Nat // i ≤ n.branches.length}) (fun q => [(0, .ref 1000000 1 0 0), (4, .ref 64 1 0 0), (69, .c (.sl 1 (n.branches.map iPV))), (70, .c (.v (.int .i64 (n.branches.length : Int)))), (71, .c (.v (.int .i64 (q.1 : Int))))])
      (fun q => [(64, ⟨false, 33, 10, [({n with kind := 13} : NT).cells.map .c]⟩), (1000000, fB ns r ns.length (brsF l5 X q.1).length), (1000001, mB (M q.1)), (1000002, bB (brsF l5 X q.1))]) 4000 (fun q => n.branches.length - q.1) ⟨0, Nat.zero_le _⟩ ?_ ?_
    · simp only [bA_len, bA_sc, rA_len, rA_sc, rA_ren, bA_ren, hM, brsF, fB, mB, bB, ncells_mk, Weak, eq_self, used_is, sc_any, sc_c, sc_pp, sc_ref, sc_row, sc_agg, sc_fn, ScL, some_imp, List.forall_mem_map, go_sem, Int.reduceBEq, Int.reduceLE, Int.reduceLT, Int.reduceNeg, Nat.reduceAdd, Nat.reduceEqDiff, Nat.reduceLT, Nat.reduceLeDiff, Nat.reduceMul, Nat.reduceSub, reduceCtorEq, ↓reduceIte]
      try simp
    rintro ⟨i, hi⟩
    simp only [fB, mB, bB]
    refine walkGF (And.intro @bA_len (And.intro @rA_len hM)) ?_
    refine VC.cond (by rfl) (by trivial) (fun hc2 => ?_) (fun hc2 => ?_)
    rotate_left
    · obtain rfl : i = n.branches.length := by simp at hc2; omega
      rw [← hA]
      refine walkGF (And.intro @bA_len (And.intro @rA_len hM)) ?_
      ((refine AO.step fun K hK => ?_; simp only [go_sem, Int.reduceBEq, Int.reduceLE, Int.reduceLT, Int.reduceNeg, Nat.reduceAdd, Nat.reduceEqDiff, Nat.reduceLT, Nat.reduceLeDiff, Nat.reduceMul, Nat.reduceSub, reduceCtorEq, ↓reduceIte, bA_len, bA_ren, rA_len, rA_ren, hM]; (first | refine gsel_go ?_ | skip)); refine .inr (.inr (.inl ⟨?vy5, [1000000, 1000001, 1000002], ?va5, ?vl5, ?vm5, ?cond5, ?cont5⟩)); (case cond5 => ((repeat' apply And.intro) <;> (try ((with_reducible show ToldM _ _ _ _ _ _); exact p6))); (all_goals first | trivial | (simp only [bA_len, bA_ren, rA_len, rA_ren, hM, go_sem, simprocAttr]; done) | (simp; done) | rfl)); (first | refine hK _ _ _ ?_ | (simp only [bA_len, bA_ren, rA_len, rA_ren, hM, go_sem, simprocAttr]; first | refine hK _ _ _ ?_ | refine ⟨rfl, hK _ _ _ ?_⟩)); clear hK K)
      refine walkBF (And.intro @bA_len (And.intro @bA_ren (And.intro @rA_len (And.intro @rA_ren hM)))) ?_
      refine ⟨by first | exact .inr rfl | exact .inl rfl, ?_⟩; rw [Tryz.results112]; simp only [bA_ren, bA_len, rA_len, rA_ren, hM, resOk, resV, go_sem, Int.reduceBEq, Int.reduceLE, Int.reduceLT, Int.reduceNeg, Nat.reduceAdd, Nat.reduceEqDiff, Nat.reduceLT, Nat.reduceLeDiff, Nat.reduceMul, Nat.reduceSub, reduceCtorEq, ↓reduceIte]
    have hlt : i < n.branches.length := by simp at hc2; omega
    obtain ⟨f, hx⟩ : ∃ f, n.branches[i]? = some f := ⟨n.branches[i], List.getElem?_eq_getElem hlt⟩
    have hxq : (n.branches.map iPV)[i]? = some (iPV f) := by rw [List.getElem?_map, hx]; rfl
    have hw : IntKind.i64.wrap ((i : Int) + 1) = (i : Int) + 1 := wrap64_id (by omega) (by omega)
    have hB := brsF_le l5 X (show i + 1 ≤ n.branches.length by omega)
    rw [← hA] at hB
    have hS : brsF l5 X (i + 1) = putsF (brsF l5 X i) [commaM i, X i] := rfl
    obtain ⟨a0, ha0⟩ : ∃ a0, a0 = brsF l5 X i := ⟨_, rfl⟩
    obtain ⟨Z, hZ⟩ : ∃ Z, Z = brsF l5 X (i + 1) := ⟨_, rfl⟩
    rw [← ha0]
    rw [← ha0, ← hZ] at hS
    rw [← hZ] at hB
    simp only [putsF] at hS
    obtain ⟨a1, ha1⟩ : ∃ a1, a1 = a0 ++ commaM i := ⟨_, rfl⟩
    rw [← ha1] at hS
    have c1 : a1.length ≤ 500000000 := by rw [hS] at hB; simp at hB; omega
    have c0 : a0.length ≤ 500000000 := by rw [ha1] at c1; simp at c1; omega
    have q0 := fcomma_told ns r (M i) a0 (by omega) i
    have q1 := hT i f hx a1 (by rw [← hS]; omega)
    rw [← ha1, hM] at q0
    rw [← hS] at q1
    clear hS ha1 p1 p6 hT
    simp only [fB, mB, bB] at q0 q1
    refine walkGF (And.intro @ncells_mk (And.intro hxq (And.intro @iPV_eq (And.intro @bA_len (And.intro @rA_len hM))))) ?_
    ((refine AO.step fun K hK => ?_; simp only [go_sem, Int.reduceBEq, Int.reduceLE, Int.reduceLT, Int.reduceNeg, Nat.reduceAdd, Nat.reduceEqDiff, Nat.reduceLT, Nat.reduceLeDiff, Nat.reduceMul, Nat.reduceSub, reduceCtorEq, ↓reduceIte, bA_len, bA_ren, rA_len, rA_ren, hM]; (first | refine gsel_go ?_ | skip)); refine .inr (.inr (.inl ⟨?vy6, [1000000, 1000001, 1000002], ?va6, ?vl6, ?vm6, ?cond6, ?cont6⟩)); (case cond6 => ((repeat' apply And.intro) <;> (try ((with_reducible show ToldM _ _ _ _ _ _); exact q0))); (all_goals first | trivial | (simp only [bA_len, bA_ren, rA_len, rA_ren, hM, go_sem, simprocAttr]; done) | (simp; done) | rfl)); (first | refine hK _ _ _ ?_ | (simp only [bA_len, bA_ren, rA_len, rA_ren, hM, go_sem, simprocAttr]; first | refine hK _ _ _ ?_ | refine ⟨rfl, hK _ _ _ ?_⟩)); clear hK K)
    refine walkGF (And.intro @bA_len (And.intro @bA_ren (And.intro @rA_len (And.intro @rA_ren hM)))) ?_
    ((refine AO.step fun K hK => ?_; simp only [go_sem, Int.reduceBEq, Int.reduceLE, Int.reduceLT, Int.reduceNeg, Nat.reduceAdd, Nat.reduceEqDiff, Nat.reduceLT, Nat.reduceLeDiff, Nat.reduceMul, Nat.reduceSub, reduceCtorEq, ↓reduceIte, bA_len, bA_ren, rA_len, rA_ren, hM]; (first | refine gsel_go ?_ | skip)); refine .inr (.inr (.inl ⟨?vy7, [1000000, 1000001, 1000002], ?va7, ?vl7, ?vm7, ?cond7, ?cont7⟩)); (case cond7 => ((repeat' apply And.intro) <;> (try ((with_reducible show ToldM _ _ _ _ _ _); exact q1))); (all_goals first | trivial | (simp only [bA_len, bA_ren, rA_len, rA_ren, hM, go_sem, simprocAttr]; done) | (simp; done) | rfl)); (first | refine hK _ _ _ ?_ | (simp only [bA_len, bA_ren, rA_len, rA_ren, hM, go_sem, simprocAttr]; first | refine hK _ _ _ ?_ | refine ⟨rfl, hK _ _ _ ?_⟩)); clear hK K)
    refine walkGF (And.intro @bA_len (And.intro @bA_ren (And.intro @rA_len (And.intro @rA_ren (And.intro hM hw))))) ?_
    refine .next ⟨i + 1, by omega⟩ ?_ (by simp only []; omega)
    simp only [← hZ]
    simp only [bA_len, bA_sc, rA_len, rA_sc, rA_ren, bA_ren, hM, fB, mB, bB, ncells_mk, Weak, eq_self, used_is, sc_any, sc_c, sc_pp, sc_ref, sc_row, sc_agg, sc_fn, ScL, some_imp, List.forall_mem_map, go_sem, Int.reduceBEq, Int.reduceLE, Int.reduceLT, Int.reduceNeg, Nat.reduceAdd, Nat.reduceEqDiff, Nat.reduceLT, Nat.reduceLeDiff, Nat.reduceMul, Nat.reduceSub, reduceCtorEq, ↓reduceIte]
    exact ⟨cI (by omega), Nat.le_refl _, Nat.le_refl _⟩
  rw [if_neg h13] at hL
  have hkn : kidsN n = [n.items] := by unfold kidsN; rw [if_neg (by omega), if_pos (by omega)]
  rw [hkn] at hT ⊢
  have hT := hT 0 n.items rfl
  rw [List.length_singleton]
  have j13 : (n.kind == 13) = false := by simpa using h13
  by_cases h11 : n.kind = 11
  · rw [if_pos h11] at hL
    simp only [putsF] at hL
    obtain ⟨l1, hl1⟩ : ∃ l1, l1 = l ++ jArr := ⟨_, rfl⟩
    obtain ⟨l2, hl2⟩ : ∃ l2, l2 = l1 ++ X 0 := ⟨_, rfl⟩
    rw [← hl1, ← hl2] at hL
    have b2 : l2.length ≤ 500000000 := by rw [hL] at hO; simp at hO; omega
    have b1 : l1.length ≤ 500000000 := by rw [hl2] at b2; simp at b2; omega
    have b0 : l.length ≤ 500000000 := by rw [hl1] at b1; simp at b1; omega
    have p1 := fput_told ns r (M 0) l jArr (by omega) (by decide)
    have p2 := hT l1 (by rw [← hl2]; exact b2)
    have p3 := fput_told ns r (M (0 + 1)) l2 [125] (by omega) (by decide)
    rw [← hl1, hM] at p1
    rw [← hl2] at p2
    rw [← hL, hM] at p3
    clear hT hl1 hl2 hL
    simp only [fB, mB, bB, str, jArr] at p1 p2 p3
    rw [h11] at hNm
    unfold fB mB bB
    refine VC.toldM ent_112 [] Tryz.func112 rfl Tryz.ntmps112 (by simp) (by simp only [ bA_len, bA_sc, rA_len, rA_sc, hM, ScM, zOk, inL, eq_self, used_is, sc_any, sc_c, sc_pp, sc_ref, sc_row, sc_agg, sc_tup, sc_fn, ScL, some_imp, List.forall_mem_map, Nat.le_refl, go_sem, simprocAttr]) (by simp only [ bA_len, bA_sc, rA_len, rA_sc, hM, ScM, zOk, inL, eq_self, used_is, sc_any, sc_c, sc_pp, sc_ref, sc_row, sc_agg, sc_tup, sc_fn, ScL, some_imp, List.forall_mem_map, Nat.le_refl, go_sem, simprocAttr]) (by simp only [ bA_len, bA_sc, rA_len, rA_sc, hM, ScM, zOk, inL, eq_self, used_is, sc_any, sc_c, sc_pp, sc_ref, sc_row, sc_agg, sc_tup, sc_fn, ScL, some_imp, List.forall_mem_map, Nat.le_refl, go_sem, simprocAttr]) (by simp only [ bA_len, bA_sc, rA_len, rA_sc, hM, ScM, zOk, inL, eq_self, used_is, sc_any, sc_c, sc_pp, sc_ref, sc_row, sc_agg, sc_tup, sc_fn, ScL, some_imp, List.forall_mem_map, Nat.le_refl, go_sem, simprocAttr]) (by simp) fun hb hbL => ?_
    clear hb hbL
    refine walkBF (And.intro @bA_len (And.intro @rA_len (And.intro hM (And.intro hxp (And.intro @ncells_mk h11))))) ?_
    refine walkC (hNm) ?_
    refine walkBF (And.intro @bA_len (And.intro @rA_len hM)) ?_
    refine walkC (hNm) ?_
    refine walkBF (And.intro @bA_len (And.intro @rA_len hM)) ?_
    ((refine AO.step fun K hK => ?_; simp only [go_sem, Int.reduceBEq, Int.reduceLE, Int.reduceLT, Int.reduceNeg, Nat.reduceAdd, Nat.reduceEqDiff, Nat.reduceLT, Nat.reduceLeDiff, Nat.reduceMul, Nat.reduceSub, reduceCtorEq, ↓reduceIte, bA_len, bA_ren, rA_len, rA_ren, hM]; (first | refine gsel_go ?_ | skip)); refine .inr (.inr (.inl ⟨?vy8, [1000000, 1000001, 1000002], ?va8, ?vl8, ?vm8, ?cond8, ?cont8⟩)); (case cond8 => ((repeat' apply And.intro) <;> (try ((with_reducible show ToldM _ _ _ _ _ _); exact p1))); (all_goals first | trivial | (simp only [bA_len, bA_ren, rA_len, rA_ren, hM, go_sem, simprocAttr]; done) | (simp; done) | rfl)); (first | refine hK _ _ _ ?_ | (simp only [bA_len, bA_ren, rA_len, rA_ren, hM, go_sem, simprocAttr]; first | refine hK _ _ _ ?_ | refine ⟨rfl, hK _ _ _ ?_⟩)); clear hK K)
    refine walkBF (And.intro @bA_len (And.intro @bA_ren (And.intro @rA_len (And.intro @rA_ren (And.intro hM @ncells_mk))))) ?_
    ((refine AO.step fun K hK => ?_; simp only [go_sem, Int.reduceBEq, Int.reduceLE, Int.reduceLT, Int.reduceNeg, Nat.reduceAdd, Nat.reduceEqDiff, Nat.reduceLT, Nat.reduceLeDiff, Nat.reduceMul, Nat.reduceSub, reduceCtorEq, ↓reduceIte, bA_len, bA_ren, rA_len, rA_ren, hM]; (first | refine gsel_go ?_ | skip)); refine .inr (.inr (.inl ⟨?vy9, [1000000, 1000001, 1000002], ?va9, ?vl9, ?vm9, ?cond9, ?cont9⟩)); (case cond9 => ((repeat' apply And.intro) <;> (try ((with_reducible show ToldM _ _ _ _ _ _); exact p2))); (all_goals first | trivial | (simp only [bA_len, bA_ren, rA_len, rA_ren, hM, go_sem, simprocAttr]; done) | (simp; done) | rfl)); (first | refine hK _ _ _ ?_ | (simp only [bA_len, bA_ren, rA_len, rA_ren, hM, go_sem, simprocAttr]; first | refine hK _ _ _ ?_ | refine ⟨rfl, hK _ _ _ ?_⟩)); clear hK K)
    refine walkBF (And.intro @bA_len (And.intro @bA_ren (And.intro @rA_len (And.intro @rA_ren (And.intro hM @ncells_mk))))) ?_
    ((refine AO.step fun K hK => ?_; simp only [go_sem, Int.reduceBEq, Int.reduceLE, Int.reduceLT, Int.reduceNeg, Nat.reduceAdd, Nat.reduceEqDiff, Nat.reduceLT, Nat.reduceLeDiff, Nat.reduceMul, Nat.reduceSub, reduceCtorEq, ↓reduceIte, bA_len, bA_ren, rA_len, rA_ren, hM]; (first | refine gsel_go ?_ | skip)); refine .inr (.inr (.inl ⟨?vy10, [1000000, 1000001, 1000002], ?va10, ?vl10, ?vm10, ?cond10, ?cont10⟩)); (case cond10 => ((repeat' apply And.intro) <;> (try ((with_reducible show ToldM _ _ _ _ _ _); exact p3))); (all_goals first | trivial | (simp only [bA_len, bA_ren, rA_len, rA_ren, hM, go_sem, simprocAttr]; done) | (simp; done) | rfl)); (first | refine hK _ _ _ ?_ | (simp only [bA_len, bA_ren, rA_len, rA_ren, hM, go_sem, simprocAttr]; first | refine hK _ _ _ ?_ | refine ⟨rfl, hK _ _ _ ?_⟩)); clear hK K)
    refine walkBF (And.intro @bA_len (And.intro @bA_ren (And.intro @rA_len (And.intro @rA_ren hM)))) ?_
    refine ⟨by first | exact .inr rfl | exact .inl rfl, ?_⟩; rw [Tryz.results112]; simp only [bA_ren, bA_len, rA_len, rA_ren, hM, resOk, resV, go_sem, Int.reduceBEq, Int.reduceLE, Int.reduceLT, Int.reduceNeg, Nat.reduceAdd, Nat.reduceEqDiff, Nat.reduceLT, Nat.reduceLeDiff, Nat.reduceMul, Nat.reduceSub, reduceCtorEq, ↓reduceIte]
  rw [if_neg h11] at hL
  have h12 : n.kind = 12 := by omega
  rw [if_pos h12] at hL
  simp only [putsF] at hL
  obtain ⟨l1, hl1⟩ : ∃ l1, l1 = l ++ jMap := ⟨_, rfl⟩
  obtain ⟨l2, hl2⟩ : ∃ l2, l2 = l1 ++ X 0 := ⟨_, rfl⟩
  rw [← hl1, ← hl2] at hL
  have b2 : l2.length ≤ 500000000 := by rw [hL] at hO; simp at hO; omega
  have b1 : l1.length ≤ 500000000 := by rw [hl2] at b2; simp at b2; omega
  have b0 : l.length ≤ 500000000 := by rw [hl1] at b1; simp at b1; omega
  have p1 := fput_told ns r (M 0) l jMap (by omega) (by decide)
  have p2 := hT l1 (by rw [← hl2]; exact b2)
  have p3 := fput_told ns r (M (0 + 1)) l2 [125] (by omega) (by decide)
  rw [← hl1, hM] at p1
  rw [← hl2] at p2
  rw [← hL, hM] at p3
  clear hT hl1 hl2 hL
  simp only [fB, mB, bB, str, jMap] at p1 p2 p3
  rw [h12] at hNm
  unfold fB mB bB
  refine VC.toldM ent_112 [] Tryz.func112 rfl Tryz.ntmps112 (by simp) (by simp only [ bA_len, bA_sc, rA_len, rA_sc, hM, ScM, zOk, inL, eq_self, used_is, sc_any, sc_c, sc_pp, sc_ref, sc_row, sc_agg, sc_tup, sc_fn, ScL, some_imp, List.forall_mem_map, Nat.le_refl, go_sem, simprocAttr]) (by simp only [ bA_len, bA_sc, rA_len, rA_sc, hM, ScM, zOk, inL, eq_self, used_is, sc_any, sc_c, sc_pp, sc_ref, sc_row, sc_agg, sc_tup, sc_fn, ScL, some_imp, List.forall_mem_map, Nat.le_refl, go_sem, simprocAttr]) (by simp only [ bA_len, bA_sc, rA_len, rA_sc, hM, ScM, zOk, inL, eq_self, used_is, sc_any, sc_c, sc_pp, sc_ref, sc_row, sc_agg, sc_tup, sc_fn, ScL, some_imp, List.forall_mem_map, Nat.le_refl, go_sem, simprocAttr]) (by simp only [ bA_len, bA_sc, rA_len, rA_sc, hM, ScM, zOk, inL, eq_self, used_is, sc_any, sc_c, sc_pp, sc_ref, sc_row, sc_agg, sc_tup, sc_fn, ScL, some_imp, List.forall_mem_map, Nat.le_refl, go_sem, simprocAttr]) (by simp) fun hb hbL => ?_
  clear hb hbL
  refine walkBF (And.intro @bA_len (And.intro @rA_len (And.intro hM (And.intro hxp (And.intro @ncells_mk h12))))) ?_
  refine walkC (hNm) ?_
  refine walkBF (And.intro @bA_len (And.intro @rA_len hM)) ?_
  refine walkC (hNm) ?_
  refine walkBF (And.intro @bA_len (And.intro @rA_len hM)) ?_
  ((refine AO.step fun K hK => ?_; simp only [go_sem, Int.reduceBEq, Int.reduceLE, Int.reduceLT, Int.reduceNeg, Nat.reduceAdd, Nat.reduceEqDiff, Nat.reduceLT, Nat.reduceLeDiff, Nat.reduceMul, Nat.reduceSub, reduceCtorEq, ↓reduceIte, bA_len, bA_ren, rA_len, rA_ren, hM]; (first | refine gsel_go ?_ | skip)); refine .inr (.inr (.inl ⟨?vy11, [1000000, 1000001, 1000002], ?va11, ?vl11, ?vm11, ?cond11, ?cont11⟩)); (case cond11 => ((repeat' apply And.intro) <;> (try ((with_reducible show ToldM _ _ _ _ _ _); exact p1))); (all_goals first | trivial | (simp only [bA_len, bA_ren, rA_len, rA_ren, hM, go_sem, simprocAttr]; done) | (simp; done) | rfl)); (first | refine hK _ _ _ ?_ | (simp only [bA_len, bA_ren, rA_len, rA_ren, hM, go_sem, simprocAttr]; first | refine hK _ _ _ ?_ | refine ⟨rfl, hK _ _ _ ?_⟩)); clear hK K)
  refine walkBF (And.intro @bA_len (And.intro @bA_ren (And.intro @rA_len (And.intro @rA_ren (And.intro hM @ncells_mk))))) ?_
  ((refine AO.step fun K hK => ?_; simp only [go_sem, Int.reduceBEq, Int.reduceLE, Int.reduceLT, Int.reduceNeg, Nat.reduceAdd, Nat.reduceEqDiff, Nat.reduceLT, Nat.reduceLeDiff, Nat.reduceMul, Nat.reduceSub, reduceCtorEq, ↓reduceIte, bA_len, bA_ren, rA_len, rA_ren, hM]; (first | refine gsel_go ?_ | skip)); refine .inr (.inr (.inl ⟨?vy12, [1000000, 1000001, 1000002], ?va12, ?vl12, ?vm12, ?cond12, ?cont12⟩)); (case cond12 => ((repeat' apply And.intro) <;> (try ((with_reducible show ToldM _ _ _ _ _ _); exact p2))); (all_goals first | trivial | (simp only [bA_len, bA_ren, rA_len, rA_ren, hM, go_sem, simprocAttr]; done) | (simp; done) | rfl)); (first | refine hK _ _ _ ?_ | (simp only [bA_len, bA_ren, rA_len, rA_ren, hM, go_sem, simprocAttr]; first | refine hK _ _ _ ?_ | refine ⟨rfl, hK _ _ _ ?_⟩)); clear hK K)
  refine walkBF (And.intro @bA_len (And.intro @bA_ren (And.intro @rA_len (And.intro @rA_ren (And.intro hM @ncells_mk))))) ?_
  ((refine AO.step fun K hK => ?_; simp only [go_sem, Int.reduceBEq, Int.reduceLE, Int.reduceLT, Int.reduceNeg, Nat.reduceAdd, Nat.reduceEqDiff, Nat.reduceLT, Nat.reduceLeDiff, Nat.reduceMul, Nat.reduceSub, reduceCtorEq, ↓reduceIte, bA_len, bA_ren, rA_len, rA_ren, hM]; (first | refine gsel_go ?_ | skip)); refine .inr (.inr (.inl ⟨?vy13, [1000000, 1000001, 1000002], ?va13, ?vl13, ?vm13, ?cond13, ?cont13⟩)); (case cond13 => ((repeat' apply And.intro) <;> (try ((with_reducible show ToldM _ _ _ _ _ _); exact p3))); (all_goals first | trivial | (simp only [bA_len, bA_ren, rA_len, rA_ren, hM, go_sem, simprocAttr]; done) | (simp; done) | rfl)); (first | refine hK _ _ _ ?_ | (simp only [bA_len, bA_ren, rA_len, rA_ren, hM, go_sem, simprocAttr]; first | refine hK _ _ _ ?_ | refine ⟨rfl, hK _ _ _ ?_⟩)); clear hK K)
  refine walkBF (And.intro @bA_len (And.intro @bA_ren (And.intro @rA_len (And.intro @rA_ren hM)))) ?_
  refine ⟨by first | exact .inr rfl | exact .inl rfl, ?_⟩; rw [Tryz.results112]; simp only [bA_ren, bA_len, rA_len, rA_ren, hM, resOk, resV, go_sem, Int.reduceBEq, Int.reduceLE, Int.reduceLT, Int.reduceNeg, Nat.reduceAdd, Nat.reduceEqDiff, Nat.reduceLT, Nat.reduceLeDiff, Nat.reduceMul, Nat.reduceSub, reduceCtorEq, ↓reduceIte]

set_option maxRecDepth 100000 in
set_option maxHeartbeats 1600000 in
theorem rnode_met (s : ST) (hk : PutOk s.nodes) (hns : s.nodes.length ≤ 1000000) (d q p : Nat) (hp : p ≤ 1000000) (hlt : q < p) (hnm : namedK (kindAt s.nodes q) = true) :
    Told Tryz.prog 113 [s.av, .c (.v (.int .i64 (q : Int))), .c (.v (.int .i64 (p : Int)))] (.tup [.c (.v (.string (str (formN s.nodes d q p).1))), .c (.v (.int .i64 ((formN s.nodes d q p).2 : Int)))]) := by
  obtain ⟨n, hn⟩ : ∃ n, s.nodes[q]? = some n := by
    unfold kindAt at hnm
    cases hq : s.nodes[q]? with
    | none => rw [hq] at hnm; simp [namedK] at hnm
    | some n => exact ⟨n, rfl⟩
  have hq1 := (List.getElem?_eq_some_iff.1 hn).1
  obtain ⟨_, hnl, _⟩ := hk n (List.mem_of_getElem? hn)
  rw [kindAt, hn] at hnm
  simp only [] at hnm
  rw [formN_met s.nodes _ _ _ hlt, nameAt, hn]
  simp only []
  have hQ := rquote_told n.name (by omega)
  have hNm := rnamed10_told n.kind
  rw [hnm] at hNm
  have hxp : (s.nodes.map NT.cells)[q]? = some n.cells := by rw [List.getElem?_map, hn]; rfl
  have e1 : decide ((q : Int) < (p : Int)) = true := by simpa using hlt
  rw [ST.av_eq, scells_mk]
  refine VC.told ent_113 Tryz.func113 rfl Tryz.ntmps113 (by simp) (by first | rfl | simp [AV.pureB, AV.pureL, pureL_c, pures]) (by first | rfl | simp [AV.pureB, AV.pureL, pureL_c, pures]) fun hb => ?_
  clear hb
  refine walkGF (And.intro hxp (And.intro @ncells_mk e1)) ?_
  refine walkC (hNm) ?_
  refine walkBF (@ncells_mk) ?_
  refine walkC (hQ) ?_
  refine walkB ?_
  refine ⟨by first | exact .inr rfl | exact .inl rfl, ?_⟩; rw [Tryz.results113]; simp only [resOk, resV, go_sem, Int.reduceBEq, Int.reduceLE, Int.reduceLT, Int.reduceNeg, Nat.reduceAdd, Nat.reduceEqDiff, Nat.reduceLT, Nat.reduceLeDiff, Nat.reduceMul, Nat.reduceSub, reduceCtorEq, ↓reduceIte]
  exact ⟨.c _, .c _⟩
set_option maxRecDepth 100000 in
set_option maxHeartbeats 1600000 in
theorem rnode_word (s : ST) (hk : PutOk s.nodes) (hns : s.nodes.length ≤ 1000000) (d q : Nat) (n : NT) (hn : s.nodes[q]? = some n) (h8 : n.kind ≤ 8) :
    Told Tryz.prog 113 [s.av, .c (.v (.int .i64 (q : Int))), .c (.v (.int .i64 (q : Int)))] (.tup [.c (.v (.string (str (formN s.nodes (d + 1) q q).1))), .c (.v (.int .i64 ((formN s.nodes (d + 1) q q).2 : Int)))]) := by
  have hq1 := (List.getElem?_eq_some_iff.1 hn).1
  obtain ⟨⟨k1, k2⟩, hnl, _⟩ := hk n (List.mem_of_getElem? hn)
  rw [formN_new s.nodes d q n hn]
  have hkn : kidsN n = [] := by unfold kidsN; rw [if_neg (by omega), if_neg (by omega), if_neg (by omega)]
  obtain ⟨u, hu⟩ : ∃ u : Nat, n.kind = (u : Int) := ⟨n.kind.toNat, by omega⟩
  have hbd : ∀ X, bodyF n X [] = mQuote (wordM u) := fun X => by
    unfold bodyF
    rw [if_neg (by omega), if_neg (by omega), if_neg (by omega), if_neg (by omega), if_neg (by omega), if_neg (by omega), hu, Int.toNat_natCast]
    rfl
  rw [hbd, hkn, placeF]
  have hW := rword_told u (by omega) _ (word_at u (by omega))
  have hwl : (wordM u).length ≤ 100 := by
    have : ∀ x : Fin 15, (wordM x.val).length ≤ 100 := by decide
    exact this ⟨u, by omega⟩
  have hQ := rquote_told (wordM u) (by omega)
  generalize wordM u = w at *
  have hxp : (s.nodes.map NT.cells)[q]? = some n.cells := by rw [List.getElem?_map, hn]; rfl
  have e1 : decide ((q : Int) < (q : Int)) = false := by simp
  have e8 : decide ((u : Int) ≤ 8) = true := by simp; omega
  have hw1 : IntKind.i64.wrap ((q : Int) + 1) = ((q + 1 : Nat) : Int) := by rw [wrap64_id (by omega) (by omega)]; rfl
  rw [ST.av_eq, scells_mk]
  refine VC.told ent_113 Tryz.func113 rfl Tryz.ntmps113 (by simp) (by first | rfl | simp [AV.pureB, AV.pureL, pureL_c, pures]) (by first | rfl | simp [AV.pureB, AV.pureL, pureL_c, pures]) fun hb => ?_
  clear hb
  refine walkBF (And.intro hxp (And.intro @ncells_mk (And.intro e1 (And.intro hu (And.intro e8 hw1))))) ?_
  refine walkC (hW) ?_
  refine walkG ?_
  refine walkC (hQ) ?_
  refine walkB ?_
  refine ⟨by first | exact .inr rfl | exact .inl rfl, ?_⟩; rw [Tryz.results113]; simp only [resOk, resV, go_sem, Int.reduceBEq, Int.reduceLE, Int.reduceLT, Int.reduceNeg, Nat.reduceAdd, Nat.reduceEqDiff, Nat.reduceLT, Nat.reduceLeDiff, Nat.reduceMul, Nat.reduceSub, reduceCtorEq, ↓reduceIte]
  exact ⟨.c _, .c _⟩
end
end Go.Proofs.YtkaogeogjjcdhaaGreatDoor
