/- Texts that lead to the law FingerSchemas, joined. -/
import Derived.Test.YtkaogeogjjcdhaaGreatDoorPkFingerSchemasB
import Derived.Test.YtkaogeogjjcdhaaGreatDoorPkFingerSchemasA
namespace Go.Proofs.YtkaogeogjjcdhaaGreatDoor
open Go.RowKit
set_option linter.unusedVariables false
set_option linter.unusedSimpArgs false
section
attribute [local go_sem] opx opE ev okx gcond bnd okO AV.get AV.okb cAV upd_at putd_some putd_none wrs_nil wrs_cons look_nil look_cons st argT_at bpick_and bpick_or bpick_true bpick_false binV binI binS binVOk binOk isShift binSOk unV unVOk loadV loadP cellsA zeroA Blkd.len setE grown moreA moreR moreOk eqRes pv fillA fillE putSeg AV.cellish AV.pureL AV.pureB lentL_is ex_some AV.ren AV.renL renL_c Blkd.ren rho wrM renN lentOk rhoE keepM endOk tyA_2 tyA_3 tyA_4 tyA_5 tyA_6 tyA_7 tyA_8 tyA_9 tyA_10 tyA_11 tyA_12 tyA_13 tyA_14 tyA_15 tyA_16 tyA_17 tyA_18 tyA_19 tyA_21 tyA_22 tyA_23 tyA_24 tyA_29 tyA_30 tyA_31 tyA_32 tyA_33 tyA_34 tyA_35 tyA_36 tyA_37 tyA_38 tyA_39 tyA_40 tyA_41 tyA_42 tyA_43 tyA_48 tyA_89 tyA_93 tyA_107 tyA_108 tyA_109 tyA_113 tyA_114 tyA_115 tyA_116 tyA_117 tyA_119 tyA_120 tyA_121 tyA_122 tyA_131 tyA_134 tyA_135 tyA_136 tyA_137 tyA_138 tyA_154 tyA_156 tyA_157 tyA_158 tyA_159 tyA_170 tyA_180 tyA_181 tyA_182 tyA_196 tyA_202 tyA_208 tyA_209 tyA_210 tyA_211 tyA_212 tyA_213 tyA_229 tyA_230 tyA_231 tyA_241 tyA_264 tyA_268 tyA_293 tyA_294 tyA_295 tyA_311 tyA_313 tyA_321 tyA_326 tyA_334 tyA_338 tyA_340 tyA_343 tyA_344 tyA_345 tyA_346 tyA_347 tyA_348 tyA_349 tyA_351 tyA_352 Option.map_some Option.map_none Option.getD_some Option.getD_none Option.bind_some Option.bind_none List.getElem?_cons_zero List.getElem?_cons_succ List.getElem?_nil List.getElem?_toArray List.length_cons List.length_nil List.length_map List.forall_mem_map List.map_cons List.map_nil List.drop_zero List.drop_succ_cons List.drop_nil List.take_zero List.take_succ_cons List.take_nil List.mem_cons List.not_mem_nil or_false forall_eq_or_imp forall_eq List.set_cons_zero List.set_cons_succ List.cons_append List.nil_append List.append_nil List.foldl_cons List.foldl_nil List.replicate_succ List.replicate_zero List.all_cons List.all_nil if_true if_false Bool.false_eq_true ne_eq not_false_eq_true not_true_eq_false true_and and_true and_self true_implies imp_self implies_true forall_const beq_self_eq_true Bool.and_true Bool.true_and Bool.and_false Bool.false_and Bool.or_true Bool.true_or Bool.or_false Bool.false_or Bool.not_true Bool.not_false Bool.not_eq_eq_eq_not intKindOf Value.oneCell' Int.toNat_natCast beq_true beq_false Bool.not_eq_true false_implies false_or true_or or_true Nat.zero_add Nat.add_zero decide_true decide_false Int.cast_ofNat_Int Int.toNat_zero Int.toNat_one eq_self

def jName : List UInt8 := [123, 34, 110, 97, 109, 101, 34, 58]
def jType : List UInt8 := [44, 34, 116, 121, 112, 101, 34, 58]
def jFlds : List UInt8 := [44, 34, 102, 105, 101, 108, 100, 115, 34, 58, 91]
def jSyms : List UInt8 := [44, 34, 115, 121, 109, 98, 111, 108, 115, 34, 58, 91]
def jSize : List UInt8 := [44, 34, 115, 105, 122, 101, 34, 58]
def putsF (l : List UInt8) : List (List UInt8) → List UInt8
  | [] => l
  | s :: ss => putsF (l ++ s) ss
theorem putsF_len (l : List UInt8) : ∀ ss : List (List UInt8), l.length ≤ (putsF l ss).length
  | [] => Nat.le_refl _
  | s :: ss => by
    rw [putsF]
    exact Nat.le_trans (by rw [List.length_append]; omega) (putsF_len (l ++ s) ss)
def fldsF (l : List UInt8) (fs : List FT) (X : Nat → List UInt8) : Nat → List UInt8
  | 0 => l
  | i + 1 => putsF (fldsF l fs X i) [commaM i, jName, mQuote (match fs[i]? with | some f => f.name | none => []), jType, X i, [125]]
def symsF (l : List UInt8) (fs : List (List UInt8)) : Nat → List UInt8
  | 0 => l
  | i + 1 => putsF (symsF l fs i) [commaM i, mQuote (match fs[i]? with | some f => f | none => [])]
theorem fldsF_le (l : List UInt8) (fs : List FT) (X : Nat → List UInt8) {i j : Nat} (h : i ≤ j) : (fldsF l fs X i).length ≤ (fldsF l fs X j).length := by
  induction h with
  | refl => exact Nat.le_refl _
  | step h ih => exact Nat.le_trans ih (by rw [fldsF]; exact putsF_len _ _)
theorem symsF_le (l : List UInt8) (fs : List (List UInt8)) {i j : Nat} (h : i ≤ j) : (symsF l fs i).length ≤ (symsF l fs j).length := by
  induction h with
  | refl => exact Nat.le_refl _
  | step h ih => exact Nat.le_trans ih (by rw [symsF]; exact putsF_len _ _)
set_option maxRecDepth 100000 in
set_option maxHeartbeats 3200000 in
theorem named_rec (ns : List NT) (r : Int) (N : Nat) (n : NT) (h9 : n.kind = 9) (hn : n.name.length ≤ 1000000) (hfn : ∀ f ∈ n.fields, f.name.length ≤ 1000000) (hfl : n.fields.length ≤ 1000000) (M : Nat → List Bool) (hM : ∀ i, (M i).length = N) (X : Nat → List UInt8)
    (hnode : ∀ (i : Nat) (f : FT), n.fields[i]? = some f → ∀ l : List UInt8, (l ++ X i).length ≤ 500000000 →
      ToldM Tryz.prog 112 [.ref 1000000 1 0 0, .c (.v (.int .i64 f.type))] [fB ns r N l.length, mB (M i), bB l] [some (fB ns r N (l ++ X i).length), some (mB (M (i + 1))), some (bB (l ++ X i))] (.tup []))
    (l L : List UInt8) (hL : L = putsF (fldsF (putsF l [jName, mQuote n.name, jType, mQuote (wordM 9), jFlds]) n.fields X n.fields.length) [[93], [125]]) (hO : L.length ≤ 500000000) :
    ToldM Tryz.prog 192 [.ref 1000000 1 0 0, n.av] [fB ns r N l.length, mB (M 0), bB l] [some (fB ns r N L.length), some (mB (M n.fields.length)), some (bB L)] (.tup []) := by
  obtain ⟨l5, hl5⟩ : ∃ l5, l5 = putsF l [jName, mQuote n.name, jType, mQuote (wordM 9), jFlds] := ⟨_, rfl⟩
  rw [← hl5] at hL
  obtain ⟨A, hA⟩ : ∃ A, A = fldsF l5 n.fields X n.fields.length := ⟨_, rfl⟩
  rw [← hA] at hL
  simp only [putsF] at hL hl5
  obtain ⟨l1, hl1⟩ : ∃ l1, l1 = l ++ jName := ⟨_, rfl⟩
  obtain ⟨l2, hl2⟩ : ∃ l2, l2 = l1 ++ mQuote n.name := ⟨_, rfl⟩
  obtain ⟨l3, hl3⟩ : ∃ l3, l3 = l2 ++ jType := ⟨_, rfl⟩
  obtain ⟨l4, hl4⟩ : ∃ l4, l4 = l3 ++ mQuote (wordM 9) := ⟨_, rfl⟩
  rw [← hl1, ← hl2, ← hl3, ← hl4] at hl5
  obtain ⟨e1, he1⟩ : ∃ e1, e1 = A ++ [93] := ⟨_, rfl⟩
  rw [← he1] at hL
  have hAl := fldsF_le l5 n.fields X (Nat.zero_le n.fields.length)
  rw [← hA, fldsF] at hAl
  have b5 : l5.length ≤ 500000000 := by rw [hL, he1] at hO; simp at hO; omega
  have b4 : l4.length ≤ 500000000 := by rw [hl5] at b5; simp at b5; omega
  have b3 : l3.length ≤ 500000000 := by rw [hl4] at b4; simp at b4; omega
  have b2 : l2.length ≤ 500000000 := by rw [hl3] at b3; simp at b3; omega
  have b1 : l1.length ≤ 500000000 := by rw [hl2] at b2; simp at b2; omega
  have b0 : l.length ≤ 500000000 := by rw [hl1] at b1; simp at b1; omega
  have bA' : A.length ≤ 500000000 := by rw [hL, he1] at hO; simp at hO; omega
  have be : e1.length ≤ 500000000 := by rw [hL] at hO; simp at hO; omega
  have p1 := fput_told ns r (M 0) l jName (by omega) (by decide)
  have p2 := fquote_told ns r (M 0) l1 n.name (by omega) (by omega)
  have p3 := fput_told ns r (M 0) l2 jType (by omega) (by decide)
  have p4 := fquote_told ns r (M 0) l3 (wordM 9) (by omega) (by decide)
  have p5 := fput_told ns r (M 0) l4 jFlds (by omega) (by decide)
  have p6 := fput_told ns r (M n.fields.length) A [93] (by omega) (by decide)
  have p7 := fput_told ns r (M n.fields.length) e1 [125] (by omega) (by decide)
  have hW := word_told 9 (by decide)
  rw [← hl1] at p1
  rw [← hl2] at p2
  rw [← hl3] at p3
  rw [← hl4] at p4
  rw [← hl5] at p5
  rw [← he1] at p6
  rw [← hL] at p7
  rw [hM] at p1 p2 p3 p4 p5 p6 p7
  clear hl1 hl2 hl3 hl4 hl5 he1 hL
  generalize wordM 9 = w at hW p4
  simp only [fB, mB, bB, str, jName, jType, jFlds] at p1 p2 p3 p4 p5 p6 p7
  unfold str at hW
  rw [NT.av_eq, ncells_mk, h9]
  unfold fB mB bB
  refine VC.toldM ent_192 [] Tryz.func192 rfl Tryz.ntmps192 (by simp) (by simp only [ bA_len, bA_sc, rA_len, rA_sc, hM, ScM, zOk, inL, eq_self, used_is, sc_any, sc_c, sc_pp, sc_ref, sc_row, sc_agg, sc_tup, sc_fn, ScL, some_imp, List.forall_mem_map, Nat.le_refl, go_sem, simprocAttr]) (by simp only [ bA_len, bA_sc, rA_len, rA_sc, hM, ScM, zOk, inL, eq_self, used_is, sc_any, sc_c, sc_pp, sc_ref, sc_row, sc_agg, sc_tup, sc_fn, ScL, some_imp, List.forall_mem_map, Nat.le_refl, go_sem, simprocAttr]) (by simp only [ bA_len, bA_sc, rA_len, rA_sc, hM, ScM, zOk, inL, eq_self, used_is, sc_any, sc_c, sc_pp, sc_ref, sc_row, sc_agg, sc_tup, sc_fn, ScL, some_imp, List.forall_mem_map, Nat.le_refl, go_sem, simprocAttr]) (by simp only [ bA_len, bA_sc, rA_len, rA_sc, hM, ScM, zOk, inL, eq_self, used_is, sc_any, sc_c, sc_pp, sc_ref, sc_row, sc_agg, sc_tup, sc_fn, ScL, some_imp, List.forall_mem_map, Nat.le_refl, go_sem, simprocAttr]) (by simp) fun hb hbL => ?_
  clear hb hbL
  refine walkGF (And.intro @bA_len (And.intro @rA_len hM)) ?_
  ((refine AO.step fun K hK => ?_; simp only [go_sem, Int.reduceBEq, Int.reduceLE, Int.reduceLT, Int.reduceNeg, Nat.reduceAdd, Nat.reduceEqDiff, Nat.reduceLT, Nat.reduceLeDiff, Nat.reduceMul, Nat.reduceSub, reduceCtorEq, ↓reduceIte, bA_len, bA_ren, rA_len, rA_ren, hM]; (first | refine gsel_go ?_ | skip)); refine .inr (.inr (.inl ⟨?vy1, [1000000, 1000001, 1000002], ?va1, ?vl1, ?vm1, ?cond1, ?cont1⟩)); (case cond1 => ((repeat' apply And.intro) <;> (try ((with_reducible show ToldM _ _ _ _ _ _); exact p1))); (all_goals first | trivial | (simp only [bA_len, bA_ren, rA_len, rA_ren, hM, go_sem, simprocAttr]; done) | (simp; done) | rfl)); (first | refine hK _ _ _ ?_ | (simp only [bA_len, bA_ren, rA_len, rA_ren, hM, go_sem, simprocAttr]; first | refine hK _ _ _ ?_ | refine ⟨rfl, hK _ _ _ ?_⟩)); clear hK K)
  refine walkGF (And.intro @bA_len (And.intro @bA_ren (And.intro @rA_len (And.intro @rA_ren (And.intro hM @str_eq))))) ?_
  ((refine AO.step fun K hK => ?_; simp only [go_sem, Int.reduceBEq, Int.reduceLE, Int.reduceLT, Int.reduceNeg, Nat.reduceAdd, Nat.reduceEqDiff, Nat.reduceLT, Nat.reduceLeDiff, Nat.reduceMul, Nat.reduceSub, reduceCtorEq, ↓reduceIte, bA_len, bA_ren, rA_len, rA_ren, hM]; (first | refine gsel_go ?_ | skip)); refine .inr (.inr (.inl ⟨?vy2, [1000000, 1000001, 1000002], ?va2, ?vl2, ?vm2, ?cond2, ?cont2⟩)); (case cond2 => ((repeat' apply And.intro) <;> (try ((with_reducible show ToldM _ _ _ _ _ _); exact p2))); (all_goals first | trivial | (simp only [bA_len, bA_ren, rA_len, rA_ren, hM, go_sem, simprocAttr]; done) | (simp; done) | rfl)); (first | refine hK _ _ _ ?_ | (simp only [bA_len, bA_ren, rA_len, rA_ren, hM, go_sem, simprocAttr]; first | refine hK _ _ _ ?_ | refine ⟨rfl, hK _ _ _ ?_⟩)); clear hK K)
  refine walkGF (And.intro @bA_len (And.intro @bA_ren (And.intro @rA_len (And.intro @rA_ren (And.intro hM @str_eq))))) ?_
  ((refine AO.step fun K hK => ?_; simp only [go_sem, Int.reduceBEq, Int.reduceLE, Int.reduceLT, Int.reduceNeg, Nat.reduceAdd, Nat.reduceEqDiff, Nat.reduceLT, Nat.reduceLeDiff, Nat.reduceMul, Nat.reduceSub, reduceCtorEq, ↓reduceIte, bA_len, bA_ren, rA_len, rA_ren, hM]; (first | refine gsel_go ?_ | skip)); refine .inr (.inr (.inl ⟨?vy3, [1000000, 1000001, 1000002], ?va3, ?vl3, ?vm3, ?cond3, ?cont3⟩)); (case cond3 => ((repeat' apply And.intro) <;> (try ((with_reducible show ToldM _ _ _ _ _ _); exact p3))); (all_goals first | trivial | (simp only [bA_len, bA_ren, rA_len, rA_ren, hM, go_sem, simprocAttr]; done) | (simp; done) | rfl)); (first | refine hK _ _ _ ?_ | (simp only [bA_len, bA_ren, rA_len, rA_ren, hM, go_sem, simprocAttr]; first | refine hK _ _ _ ?_ | refine ⟨rfl, hK _ _ _ ?_⟩)); clear hK K)
  refine walkGF (And.intro @bA_len (And.intro @bA_ren (And.intro @rA_len (And.intro @rA_ren (And.intro hM @str_eq))))) ?_
  refine walkC (hW) ?_
  refine walkGF (And.intro @bA_len (And.intro @bA_ren (And.intro @rA_len (And.intro @rA_ren (And.intro hM @str_eq))))) ?_
  ((refine AO.step fun K hK => ?_; simp only [go_sem, Int.reduceBEq, Int.reduceLE, Int.reduceLT, Int.reduceNeg, Nat.reduceAdd, Nat.reduceEqDiff, Nat.reduceLT, Nat.reduceLeDiff, Nat.reduceMul, Nat.reduceSub, reduceCtorEq, ↓reduceIte, bA_len, bA_ren, rA_len, rA_ren, hM]; (first | refine gsel_go ?_ | skip)); refine .inr (.inr (.inl ⟨?vy4, [1000000, 1000001, 1000002], ?va4, ?vl4, ?vm4, ?cond4, ?cont4⟩)); (case cond4 => ((repeat' apply And.intro) <;> (try ((with_reducible show ToldM _ _ _ _ _ _); exact p4))); (all_goals first | trivial | (simp only [bA_len, bA_ren, rA_len, rA_ren, hM, go_sem, simprocAttr]; done) | (simp; done) | rfl)); (first | refine hK _ _ _ ?_ | (simp only [bA_len, bA_ren, rA_len, rA_ren, hM, go_sem, simprocAttr]; first | refine hK _ _ _ ?_ | refine ⟨rfl, hK _ _ _ ?_⟩)); clear hK K)
  refine walkBF (And.intro @bA_len (And.intro @bA_ren (And.intro @rA_len (And.intro @rA_ren (And.intro hM @str_eq))))) ?_
  ((refine AO.step fun K hK => ?_; simp only [go_sem, Int.reduceBEq, Int.reduceLE, Int.reduceLT, Int.reduceNeg, Nat.reduceAdd, Nat.reduceEqDiff, Nat.reduceLT, Nat.reduceLeDiff, Nat.reduceMul, Nat.reduceSub, reduceCtorEq, ↓reduceIte, bA_len, bA_ren, rA_len, rA_ren, hM]; (first | refine gsel_go ?_ | skip)); refine .inr (.inr (.inl ⟨?vy5, [1000000, 1000001, 1000002], ?va5, ?vl5, ?vm5, ?cond5, ?cont5⟩)); (case cond5 => ((repeat' apply And.intro) <;> (try ((with_reducible show ToldM _ _ _ _ _ _); exact p5))); (all_goals first | trivial | (simp only [bA_len, bA_ren, rA_len, rA_ren, hM, go_sem, simprocAttr]; done) | (simp; done) | rfl)); (first | refine hK _ _ _ ?_ | (simp only [bA_len, bA_ren, rA_len, rA_ren, hM, go_sem, simprocAttr]; first | refine hK _ _ _ ?_ | refine ⟨rfl, hK _ _ _ ?_⟩)); clear hK K)
  refine walkGF (And.intro @bA_len (And.intro @bA_ren (And.intro @rA_len (And.intro @rA_ren (And.intro hM @str_eq))))) ?_
  refine VC.loop (ι := {i : Nat // i ≤ n.fields.length}) (fun q => [(0, .ref 1000000 1 0 0), (3, .ref 0 1 0 0), (4, .fn (.func 193) [.ref 1000000 1 0 0] []), (5, .fn (.func 191) [.ref 1000000 1 0 0] []), (46, .c (.sl 9 (n.fields.map FT.cells))), (47, .c (.v (.int .i64 (n.fields.length : Int)))), (48, .c (.v (.int .i64 (q.1 : Int))))])
    (fun q => [(0, ⟨false, 33, 10, [({n with kind := 9} : NT).cells.map .c]⟩), (1000000, fB ns r N (fldsF l5 n.fields X q.1).length), (1000001, mB (M q.1)), (1000002, bB (fldsF l5 n.fields X q.1))]) 4000 (fun q => n.fields.length - q.1) ⟨0, Nat.zero_le _⟩ ?_ ?_
  · simp only [bA_len, bA_sc, rA_len, rA_sc, rA_ren, bA_ren, hM, fldsF, fB, mB, bB, ncells_mk, Weak, eq_self, used_is, sc_any, sc_c, sc_pp, sc_ref, sc_row, sc_agg, sc_fn, ScL, some_imp, List.forall_mem_map, go_sem, Int.reduceBEq, Int.reduceLE, Int.reduceLT, Int.reduceNeg, Nat.reduceAdd, Nat.reduceEqDiff, Nat.reduceLT, Nat.reduceLeDiff, Nat.reduceMul, Nat.reduceSub, reduceCtorEq, ↓reduceIte]
    try simp
  rintro ⟨i, hi⟩
  simp only [fB, mB, bB]
  refine walkGF (And.intro @bA_len (And.intro @rA_len hM)) ?_
  refine VC.cond (by rfl) (by trivial) (fun hc2 => ?_) (fun hc2 => ?_)
  rotate_left
  · obtain rfl : i = n.fields.length := by simp at hc2; omega
    rw [← hA]
    refine walkGF (And.intro @bA_len (And.intro @rA_len hM)) ?_
    ((refine AO.step fun K hK => ?_; simp only [go_sem, Int.reduceBEq, Int.reduceLE, Int.reduceLT, Int.reduceNeg, Nat.reduceAdd, Nat.reduceEqDiff, Nat.reduceLT, Nat.reduceLeDiff, Nat.reduceMul, Nat.reduceSub, reduceCtorEq, ↓reduceIte, bA_len, bA_ren, rA_len, rA_ren, hM]; (first | refine gsel_go ?_ | skip)); refine .inr (.inr (.inl ⟨?vy6, [1000000, 1000001, 1000002], ?va6, ?vl6, ?vm6, ?cond6, ?cont6⟩)); (case cond6 => ((repeat' apply And.intro) <;> (try ((with_reducible show ToldM _ _ _ _ _ _); exact p6))); (all_goals first | trivial | (simp only [bA_len, bA_ren, rA_len, rA_ren, hM, go_sem, simprocAttr]; done) | (simp; done) | rfl)); (first | refine hK _ _ _ ?_ | (simp only [bA_len, bA_ren, rA_len, rA_ren, hM, go_sem, simprocAttr]; first | refine hK _ _ _ ?_ | refine ⟨rfl, hK _ _ _ ?_⟩)); clear hK K)
    refine walkBF (And.intro @bA_len (And.intro @bA_ren (And.intro @rA_len (And.intro @rA_ren (And.intro hM @str_eq))))) ?_
    ((refine AO.step fun K hK => ?_; simp only [go_sem, Int.reduceBEq, Int.reduceLE, Int.reduceLT, Int.reduceNeg, Nat.reduceAdd, Nat.reduceEqDiff, Nat.reduceLT, Nat.reduceLeDiff, Nat.reduceMul, Nat.reduceSub, reduceCtorEq, ↓reduceIte, bA_len, bA_ren, rA_len, rA_ren, hM]; (first | refine gsel_go ?_ | skip)); refine .inr (.inr (.inl ⟨?vy7, [1000000, 1000001, 1000002], ?va7, ?vl7, ?vm7, ?cond7, ?cont7⟩)); (case cond7 => ((repeat' apply And.intro) <;> (try ((with_reducible show ToldM _ _ _ _ _ _); exact p7))); (all_goals first | trivial | (simp only [bA_len, bA_ren, rA_len, rA_ren, hM, go_sem, simprocAttr]; done) | (simp; done) | rfl)); (first | refine hK _ _ _ ?_ | (simp only [bA_len, bA_ren, rA_len, rA_ren, hM, go_sem, simprocAttr]; first | refine hK _ _ _ ?_ | refine ⟨rfl, hK _ _ _ ?_⟩)); clear hK K)
    refine walkBF (And.intro @bA_len (And.intro @bA_ren (And.intro @rA_len (And.intro @rA_ren (And.intro hM @str_eq))))) ?_
    refine ⟨by first | exact .inr rfl | exact .inl rfl, ?_⟩; rw [Tryz.results192]; simp only [bA_ren, bA_len, rA_len, rA_ren, hM, resOk, resV, go_sem, Int.reduceBEq, Int.reduceLE, Int.reduceLT, Int.reduceNeg, Nat.reduceAdd, Nat.reduceEqDiff, Nat.reduceLT, Nat.reduceLeDiff, Nat.reduceMul, Nat.reduceSub, reduceCtorEq, ↓reduceIte]
  have hlt : i < n.fields.length := by simp at hc2; omega
  obtain ⟨f, hx⟩ : ∃ f, n.fields[i]? = some f := ⟨n.fields[i], List.getElem?_eq_getElem hlt⟩
  have hxp : (n.fields.map FT.cells)[i]? = some f.cells := by rw [List.getElem?_map, hx]; rfl
  have hw : IntKind.i64.wrap ((i : Int) + 1) = (i : Int) + 1 := wrap64_id (by omega) (by omega)
  have hfn' := hfn f (List.mem_of_getElem? hx)
  have hB := fldsF_le l5 n.fields X (show i + 1 ≤ n.fields.length by omega)
  rw [← hA] at hB
  have hS : fldsF l5 n.fields X (i + 1) = putsF (fldsF l5 n.fields X i) [commaM i, jName, mQuote f.name, jType, X i, [125]] := by rw [fldsF, hx]
  obtain ⟨a0, ha0⟩ : ∃ a0, a0 = fldsF l5 n.fields X i := ⟨_, rfl⟩
  obtain ⟨Z, hZ⟩ : ∃ Z, Z = fldsF l5 n.fields X (i + 1) := ⟨_, rfl⟩
  rw [← ha0]
  rw [← ha0, ← hZ] at hS
  rw [← hZ] at hB
  simp only [putsF] at hS
  obtain ⟨a1, ha1⟩ : ∃ a1, a1 = a0 ++ commaM i := ⟨_, rfl⟩
  obtain ⟨a2, ha2⟩ : ∃ a2, a2 = a1 ++ jName := ⟨_, rfl⟩
  obtain ⟨a3, ha3⟩ : ∃ a3, a3 = a2 ++ mQuote f.name := ⟨_, rfl⟩
  obtain ⟨a4, ha4⟩ : ∃ a4, a4 = a3 ++ jType := ⟨_, rfl⟩
  obtain ⟨a5, ha5⟩ : ∃ a5, a5 = a4 ++ X i := ⟨_, rfl⟩
  rw [← ha1, ← ha2, ← ha3, ← ha4, ← ha5] at hS
  have c5 : a5.length ≤ 500000000 := by rw [hS] at hB; simp at hB; omega
  have c4 : a4.length ≤ 500000000 := by rw [ha5] at c5; simp at c5; omega
  have c3 : a3.length ≤ 500000000 := by rw [ha4] at c4; simp at c4; omega
  have c2 : a2.length ≤ 500000000 := by rw [ha3] at c3; simp at c3; omega
  have c1 : a1.length ≤ 500000000 := by rw [ha2] at c2; simp at c2; omega
  have c0 : a0.length ≤ 500000000 := by rw [ha1] at c1; simp at c1; omega
  have q0 := fcomma_told ns r (M i) a0 (by omega) i
  have q1 := fput_told ns r (M i) a1 jName (by omega) (by decide)
  have q2 := fquote_told ns r (M i) a2 f.name (by omega) (by omega)
  have q3 := fput_told ns r (M i) a3 jType (by omega) (by decide)
  have q4 := hnode i f hx a4 (by rw [← ha5]; exact c5)
  have q5 := fput_told ns r (M (i + 1)) a5 [125] (by omega) (by decide)
  rw [← ha1] at q0
  rw [← ha2] at q1
  rw [← ha3] at q2
  rw [← ha4] at q3
  rw [← ha5] at q4
  rw [← hS] at q5
  rw [hM] at q0 q1 q2 q3 q5
  clear hS ha1 ha2 ha3 ha4 ha5 p1 p2 p3 p4 p5 p6 p7 hnode
  simp only [fB, mB, bB, str, jName, jType, jFlds] at q0 q1 q2 q3 q4 q5
  refine walkGF (And.intro @ncells_mk (And.intro hxp (And.intro @fcells_mk (And.intro @len_cells (And.intro @take_cells (And.intro @take_cellsC (And.intro @bA_len (And.intro @rA_len hM)))))))) ?_
  ((refine AO.step fun K hK => ?_; simp only [go_sem, Int.reduceBEq, Int.reduceLE, Int.reduceLT, Int.reduceNeg, Nat.reduceAdd, Nat.reduceEqDiff, Nat.reduceLT, Nat.reduceLeDiff, Nat.reduceMul, Nat.reduceSub, reduceCtorEq, ↓reduceIte, bA_len, bA_ren, rA_len, rA_ren, hM]; (first | refine gsel_go ?_ | skip)); refine .inr (.inr (.inl ⟨?vy8, [1000000, 1000001, 1000002], ?va8, ?vl8, ?vm8, ?cond8, ?cont8⟩)); (case cond8 => ((repeat' apply And.intro) <;> (try ((with_reducible show ToldM _ _ _ _ _ _); exact q0))); (all_goals first | trivial | (simp only [bA_len, bA_ren, rA_len, rA_ren, hM, go_sem, simprocAttr]; done) | (simp; done) | rfl)); (first | refine hK _ _ _ ?_ | (simp only [bA_len, bA_ren, rA_len, rA_ren, hM, go_sem, simprocAttr]; first | refine hK _ _ _ ?_ | refine ⟨rfl, hK _ _ _ ?_⟩)); clear hK K)
  refine walkGF (And.intro @bA_len (And.intro @bA_ren (And.intro @rA_len (And.intro @rA_ren (And.intro hM @str_eq))))) ?_
  ((refine AO.step fun K hK => ?_; simp only [go_sem, Int.reduceBEq, Int.reduceLE, Int.reduceLT, Int.reduceNeg, Nat.reduceAdd, Nat.reduceEqDiff, Nat.reduceLT, Nat.reduceLeDiff, Nat.reduceMul, Nat.reduceSub, reduceCtorEq, ↓reduceIte, bA_len, bA_ren, rA_len, rA_ren, hM]; (first | refine gsel_go ?_ | skip)); refine .inr (.inr (.inl ⟨?vy9, [1000000, 1000001, 1000002], ?va9, ?vl9, ?vm9, ?cond9, ?cont9⟩)); (case cond9 => ((repeat' apply And.intro) <;> (try ((with_reducible show ToldM _ _ _ _ _ _); exact q1))); (all_goals first | trivial | (simp only [bA_len, bA_ren, rA_len, rA_ren, hM, go_sem, simprocAttr]; done) | (simp; done) | rfl)); (first | refine hK _ _ _ ?_ | (simp only [bA_len, bA_ren, rA_len, rA_ren, hM, go_sem, simprocAttr]; first | refine hK _ _ _ ?_ | refine ⟨rfl, hK _ _ _ ?_⟩)); clear hK K)
  refine walkGF (And.intro @bA_len (And.intro @bA_ren (And.intro @rA_len (And.intro @rA_ren (And.intro hM @str_eq))))) ?_
  ((refine AO.step fun K hK => ?_; simp only [go_sem, Int.reduceBEq, Int.reduceLE, Int.reduceLT, Int.reduceNeg, Nat.reduceAdd, Nat.reduceEqDiff, Nat.reduceLT, Nat.reduceLeDiff, Nat.reduceMul, Nat.reduceSub, reduceCtorEq, ↓reduceIte, bA_len, bA_ren, rA_len, rA_ren, hM]; (first | refine gsel_go ?_ | skip)); refine .inr (.inr (.inl ⟨?vy10, [1000000, 1000001, 1000002], ?va10, ?vl10, ?vm10, ?cond10, ?cont10⟩)); (case cond10 => ((repeat' apply And.intro) <;> (try ((with_reducible show ToldM _ _ _ _ _ _); exact q2))); (all_goals first | trivial | (simp only [bA_len, bA_ren, rA_len, rA_ren, hM, go_sem, simprocAttr]; done) | (simp; done) | rfl)); (first | refine hK _ _ _ ?_ | (simp only [bA_len, bA_ren, rA_len, rA_ren, hM, go_sem, simprocAttr]; first | refine hK _ _ _ ?_ | refine ⟨rfl, hK _ _ _ ?_⟩)); clear hK K)
  refine walkGF (And.intro @bA_len (And.intro @bA_ren (And.intro @rA_len (And.intro @rA_ren (And.intro hM @str_eq))))) ?_
  ((refine AO.step fun K hK => ?_; simp only [go_sem, Int.reduceBEq, Int.reduceLE, Int.reduceLT, Int.reduceNeg, Nat.reduceAdd, Nat.reduceEqDiff, Nat.reduceLT, Nat.reduceLeDiff, Nat.reduceMul, Nat.reduceSub, reduceCtorEq, ↓reduceIte, bA_len, bA_ren, rA_len, rA_ren, hM]; (first | refine gsel_go ?_ | skip)); refine .inr (.inr (.inl ⟨?vy11, [1000000, 1000001, 1000002], ?va11, ?vl11, ?vm11, ?cond11, ?cont11⟩)); (case cond11 => ((repeat' apply And.intro) <;> (try ((with_reducible show ToldM _ _ _ _ _ _); exact q3))); (all_goals first | trivial | (simp only [bA_len, bA_ren, rA_len, rA_ren, hM, go_sem, simprocAttr]; done) | (simp; done) | rfl)); (first | refine hK _ _ _ ?_ | (simp only [bA_len, bA_ren, rA_len, rA_ren, hM, go_sem, simprocAttr]; first | refine hK _ _ _ ?_ | refine ⟨rfl, hK _ _ _ ?_⟩)); clear hK K)
  refine walkGF (And.intro @bA_len (And.intro @bA_ren (And.intro @rA_len (And.intro @rA_ren (And.intro hM @str_eq))))) ?_
  ((refine AO.step fun K hK => ?_; simp only [go_sem, Int.reduceBEq, Int.reduceLE, Int.reduceLT, Int.reduceNeg, Nat.reduceAdd, Nat.reduceEqDiff, Nat.reduceLT, Nat.reduceLeDiff, Nat.reduceMul, Nat.reduceSub, reduceCtorEq, ↓reduceIte, bA_len, bA_ren, rA_len, rA_ren, hM]; (first | refine gsel_go ?_ | skip)); refine .inr (.inr (.inl ⟨?vy12, [1000000, 1000001, 1000002], ?va12, ?vl12, ?vm12, ?cond12, ?cont12⟩)); (case cond12 => ((repeat' apply And.intro) <;> (try ((with_reducible show ToldM _ _ _ _ _ _); exact q4))); (all_goals first | trivial | (simp only [bA_len, bA_ren, rA_len, rA_ren, hM, go_sem, simprocAttr]; done) | (simp; done) | rfl)); (first | refine hK _ _ _ ?_ | (simp only [bA_len, bA_ren, rA_len, rA_ren, hM, go_sem, simprocAttr]; first | refine hK _ _ _ ?_ | refine ⟨rfl, hK _ _ _ ?_⟩)); clear hK K)
  refine walkGF (And.intro @bA_len (And.intro @bA_ren (And.intro @rA_len (And.intro @rA_ren (And.intro hM @str_eq))))) ?_
  ((refine AO.step fun K hK => ?_; simp only [go_sem, Int.reduceBEq, Int.reduceLE, Int.reduceLT, Int.reduceNeg, Nat.reduceAdd, Nat.reduceEqDiff, Nat.reduceLT, Nat.reduceLeDiff, Nat.reduceMul, Nat.reduceSub, reduceCtorEq, ↓reduceIte, bA_len, bA_ren, rA_len, rA_ren, hM]; (first | refine gsel_go ?_ | skip)); refine .inr (.inr (.inl ⟨?vy13, [1000000, 1000001, 1000002], ?va13, ?vl13, ?vm13, ?cond13, ?cont13⟩)); (case cond13 => ((repeat' apply And.intro) <;> (try ((with_reducible show ToldM _ _ _ _ _ _); exact q5))); (all_goals first | trivial | (simp only [bA_len, bA_ren, rA_len, rA_ren, hM, go_sem, simprocAttr]; done) | (simp; done) | rfl)); (first | refine hK _ _ _ ?_ | (simp only [bA_len, bA_ren, rA_len, rA_ren, hM, go_sem, simprocAttr]; first | refine hK _ _ _ ?_ | refine ⟨rfl, hK _ _ _ ?_⟩)); clear hK K)
  refine walkGF (And.intro @bA_len (And.intro @bA_ren (And.intro @rA_len (And.intro @rA_ren (And.intro hM (And.intro @str_eq hw)))))) ?_
  refine .next ⟨i + 1, by omega⟩ ?_ (by simp only []; omega)
  simp only [← hZ]
  simp only [bA_len, bA_sc, rA_len, rA_sc, rA_ren, bA_ren, hM, fB, mB, bB, ncells_mk, Weak, eq_self, used_is, sc_any, sc_c, sc_pp, sc_ref, sc_row, sc_agg, sc_fn, ScL, some_imp, List.forall_mem_map, go_sem, Int.reduceBEq, Int.reduceLE, Int.reduceLT, Int.reduceNeg, Nat.reduceAdd, Nat.reduceEqDiff, Nat.reduceLT, Nat.reduceLeDiff, Nat.reduceMul, Nat.reduceSub, reduceCtorEq, ↓reduceIte]
  exact ⟨cI (by omega), Nat.le_refl _, Nat.le_refl _⟩
end

def jArr : List UInt8 := [123, 34, 116, 121, 112, 101, 34, 58, 34, 97, 114, 114, 97, 121, 34, 44, 34, 105, 116, 101, 109, 115, 34, 58]
def jMap : List UInt8 := [123, 34, 116, 121, 112, 101, 34, 58, 34, 109, 97, 112, 34, 44, 34, 118, 97, 108, 117, 101, 115, 34, 58]
def brsF (l : List UInt8) (X : Nat → List UInt8) : Nat → List UInt8
  | 0 => l
  | i + 1 => putsF (brsF l X i) [commaM i, X i]
theorem brsF_le (l : List UInt8) (X : Nat → List UInt8) {i j : Nat} (h : i ≤ j) : (brsF l X i).length ≤ (brsF l X j).length := by
  induction h with
  | refl => exact Nat.le_refl _
  | step h ih => exact Nat.le_trans ih (by rw [brsF]; exact putsF_len _ _)
theorem putsF_app (l : List UInt8) : ∀ (ss : List (List UInt8)) (m : List UInt8), putsF (l ++ m) ss = l ++ putsF m ss
  | [], m => rfl
  | s :: ss, m => by rw [putsF, putsF, List.append_assoc, putsF_app l ss]
theorem fldsF_app (l m : List UInt8) (fs : List FT) (X : Nat → List UInt8) : ∀ i, fldsF (l ++ m) fs X i = l ++ fldsF m fs X i
  | 0 => rfl
  | i + 1 => by rw [fldsF, fldsF, fldsF_app l m fs X i, putsF_app]
theorem symsF_app (l m : List UInt8) (fs : List (List UInt8)) : ∀ i, symsF (l ++ m) fs i = l ++ symsF m fs i
  | 0 => rfl
  | i + 1 => by rw [symsF, symsF, symsF_app l m fs i, putsF_app]
theorem brsF_app (l m : List UInt8) (X : Nat → List UInt8) : ∀ i, brsF (l ++ m) X i = l ++ brsF m X i
  | 0 => rfl
  | i + 1 => by rw [brsF, brsF, brsF_app l m X i, putsF_app]
def bodyF (n : NT) (X : Nat → List UInt8) (l : List UInt8) : List UInt8 :=
  if n.kind = 9 then putsF (fldsF (putsF l [jName, mQuote n.name, jType, mQuote (wordM 9), jFlds]) n.fields X n.fields.length) [[93], [125]]
  else if n.kind = 10 then putsF (symsF (putsF l [jName, mQuote n.name, jType, mQuote (wordM 10), jSyms]) n.symbols n.symbols.length) [[93], [125]]
  else if n.kind = 14 then putsF l [jName, mQuote n.name, jType, mQuote (wordM 14), jSize, mNumb n.size, [125]]
  else if n.kind = 13 then putsF (brsF (putsF l [[91]]) X n.branches.length) [[93]]
  else if n.kind = 11 then putsF l [jArr, X 0, [125]] else if n.kind = 12 then putsF l [jMap, X 0, [125]]
  else putsF l [mQuote (wordM n.kind.toNat)]
theorem bodyF_app (n : NT) (X : Nat → List UInt8) (l : List UInt8) : bodyF n X l = l ++ bodyF n X [] := by
  have e : l = l ++ [] := by simp
  unfold bodyF
  repeat' split
  · conv => lhs; rw [e, putsF_app, fldsF_app, putsF_app]
  · conv => lhs; rw [e, putsF_app, symsF_app, putsF_app]
  · conv => lhs; rw [e, putsF_app]
  · conv => lhs; rw [e, putsF_app, brsF_app, putsF_app]
  · conv => lhs; rw [e, putsF_app]
  · conv => lhs; rw [e, putsF_app]
  · conv => lhs; rw [e, putsF_app]
def nameAt (ns : List NT) (k : Nat) : List UInt8 := match ns[k]? with | some n => n.name | none => []
def Form := Nat → Nat → List UInt8 × Nat
def placeF (f : Form) : List Int → Nat → Nat
  | [], p => p
  | k :: ks, p => placeF f ks (f k.toNat p).2
def kidF (f : Form) (ks : List Int) (p : Nat) (i : Nat) : List UInt8 := match ks[i]? with | some k => (f k.toNat (placeF f (ks.take i) p)).1 | none => []
def formN (ns : List NT) : Nat → Form
  | 0 => fun k p => if k < p then (mQuote (nameAt ns k), p) else ([], p)
  | d + 1 => fun k p => if k < p then (mQuote (nameAt ns k), p) else match ns[k]? with
    | none => ([], p)
    | some n => (bodyF n (kidF (formN ns d) (kidsN n) (p + 1)) [], placeF (formN ns d) (kidsN n) (p + 1))
def KidOk (ns : List NT) (d : Nat) (k : Int) (p : Nat) : Prop := 0 ≤ k ∧ ((k.toNat = p ∧ (walkM ns d p).1 = true) ∨ (k.toNat < p ∧ namedK (kindAt ns k.toNat) = true))
theorem formN_met (ns : List NT) (d k p : Nat) (h : k < p) : formN ns d k p = (mQuote (nameAt ns k), p) := by
  cases d with
  | zero => rw [formN]; simp only []; rw [if_pos h]
  | succ d => rw [formN]; simp only []; rw [if_pos h]
theorem formN_new (ns : List NT) (d p : Nat) (n : NT) (h : ns[p]? = some n) : formN ns (d + 1) p p = (bodyF n (kidF (formN ns d) (kidsN n) (p + 1)) [], placeF (formN ns d) (kidsN n) (p + 1)) := by
  rw [formN]
  simp only []
  rw [if_neg (by omega), h]
theorem walkK_step {ns : List NT} {d : Nat} (hd : ∀ p, (walkM ns d p).1 = true → (formN ns d p p).2 = (walkM ns d p).2) {k : Int} {ks : List Int} {p q : Nat} (h : walkK ns (walkM ns d) (k :: ks) p = (true, q)) :
    KidOk ns d k p ∧ walkK ns (walkM ns d) ks (formN ns d k.toNat p).2 = (true, q) := by
  rw [walkK] at h
  split at h
  · rename_i hk
    subst hk
    split at h
    · rename_i hw
      rw [Int.toNat_natCast, hd p hw]
      exact ⟨⟨by omega, .inl ⟨by simp, hw⟩⟩, h⟩
    · simp at h
  · rename_i hk
    split at h
    · simp at h
    · rename_i hn
      have hlt : k.toNat < p := by omega
      rw [formN_met ns d _ p hlt]
      refine ⟨⟨by omega, .inr ⟨hlt, ?_⟩⟩, h⟩
      cases hb : namedK (kindAt ns k.toNat) with
      | true => rfl
      | false => exact absurd (.inr (.inr hb)) hn
theorem walkK_place {ns : List NT} {d : Nat} (hd : ∀ p, (walkM ns d p).1 = true → (formN ns d p p).2 = (walkM ns d p).2) : ∀ (ks : List Int) (p q : Nat), walkK ns (walkM ns d) ks p = (true, q) →
    placeF (formN ns d) ks p = q ∧ ∀ (i : Nat) (k : Int), ks[i]? = some k → KidOk ns d k (placeF (formN ns d) (ks.take i) p)
  | [], p, q, h => by
    rw [walkK] at h
    exact ⟨(Prod.mk.inj h).2, by simp⟩
  | k :: ks, p, q, h => by
    obtain ⟨h1, h2⟩ := walkK_step hd h
    obtain ⟨h3, h4⟩ := walkK_place hd ks _ q h2
    refine ⟨h3, fun i x hx => ?_⟩
    match i with
    | 0 =>
      obtain rfl := Option.some.inj hx
      exact h1
    | i + 1 => exact h4 i x (by simpa using hx)
theorem form_place (ns : List NT) : ∀ (d p : Nat), (walkM ns d p).1 = true → (formN ns d p p).2 = (walkM ns d p).2
  | 0, p, h => by rw [walkM] at h; simp at h
  | d + 1, p, h => by
    rw [walkM] at h ⊢
    cases hn : ns[p]? with
    | none => rw [hn] at h; simp at h
    | some n =>
      rw [hn] at h
      simp only [] at h ⊢
      rw [formN_new ns d p n hn]
      exact (walkK_place (form_place ns d) (kidsN n) (p + 1) _ (Prod.ext h rfl)).1
theorem placeF_take (f : Form) : ∀ (ks : List Int) (p i : Nat) (k : Int), ks[i]? = some k → placeF f (ks.take (i + 1)) p = (f k.toNat (placeF f (ks.take i) p)).2
  | [], p, i, k, h => by simp at h
  | x :: ks, p, 0, k, h => by
    obtain rfl := Option.some.inj h
    rfl
  | x :: ks, p, i + 1, k, h => by
    rw [List.take_succ_cons, List.take_succ_cons, placeF, placeF]
    exact placeF_take f ks _ i k (by simpa using h)
def metL (ns : List NT) (p : Nat) : List Bool := ns.mapIdx fun j n => namedK n.kind && decide (j < p)
theorem metL_len (ns : List NT) (p : Nat) : (metL ns p).length = ns.length := by simp [metL]
theorem metL_at {ns : List NT} {k : Nat} {n : NT} (h : ns[k]? = some n) (p : Nat) : (metL ns p)[k]? = some (namedK n.kind && decide (k < p)) := by
  rw [metL, List.getElem?_mapIdx, h]
  rfl
theorem metL_plain {ns : List NT} {p : Nat} {n : NT} (h : ns[p]? = some n) (hk : namedK n.kind = false) : metL ns (p + 1) = metL ns p := by
  apply List.ext_getElem?
  intro j
  rw [metL, metL, List.getElem?_mapIdx, List.getElem?_mapIdx]
  cases hj : ns[j]? with
  | none => rfl
  | some m =>
    simp only [Option.map_some, Option.some.injEq]
    by_cases e : j = p
    · subst e
      rw [h] at hj
      obtain rfl := Option.some.inj hj
      rw [hk]
      rfl
    · congr 1
      exact decide_eq_decide.2 (by omega)
theorem metL_mark {ns : List NT} {p : Nat} {n : NT} (h : ns[p]? = some n) (hk : namedK n.kind = true) : metL ns (p + 1) = (metL ns p).set p true := by
  apply List.ext_getElem?
  intro j
  rw [List.getElem?_set]
  have hl : p < ns.length := (List.getElem?_eq_some_iff.1 h).1
  by_cases e : p = j
  · subst e
    rw [if_pos rfl, if_pos (by rw [metL_len]; exact hl), metL_at h, hk]
    simp
  · rw [if_neg e, metL, metL, List.getElem?_mapIdx, List.getElem?_mapIdx]
    cases hj : ns[j]? with
    | none => rfl
    | some m =>
      simp only [Option.map_some, Option.some.injEq]
      congr 1
      exact decide_eq_decide.2 (by omega)
section
attribute [local go_sem] opx opE ev okx gcond bnd okO AV.get AV.okb cAV upd_at putd_some putd_none wrs_nil wrs_cons look_nil look_cons st argT_at bpick_and bpick_or bpick_true bpick_false binV binI binS binVOk binOk isShift binSOk unV unVOk loadV loadP cellsA zeroA Blkd.len setE grown moreA moreR moreOk eqRes pv fillA fillE putSeg AV.cellish AV.pureL AV.pureB lentL_is ex_some AV.ren AV.renL renL_c Blkd.ren rho wrM renN lentOk rhoE keepM endOk tyA_2 tyA_3 tyA_4 tyA_5 tyA_6 tyA_7 tyA_8 tyA_9 tyA_10 tyA_11 tyA_12 tyA_13 tyA_14 tyA_15 tyA_16 tyA_17 tyA_18 tyA_19 tyA_21 tyA_22 tyA_23 tyA_24 tyA_29 tyA_30 tyA_31 tyA_32 tyA_33 tyA_34 tyA_35 tyA_36 tyA_37 tyA_38 tyA_39 tyA_40 tyA_41 tyA_42 tyA_43 tyA_48 tyA_89 tyA_93 tyA_107 tyA_108 tyA_109 tyA_113 tyA_114 tyA_115 tyA_116 tyA_117 tyA_119 tyA_120 tyA_121 tyA_122 tyA_131 tyA_134 tyA_135 tyA_136 tyA_137 tyA_138 tyA_154 tyA_156 tyA_157 tyA_158 tyA_159 tyA_170 tyA_180 tyA_181 tyA_182 tyA_196 tyA_202 tyA_208 tyA_209 tyA_210 tyA_211 tyA_212 tyA_213 tyA_229 tyA_230 tyA_231 tyA_241 tyA_264 tyA_268 tyA_293 tyA_294 tyA_295 tyA_311 tyA_313 tyA_321 tyA_326 tyA_334 tyA_338 tyA_340 tyA_343 tyA_344 tyA_345 tyA_346 tyA_347 tyA_348 tyA_349 tyA_351 tyA_352 Option.map_some Option.map_none Option.getD_some Option.getD_none Option.bind_some Option.bind_none List.getElem?_cons_zero List.getElem?_cons_succ List.getElem?_nil List.getElem?_toArray List.length_cons List.length_nil List.length_map List.forall_mem_map List.map_cons List.map_nil List.drop_zero List.drop_succ_cons List.drop_nil List.take_zero List.take_succ_cons List.take_nil List.mem_cons List.not_mem_nil or_false forall_eq_or_imp forall_eq List.set_cons_zero List.set_cons_succ List.cons_append List.nil_append List.append_nil List.foldl_cons List.foldl_nil List.replicate_succ List.replicate_zero List.all_cons List.all_nil if_true if_false Bool.false_eq_true ne_eq not_false_eq_true not_true_eq_false true_and and_true and_self true_implies imp_self implies_true forall_const beq_self_eq_true Bool.and_true Bool.true_and Bool.and_false Bool.false_and Bool.or_true Bool.true_or Bool.or_false Bool.false_or Bool.not_true Bool.not_false Bool.not_eq_eq_eq_not intKindOf Value.oneCell' Int.toNat_natCast beq_true beq_false Bool.not_eq_true false_implies false_or true_or or_true Nat.zero_add Nat.add_zero decide_true decide_false Int.cast_ofNat_Int Int.toNat_zero Int.toNat_one eq_self

set_option maxRecDepth 100000 in
set_option maxHeartbeats 1600000 in
theorem rquote_told (s : List UInt8) (hs : s.length ≤ 1000000000) : Told Tryz.prog 195 [.c (.v (.string (str s)))] (.c (.v (.string (str (mQuote s))))) := by
  refine VC.told ent_195 Tryz.func195 rfl Tryz.ntmps195 (by simp) (by first | rfl | simp [AV.pureB, AV.pureL, pureL_c, pures]) (by first | rfl | simp [AV.pureB, AV.pureL, pureL_c, pures]) fun hb => ?_
  clear hb
  refine walkG ?_
  refine VC.loop (ι := {q : Nat × List UInt8 // q.1 ≤ s.length ∧ q.2 = 34 :: (s.take q.1).flatMap qByte ∧ q.2.length ≤ 1 + 6 * q.1})
    (fun q => [(0, .c (.v (.string (str s)))), (3, .c (.v (.string ⟨#[48, 49, 50, 51, 52, 53, 54, 55, 56, 57, 97, 98, 99, 100, 101, 102]⟩))), (4, .row 16 q.1.2.length), (5, .c (.v (.int .i64 (q.1.1 : Int))))])
    (fun q => [(16, ⟨true, 5, 1, bA q.1.2⟩)]) 64 (fun q => s.length - q.1.1) ⟨(0, [34]), Nat.zero_le _, by simp, by simp⟩ ?_ ?_
  · simp only [bA_len, bA_sc, Weak, eq_self, used_is, sc_any, sc_c, sc_pp, sc_ref, sc_row, sc_agg, sc_fn, ScL, some_imp, List.forall_mem_map, go_sem, Int.reduceBEq, Int.reduceLE, Int.reduceLT, Int.reduceNeg, Nat.reduceAdd, Nat.reduceEqDiff, Nat.reduceLT, Nat.reduceLeDiff, Nat.reduceMul, Nat.reduceSub, reduceCtorEq, ↓reduceIte]
    simp [bA]
  rintro ⟨⟨i, c⟩, hi, hcc, hcl⟩
  simp only [] at hi hcc hcl ⊢
  refine walkGF (And.intro @bA_len @str_size) ?_
  refine VC.cond (by rfl) (by trivial) (fun hc => ?_) (fun hc => ?_)
  · have hlt : i < s.length := by simp at hc; omega
    obtain ⟨x, hx⟩ : ∃ x, s[i]? = some x := ⟨s[i], List.getElem?_eq_getElem hlt⟩
    obtain ⟨y, hy⟩ : ∃ y, y = x.toNat := ⟨_, rfl⟩
    have hxy : x = y.toUInt8 := by rw [hy]; simp
    have hy256 : y < 256 := by rw [hy]; exact x.toNat_lt
    have hw : IntKind.i64.wrap ((i : Int) + 1) = (i : Int) + 1 := wrap64_id (by omega) (by omega)
    have hn : ∀ p, qByte x = p → (c ++ p) = 34 :: (s.take (i + 1)).flatMap qByte ∧ (c ++ p).length ≤ 1 + 6 * (i + 1) := by
      intro p hp
      have hqx := qByte_len x
      rw [hp] at hqx
      refine ⟨?_, by rw [List.length_append]; omega⟩
      rw [take_next hx, hcc, hp]
      simp
    have hf : ∀ (z : Int) (b : Bool), (b = true ↔ (y : Int) = z) → ((y : Int) == z) = b := by
      intro z b hb
      cases b with
      | true => simpa using hb
      | false => simpa using hb
    by_cases h34 : y = 34
    · have hq : qByte x = [92, x] := by rw [hxy, h34]; rfl
      obtain ⟨e1, e2⟩ := hn _ hq
      have e34 : ((y : Int) == 34) = true := hf 34 true (by simp; omega)
      have e92 : ((y : Int) == 92) = false := hf 92 false (by simp; omega)
      have e8 : ((y : Int) == 8) = false := hf 8 false (by simp; omega)
      have e12 : ((y : Int) == 12) = false := hf 12 false (by simp; omega)
      have e10 : ((y : Int) == 10) = false := hf 10 false (by simp; omega)
      have e13 : ((y : Int) == 13) = false := hf 13 false (by simp; omega)
      have e9 : ((y : Int) == 9) = false := hf 9 false (by simp; omega)
      refine walkBF (And.intro @bA_len (And.intro @str_size (And.intro @str_dl (And.intro hx (And.intro hy.symm (And.intro hw (And.intro e34 (And.intro e92 (And.intro e8 (And.intro e12 (And.intro e10 (And.intro e13 e9)))))))))))) ?_
      have hyx : (y : Int) = (x.toNat : Int) := by rw [hy]
      refine .next ⟨(i + 1, c ++ [92, x]), by simp only []; omega, e1, e2⟩ ?_ (by simp only []; omega)
      simp only [bA_len, bA_sc, Weak, eq_self, used_is, sc_any, sc_c, sc_pp, sc_ref, sc_row, sc_agg, sc_fn, ScL, some_imp, List.forall_mem_map, go_sem, Int.reduceBEq, Int.reduceLE, Int.reduceLT, Int.reduceNeg, Nat.reduceAdd, Nat.reduceEqDiff, Nat.reduceLT, Nat.reduceLeDiff, Nat.reduceMul, Nat.reduceSub, reduceCtorEq, ↓reduceIte]
      exact ⟨⟨by simp, cI (by omega)⟩, by simp [bA, hyx], Nat.le_refl _⟩
    by_cases h92 : y = 92
    · have hq : qByte x = [92, x] := by rw [hxy, h92]; rfl
      obtain ⟨e1, e2⟩ := hn _ hq
      have e34 : ((y : Int) == 34) = false := hf 34 false (by simp; omega)
      have e92 : ((y : Int) == 92) = true := hf 92 true (by simp; omega)
      have e8 : ((y : Int) == 8) = false := hf 8 false (by simp; omega)
      have e12 : ((y : Int) == 12) = false := hf 12 false (by simp; omega)
      have e10 : ((y : Int) == 10) = false := hf 10 false (by simp; omega)
      have e13 : ((y : Int) == 13) = false := hf 13 false (by simp; omega)
      have e9 : ((y : Int) == 9) = false := hf 9 false (by simp; omega)
      refine walkBF (And.intro @bA_len (And.intro @str_size (And.intro @str_dl (And.intro hx (And.intro hy.symm (And.intro hw (And.intro e34 (And.intro e92 (And.intro e8 (And.intro e12 (And.intro e10 (And.intro e13 e9)))))))))))) ?_
      have hyx : (y : Int) = (x.toNat : Int) := by rw [hy]
      refine .next ⟨(i + 1, c ++ [92, x]), by simp only []; omega, e1, e2⟩ ?_ (by simp only []; omega)
      simp only [bA_len, bA_sc, Weak, eq_self, used_is, sc_any, sc_c, sc_pp, sc_ref, sc_row, sc_agg, sc_fn, ScL, some_imp, List.forall_mem_map, go_sem, Int.reduceBEq, Int.reduceLE, Int.reduceLT, Int.reduceNeg, Nat.reduceAdd, Nat.reduceEqDiff, Nat.reduceLT, Nat.reduceLeDiff, Nat.reduceMul, Nat.reduceSub, reduceCtorEq, ↓reduceIte]
      exact ⟨⟨by simp, cI (by omega)⟩, by simp [bA, hyx], Nat.le_refl _⟩
    by_cases h8 : y = 8
    · have hq : qByte x = [92, 98] := by rw [hxy, h8]; rfl
      obtain ⟨e1, e2⟩ := hn _ hq
      have e34 : ((y : Int) == 34) = false := hf 34 false (by simp; omega)
      have e92 : ((y : Int) == 92) = false := hf 92 false (by simp; omega)
      have e8 : ((y : Int) == 8) = true := hf 8 true (by simp; omega)
      have e12 : ((y : Int) == 12) = false := hf 12 false (by simp; omega)
      have e10 : ((y : Int) == 10) = false := hf 10 false (by simp; omega)
      have e13 : ((y : Int) == 13) = false := hf 13 false (by simp; omega)
      have e9 : ((y : Int) == 9) = false := hf 9 false (by simp; omega)
      refine walkBF (And.intro @bA_len (And.intro @str_size (And.intro @str_dl (And.intro hx (And.intro hy.symm (And.intro hw (And.intro e34 (And.intro e92 (And.intro e8 (And.intro e12 (And.intro e10 (And.intro e13 e9)))))))))))) ?_
      refine .next ⟨(i + 1, c ++ [92, 98]), by simp only []; omega, e1, e2⟩ ?_ (by simp only []; omega)
      simp only [bA_len, bA_sc, Weak, eq_self, used_is, sc_any, sc_c, sc_pp, sc_ref, sc_row, sc_agg, sc_fn, ScL, some_imp, List.forall_mem_map, go_sem, Int.reduceBEq, Int.reduceLE, Int.reduceLT, Int.reduceNeg, Nat.reduceAdd, Nat.reduceEqDiff, Nat.reduceLT, Nat.reduceLeDiff, Nat.reduceMul, Nat.reduceSub, reduceCtorEq, ↓reduceIte]
      exact ⟨⟨by simp, cI (by omega)⟩, by simp [bA], Nat.le_refl _⟩
    by_cases h12 : y = 12
    · have hq : qByte x = [92, 102] := by rw [hxy, h12]; rfl
      obtain ⟨e1, e2⟩ := hn _ hq
      have e34 : ((y : Int) == 34) = false := hf 34 false (by simp; omega)
      have e92 : ((y : Int) == 92) = false := hf 92 false (by simp; omega)
      have e8 : ((y : Int) == 8) = false := hf 8 false (by simp; omega)
      have e12 : ((y : Int) == 12) = true := hf 12 true (by simp; omega)
      have e10 : ((y : Int) == 10) = false := hf 10 false (by simp; omega)
      have e13 : ((y : Int) == 13) = false := hf 13 false (by simp; omega)
      have e9 : ((y : Int) == 9) = false := hf 9 false (by simp; omega)
      refine walkBF (And.intro @bA_len (And.intro @str_size (And.intro @str_dl (And.intro hx (And.intro hy.symm (And.intro hw (And.intro e34 (And.intro e92 (And.intro e8 (And.intro e12 (And.intro e10 (And.intro e13 e9)))))))))))) ?_
      refine .next ⟨(i + 1, c ++ [92, 102]), by simp only []; omega, e1, e2⟩ ?_ (by simp only []; omega)
      simp only [bA_len, bA_sc, Weak, eq_self, used_is, sc_any, sc_c, sc_pp, sc_ref, sc_row, sc_agg, sc_fn, ScL, some_imp, List.forall_mem_map, go_sem, Int.reduceBEq, Int.reduceLE, Int.reduceLT, Int.reduceNeg, Nat.reduceAdd, Nat.reduceEqDiff, Nat.reduceLT, Nat.reduceLeDiff, Nat.reduceMul, Nat.reduceSub, reduceCtorEq, ↓reduceIte]
      exact ⟨⟨by simp, cI (by omega)⟩, by simp [bA], Nat.le_refl _⟩
    by_cases h10 : y = 10
    · have hq : qByte x = [92, 110] := by rw [hxy, h10]; rfl
      obtain ⟨e1, e2⟩ := hn _ hq
      have e34 : ((y : Int) == 34) = false := hf 34 false (by simp; omega)
      have e92 : ((y : Int) == 92) = false := hf 92 false (by simp; omega)
      have e8 : ((y : Int) == 8) = false := hf 8 false (by simp; omega)
      have e12 : ((y : Int) == 12) = false := hf 12 false (by simp; omega)
      have e10 : ((y : Int) == 10) = true := hf 10 true (by simp; omega)
      have e13 : ((y : Int) == 13) = false := hf 13 false (by simp; omega)
      have e9 : ((y : Int) == 9) = false := hf 9 false (by simp; omega)
      refine walkBF (And.intro @bA_len (And.intro @str_size (And.intro @str_dl (And.intro hx (And.intro hy.symm (And.intro hw (And.intro e34 (And.intro e92 (And.intro e8 (And.intro e12 (And.intro e10 (And.intro e13 e9)))))))))))) ?_
      refine .next ⟨(i + 1, c ++ [92, 110]), by simp only []; omega, e1, e2⟩ ?_ (by simp only []; omega)
      simp only [bA_len, bA_sc, Weak, eq_self, used_is, sc_any, sc_c, sc_pp, sc_ref, sc_row, sc_agg, sc_fn, ScL, some_imp, List.forall_mem_map, go_sem, Int.reduceBEq, Int.reduceLE, Int.reduceLT, Int.reduceNeg, Nat.reduceAdd, Nat.reduceEqDiff, Nat.reduceLT, Nat.reduceLeDiff, Nat.reduceMul, Nat.reduceSub, reduceCtorEq, ↓reduceIte]
      exact ⟨⟨by simp, cI (by omega)⟩, by simp [bA], Nat.le_refl _⟩
    by_cases h13 : y = 13
    · have hq : qByte x = [92, 114] := by rw [hxy, h13]; rfl
      obtain ⟨e1, e2⟩ := hn _ hq
      have e34 : ((y : Int) == 34) = false := hf 34 false (by simp; omega)
      have e92 : ((y : Int) == 92) = false := hf 92 false (by simp; omega)
      have e8 : ((y : Int) == 8) = false := hf 8 false (by simp; omega)
      have e12 : ((y : Int) == 12) = false := hf 12 false (by simp; omega)
      have e10 : ((y : Int) == 10) = false := hf 10 false (by simp; omega)
      have e13 : ((y : Int) == 13) = true := hf 13 true (by simp; omega)
      have e9 : ((y : Int) == 9) = false := hf 9 false (by simp; omega)
      refine walkBF (And.intro @bA_len (And.intro @str_size (And.intro @str_dl (And.intro hx (And.intro hy.symm (And.intro hw (And.intro e34 (And.intro e92 (And.intro e8 (And.intro e12 (And.intro e10 (And.intro e13 e9)))))))))))) ?_
      refine .next ⟨(i + 1, c ++ [92, 114]), by simp only []; omega, e1, e2⟩ ?_ (by simp only []; omega)
      simp only [bA_len, bA_sc, Weak, eq_self, used_is, sc_any, sc_c, sc_pp, sc_ref, sc_row, sc_agg, sc_fn, ScL, some_imp, List.forall_mem_map, go_sem, Int.reduceBEq, Int.reduceLE, Int.reduceLT, Int.reduceNeg, Nat.reduceAdd, Nat.reduceEqDiff, Nat.reduceLT, Nat.reduceLeDiff, Nat.reduceMul, Nat.reduceSub, reduceCtorEq, ↓reduceIte]
      exact ⟨⟨by simp, cI (by omega)⟩, by simp [bA], Nat.le_refl _⟩
    by_cases h9 : y = 9
    · have hq : qByte x = [92, 116] := by rw [hxy, h9]; rfl
      obtain ⟨e1, e2⟩ := hn _ hq
      have e34 : ((y : Int) == 34) = false := hf 34 false (by simp; omega)
      have e92 : ((y : Int) == 92) = false := hf 92 false (by simp; omega)
      have e8 : ((y : Int) == 8) = false := hf 8 false (by simp; omega)
      have e12 : ((y : Int) == 12) = false := hf 12 false (by simp; omega)
      have e10 : ((y : Int) == 10) = false := hf 10 false (by simp; omega)
      have e13 : ((y : Int) == 13) = false := hf 13 false (by simp; omega)
      have e9 : ((y : Int) == 9) = true := hf 9 true (by simp; omega)
      refine walkBF (And.intro @bA_len (And.intro @str_size (And.intro @str_dl (And.intro hx (And.intro hy.symm (And.intro hw (And.intro e34 (And.intro e92 (And.intro e8 (And.intro e12 (And.intro e10 (And.intro e13 e9)))))))))))) ?_
      refine .next ⟨(i + 1, c ++ [92, 116]), by simp only []; omega, e1, e2⟩ ?_ (by simp only []; omega)
      simp only [bA_len, bA_sc, Weak, eq_self, used_is, sc_any, sc_c, sc_pp, sc_ref, sc_row, sc_agg, sc_fn, ScL, some_imp, List.forall_mem_map, go_sem, Int.reduceBEq, Int.reduceLE, Int.reduceLT, Int.reduceNeg, Nat.reduceAdd, Nat.reduceEqDiff, Nat.reduceLT, Nat.reduceLeDiff, Nat.reduceMul, Nat.reduceSub, reduceCtorEq, ↓reduceIte]
      exact ⟨⟨by simp, cI (by omega)⟩, by simp [bA], Nat.le_refl _⟩
    have e34 : ((y : Int) == 34) = false := hf 34 false (by simp; omega)
    have e92 : ((y : Int) == 92) = false := hf 92 false (by simp; omega)
    have e8 : ((y : Int) == 8) = false := hf 8 false (by simp; omega)
    have e12 : ((y : Int) == 12) = false := hf 12 false (by simp; omega)
    have e10 : ((y : Int) == 10) = false := hf 10 false (by simp; omega)
    have e13 : ((y : Int) == 13) = false := hf 13 false (by simp; omega)
    have e9 : ((y : Int) == 9) = false := hf 9 false (by simp; omega)
    have hqb : qByte x = if y < 32 then [92, 117, 48, 48, hexD (y / 16), hexD (y % 16)] else [x] := by
      unfold qByte
      rw [← hy, if_neg h34, if_neg h92, if_neg h8, if_neg h12, if_neg h10, if_neg h13, if_neg h9]
    by_cases h32 : y < 32
    · rw [if_pos h32] at hqb
      obtain ⟨e1, e2⟩ := hn _ hqb
      have hd : decide ((y : Int) < 32) = true := by simp; omega
      have z1 : (⟨#[48, 49, 50, 51, 52, 53, 54, 55, 56, 57, 97, 98, 99, 100, 101, 102]⟩ : ByteArray).size = 16 := rfl
      have z2 : ∀ k : Nat, k < 16 → (((⟨#[48, 49, 50, 51, 52, 53, 54, 55, 56, 57, 97, 98, 99, 100, 101, 102]⟩ : ByteArray).data.toList)[k]?).getD 0 = hexD k := by decide +kernel
      have z3 : IntKind.u8.wrap ((y : Int).tdiv 16) = ((y / 16 : Nat) : Int) := by
        show IntKind.u8.wrap (((y / 16 : Nat) : Int)) = _
        rw [IntWalk.u8_in _ ⟨by omega, by omega⟩]
      have z4 : ((y : Int).tmod 16) = ((y % 16 : Nat) : Int) := rfl
      have z5 := z2 (y / 16) (by omega)
      have z6 := z2 (y % 16) (by omega)
      (repeat (first | refine pass ?_ | refine VC.region (by rfl) (by rfl) ?_ | (refine AO.step fun K hK => ?_; simp only [bA_len, str_size, str_dl, hx, ← hy, hw, e34, e92, e8, e12, e10, e13, e9, hd, z1, z3, z4, z5, z6, Int.toNat_natCast, go_sem, Int.reduceBEq, Int.reduceLE, Int.reduceLT, Int.reduceNeg, Nat.reduceAdd, Nat.reduceEqDiff, Nat.reduceLT, Nat.reduceLeDiff, Nat.reduceMul, Nat.reduceSub, reduceCtorEq, ↓reduceIte]; (first | refine gsel_skip ?_ | refine gsel_go ?_ | skip); (first | refine hK _ _ _ ?_ | refine ⟨by first | omega | exact ⟨_, rfl, rfl⟩ | exact fun _ => ⟨_, rfl, rfl⟩ | (intro h; simp only [bA_len, str_size, str_dl, hx, ← hy, hw, e34, e92, e8, e12, e10, e13, e9, hd, z1, z3, z4, z5, z6, Int.toNat_natCast, h, true_and]; omega) | (clear hK; intro h; simp_all <;> omega), hK _ _ _ ?_⟩); clear hK K) | refine VC.draw mixP (by rfl) (by rfl) ?_ | refine ⟨okd_of (by kernel_rfl), ?_⟩ | refine BQ.other (by decide) ?_ | refine VC.seq ?_ | refine AO.nil ?_ | refine VC.block ?_ | refine VC.condT (by rfl) (by trivial) ?_ | refine VC.condF (by rfl) (by trivial) ?_))
      refine .next ⟨(i + 1, c ++ [92, 117, 48, 48, hexD (y / 16), hexD (y % 16)]), by simp only []; omega, e1, e2⟩ ?_ (by simp only []; omega)
      simp only [bA_len, bA_sc, Weak, eq_self, used_is, sc_any, sc_c, sc_pp, sc_ref, sc_row, sc_agg, sc_fn, ScL, some_imp, List.forall_mem_map, go_sem, Int.reduceBEq, Int.reduceLE, Int.reduceLT, Int.reduceNeg, Nat.reduceAdd, Nat.reduceEqDiff, Nat.reduceLT, Nat.reduceLeDiff, Nat.reduceMul, Nat.reduceSub, reduceCtorEq, ↓reduceIte]
      exact ⟨⟨by simp, cI (by omega)⟩, by simp [bA], Nat.le_refl _⟩
    · rw [if_neg h32] at hqb
      obtain ⟨e1, e2⟩ := hn _ hqb
      have hd : decide ((y : Int) < 32) = false := by simp; omega
      refine walkBF (And.intro @bA_len (And.intro @str_size (And.intro @str_dl (And.intro hx (And.intro hy.symm (And.intro hw (And.intro e34 (And.intro e92 (And.intro e8 (And.intro e12 (And.intro e10 (And.intro e13 (And.intro e9 hd))))))))))))) ?_
      have hyx : (y : Int) = (x.toNat : Int) := by rw [hy]
      refine .next ⟨(i + 1, c ++ [x]), by simp only []; omega, e1, e2⟩ ?_ (by simp only []; omega)
      simp only [bA_len, bA_sc, Weak, eq_self, used_is, sc_any, sc_c, sc_pp, sc_ref, sc_row, sc_agg, sc_fn, ScL, some_imp, List.forall_mem_map, go_sem, Int.reduceBEq, Int.reduceLE, Int.reduceLT, Int.reduceNeg, Nat.reduceAdd, Nat.reduceEqDiff, Nat.reduceLT, Nat.reduceLeDiff, Nat.reduceMul, Nat.reduceSub, reduceCtorEq, ↓reduceIte]
      exact ⟨⟨by simp, cI (by omega)⟩, by simp [bA, hyx], Nat.le_refl _⟩
  · have hge : i = s.length := by simp at hc; omega
    subst hge
    rw [List.take_length] at hcc
    have hfin : c ++ [34] = mQuote s := by rw [hcc, mQuote]; try simp
    refine walkGF (@bA_len) ?_
    (refine AO.step fun K hK => ?_; simp only [go_sem, Int.reduceBEq, Int.reduceLE, Int.reduceLT, Int.reduceNeg, Nat.reduceAdd, Nat.reduceEqDiff, Nat.reduceLT, Nat.reduceLeDiff, Nat.reduceMul, Nat.reduceSub, reduceCtorEq, ↓reduceIte, bA_len]; (first | refine gsel_go ?_ | skip))
    refine ⟨bytePV (c ++ [34]), ⟨by simp [bA], by rw [← bA_pv]; simp [bA], bytePV_ok _⟩, hK _ _ _ ?_⟩; clear hK K
    refine walkGF (@bytesOf_pv) ?_
    refine ⟨by first | exact .inr rfl | exact .inl rfl, ?_⟩; rw [Tryz.results195]; simp only [resOk, resV, go_sem, Int.reduceBEq, Int.reduceLE, Int.reduceLT, Int.reduceNeg, Nat.reduceAdd, Nat.reduceEqDiff, Nat.reduceLT, Nat.reduceLeDiff, Nat.reduceMul, Nat.reduceSub, reduceCtorEq, ↓reduceIte]
    rw [hfin]
    exact .c _

theorem str_add (l m : List UInt8) : (⟨l.toArray⟩ : ByteArray) ++ ⟨m.toArray⟩ = ⟨(l ++ m).toArray⟩ := by
  apply ByteArray.ext
  simp
theorem bsz' (l : List UInt8) : (⟨l.toArray⟩ : ByteArray).size = l.length := by simp [ByteArray.size]
set_option maxRecDepth 100000 in
set_option maxHeartbeats 800000 in
theorem rnumber_told (n : Int) (h1 : -9223372036854775808 ≤ n) (h2 : n ≤ 9223372036854775807) : Told Tryz.prog 197 [.c (.v (.int .i64 n))] (.c (.v (.string (str (mNumb n))))) := by
  obtain ⟨u, hu⟩ : ∃ u, u = n.natAbs := ⟨_, rfl⟩
  have hm : mNumb n = (if n < 0 then [45] else []) ++ digs u := by rw [hu]; rfl
  obtain ⟨M, hM⟩ : ∃ M, M = mNumb n := ⟨_, rfl⟩
  rw [← hM] at hm ⊢
  have hul : u < 10 ^ 20 := by omega
  have hdl := digs_len 19 u hul
  unfold str
  refine VC.told ent_197 Tryz.func197 rfl Tryz.ntmps197 (by simp) (by first | rfl | simp [AV.pureB, AV.pureL, pureL_c, pures]) (by first | rfl | simp [AV.pureB, AV.pureL, pureL_c, pures]) fun hb => ?_
  clear hb
  refine walkG ?_
  refine VC.meet [(0, .c (.v (.int .i64 n))), (3, .c (.v (.string ⟨([] : List UInt8).toArray⟩))), (4, .c (.v (.int .u64 (u : Int))))] [] 200 ?_ ?_
  · refine VC.cond (by rfl) (by trivial) (fun hc => ?_) (fun hc => ?_)
    · have hn : n < 0 := by simpa using hc
      have hw1 : IntKind.i64.wrap (n + 1) = n + 1 := wrap64_id (by omega) (by omega)
      have hw2 : IntKind.i64.wrap (0 - (n + 1)) = 0 - (n + 1) := wrap64_id (by omega) (by omega)
      have hw3 : IntKind.u64.wrap (IntKind.u64.wrap (0 - (n + 1)) + 1) = (u : Int) := by
        rw [IntKind.wrap_u64, IntKind.wrap_u64]
        omega
      refine walkGF (And.intro hw1 (And.intro hw2 hw3)) ?_
      refine .normal ?_
      simp only [Weak, eq_self, used_is, sc_any, sc_c, sc_pp, sc_ref, sc_row, sc_agg, sc_fn, ScL, some_imp, List.forall_mem_map, go_sem, Int.reduceBEq, Int.reduceLE, Int.reduceLT, Int.reduceNeg, Nat.reduceAdd, Nat.reduceEqDiff, Nat.reduceLT, Nat.reduceLeDiff, Nat.reduceMul, Nat.reduceSub, reduceCtorEq, ↓reduceIte]
    · have hn : ¬ n < 0 := by simpa using hc
      have hw : IntKind.u64.wrap n = (u : Int) := by rw [IntWalk.u64_in _ ⟨by omega, by omega⟩]; omega
      refine walkGF (hw) ?_
      refine .normal ?_
      simp only [hw, Weak, eq_self, used_is, sc_any, sc_c, sc_pp, sc_ref, sc_row, sc_agg, sc_fn, ScL, some_imp, List.forall_mem_map, go_sem, Int.reduceBEq, Int.reduceLE, Int.reduceLT, Int.reduceNeg, Nat.reduceAdd, Nat.reduceEqDiff, Nat.reduceLT, Nat.reduceLeDiff, Nat.reduceMul, Nat.reduceSub, reduceCtorEq, ↓reduceIte]
  refine walkG ?_
  refine VC.loop (ι := {q : Nat × List UInt8 // q.1 ≤ u ∧ digs u = digs q.1 ++ q.2}) (fun q => [(0, .c (.v (.int .i64 n))), (3, .c (.v (.string ⟨q.1.2.toArray⟩))), (4, .c (.v (.int .u64 (q.1.1 : Int))))]) (fun q => []) 208 (fun q => q.1.1) ⟨(u, []), Nat.le_refl _, by simp⟩ ?_ ?_
  · simp only [Weak, eq_self, used_is, sc_any, sc_c, sc_pp, sc_ref, sc_row, sc_agg, sc_fn, ScL, some_imp, List.forall_mem_map, go_sem, Int.reduceBEq, Int.reduceLE, Int.reduceLT, Int.reduceNeg, Nat.reduceAdd, Nat.reduceEqDiff, Nat.reduceLT, Nat.reduceLeDiff, Nat.reduceMul, Nat.reduceSub, reduceCtorEq, ↓reduceIte]
  rintro ⟨⟨v, ds⟩, hv, hd⟩
  simp only [] at hv hd ⊢
  have hdl2 : ds.length ≤ 20 := by rw [hd] at hdl; simp at hdl; omega
  have hdig : IntKind.u8.wrap (IntKind.u64.wrap (48 + ((v : Int).tmod 10))) = ((UInt8.ofNat (48 + v % 10)).toNat : Int) := by
    rw [← numb_digit v]
    rfl
  refine walkG ?_
  refine VC.cond (by rfl) (by trivial) (fun hc => ?_) (fun hc => ?_)
  · have hv9 : ¬ v < 10 := by simp at hc; omega
    have hq : IntKind.u64.wrap ((v : Int).tdiv 10) = ((v / 10 : Nat) : Int) := by rw [IntWalk.u64_quo _ _ ⟨by omega, by omega, by omega⟩]; omega
    obtain ⟨x, hx⟩ : ∃ x, x = UInt8.ofNat (48 + v % 10) := ⟨_, rfl⟩
    rw [← hx] at hdig
    refine walkGF (hdig) ?_
    (refine AO.step fun K hK => ?_; simp only [go_sem, Int.reduceBEq, Int.reduceLE, Int.reduceLT, Int.reduceNeg, Nat.reduceAdd, Nat.reduceEqDiff, Nat.reduceLT, Nat.reduceLeDiff, Nat.reduceMul, Nat.reduceSub, reduceCtorEq, ↓reduceIte]; (first | refine gsel_go ?_ | skip))
    refine ⟨bytePV [x], ⟨rfl, bytePV_ok [x]⟩, hK _ _ _ ?_⟩; clear hK K
    have hs := str_add [x] ds
    have hz1 := bsz' [x]
    have hz2 := bsz' ds
    (repeat (first | refine pass ?_ | refine VC.region (by rfl) (by rfl) ?_ | (refine AO.step fun K hK => ?_; simp only [bytesOf_pv, bstr, hs, hz1, hz2, hq, go_sem, Int.reduceBEq, Int.reduceLE, Int.reduceLT, Int.reduceNeg, Nat.reduceAdd, Nat.reduceEqDiff, Nat.reduceLT, Nat.reduceLeDiff, Nat.reduceMul, Nat.reduceSub, reduceCtorEq, ↓reduceIte]; (first | refine gsel_skip ?_ | refine gsel_go ?_ | skip); (first | refine hK _ _ _ ?_ | refine ⟨by first | omega | exact ⟨_, rfl, rfl⟩ | exact fun _ => ⟨_, rfl, rfl⟩ | (intro h; simp only [bytesOf_pv, bstr, hs, hz1, hz2, hq, h, true_and]; omega) | (clear hK; intro h; simp_all <;> omega), hK _ _ _ ?_⟩); clear hK K) | refine VC.draw mixP (by rfl) (by rfl) ?_ | refine ⟨okd_of (by kernel_rfl), ?_⟩ | refine BQ.other (by decide) ?_ | refine VC.seq ?_ | refine AO.nil ?_ | refine VC.block ?_))
    refine .next ⟨(v / 10, x :: ds), by simp only []; omega, by simp only []; rw [hd, digs_ge hv9, hx]; simp⟩ ?_ (by simp only []; omega)
    simp only [Weak, eq_self, used_is, sc_any, sc_c, sc_pp, sc_ref, sc_row, sc_agg, sc_fn, ScL, some_imp, List.forall_mem_map, go_sem, Int.reduceBEq, Int.reduceLE, Int.reduceLT, Int.reduceNeg, Nat.reduceAdd, Nat.reduceEqDiff, Nat.reduceLT, Nat.reduceLeDiff, Nat.reduceMul, Nat.reduceSub, reduceCtorEq, ↓reduceIte]
  · have hv9 : v < 10 := by simp at hc; omega
    have hvm : IntKind.u8.wrap (IntKind.u64.wrap (48 + (v : Int))) = ((UInt8.ofNat (48 + v)).toNat : Int) := by
      have := numb_digit v
      rwa [Nat.mod_eq_of_lt hv9] at this
    obtain ⟨x, hx⟩ : ∃ x, x = UInt8.ofNat (48 + v) := ⟨_, rfl⟩
    rw [← hx] at hvm
    have hfin : digs u = x :: ds := by rw [hd, digs_lt hv9, hx]; rfl
    rw [hfin] at hm
    refine walkGF (hvm) ?_
    (refine AO.step fun K hK => ?_; simp only [go_sem, Int.reduceBEq, Int.reduceLE, Int.reduceLT, Int.reduceNeg, Nat.reduceAdd, Nat.reduceEqDiff, Nat.reduceLT, Nat.reduceLeDiff, Nat.reduceMul, Nat.reduceSub, reduceCtorEq, ↓reduceIte]; (first | refine gsel_go ?_ | skip))
    refine ⟨bytePV [x], ⟨rfl, bytePV_ok [x]⟩, hK _ _ _ ?_⟩; clear hK K
    have hs := str_add [x] ds
    have hz1 := bsz' [x]
    have hz2 := bsz' ds
    (repeat (first | refine pass ?_ | refine VC.region (by rfl) (by rfl) ?_ | (refine AO.step fun K hK => ?_; simp only [bytesOf_pv, bstr, hs, hz1, hz2, go_sem, Int.reduceBEq, Int.reduceLE, Int.reduceLT, Int.reduceNeg, Nat.reduceAdd, Nat.reduceEqDiff, Nat.reduceLT, Nat.reduceLeDiff, Nat.reduceMul, Nat.reduceSub, reduceCtorEq, ↓reduceIte]; (first | refine gsel_skip ?_ | refine gsel_go ?_ | skip); (first | refine hK _ _ _ ?_ | refine ⟨by first | omega | exact ⟨_, rfl, rfl⟩ | exact fun _ => ⟨_, rfl, rfl⟩ | (intro h; simp only [bytesOf_pv, bstr, hs, hz1, hz2, h, true_and]; omega) | (clear hK; intro h; simp_all <;> omega), hK _ _ _ ?_⟩); clear hK K) | refine VC.draw mixP (by rfl) (by rfl) ?_ | refine ⟨okd_of (by kernel_rfl), ?_⟩ | refine BQ.other (by decide) ?_ | refine VC.seq ?_ | refine AO.nil ?_ | refine VC.block ?_))
    refine VC.cond (by rfl) (by trivial) (fun h3 => ?_) (fun h3 => ?_)
    · have hn : n < 0 := by simpa using h3
      rw [if_pos hn] at hm
      have hs2 : (⟨#[45]⟩ : ByteArray) ++ ⟨(x :: ds).toArray⟩ = ⟨(45 :: x :: ds).toArray⟩ := str_add [45] (x :: ds)
      have hz3 : (⟨#[45]⟩ : ByteArray).size = 1 := rfl
      have hz4 := bsz' (x :: ds)
      refine walkGF (And.intro hs2 (And.intro hz3 hz4)) ?_
      refine ⟨by first | exact .inr rfl | exact .inl rfl, ?_⟩; rw [Tryz.results197]; simp only [resOk, resV, go_sem, Int.reduceBEq, Int.reduceLE, Int.reduceLT, Int.reduceNeg, Nat.reduceAdd, Nat.reduceEqDiff, Nat.reduceLT, Nat.reduceLeDiff, Nat.reduceMul, Nat.reduceSub, reduceCtorEq, ↓reduceIte]
      subst hm
      exact .c _
    · have hn : ¬ n < 0 := by simpa using h3
      rw [if_neg hn] at hm
      refine walkG ?_
      refine ⟨by first | exact .inr rfl | exact .inl rfl, ?_⟩; rw [Tryz.results197]; simp only [resOk, resV, go_sem, Int.reduceBEq, Int.reduceLE, Int.reduceLT, Int.reduceNeg, Nat.reduceAdd, Nat.reduceEqDiff, Nat.reduceLT, Nat.reduceLeDiff, Nat.reduceMul, Nat.reduceSub, reduceCtorEq, ↓reduceIte]
      subst hm
      exact .c _

set_option maxRecDepth 100000 in
set_option maxHeartbeats 400000 in
theorem sindex_told (ks : List (List UInt8)) (key : List UInt8) : Told Tryz.prog 118 [.c (.sl 1 (ks.map sPV)), .c (.v (.string (str key)))] (.c (.v (.int .i64 (idxS key ks)))) := by
  refine VC.told ent_118 Tryz.func118 rfl Tryz.ntmps118 (by simp) rfl rfl fun hb => ?_
  simp only [abd_c, pbd_sl, pbd_v, List.mem_cons, List.not_mem_nil, or_false, forall_eq_or_imp, forall_eq, List.length_map, and_true] at hb
  have h1 := hb.1
  clear hb
  refine walkG ?_
  refine VC.loop (ι := {i : Nat // i ≤ ks.length ∧ ∀ j, j < i → ks[j]? ≠ some key}) (fun i => [(0, .c (.sl 1 (ks.map sPV))), (1, .c (.v (.string (str key)))), (7, .c (.v (.int .i64 ks.length))), (8, .c (.v (.int .i64 i.1)))]) (fun _ => []) 0 (fun i => ks.length - i.1) ⟨0, Nat.zero_le _, by intro j hj; omega⟩ ?_ ?_
  · simp only [Weak, eq_self, used_is, sc_any, sc_c, sc_pp, sc_ref, sc_row, sc_agg, sc_fn, ScL, some_imp, List.forall_mem_map, go_sem, Int.reduceBEq, Int.reduceLE, Int.reduceLT, Int.reduceNeg, Nat.reduceAdd, Nat.reduceEqDiff, Nat.reduceLT, Nat.reduceLeDiff, Nat.reduceMul, Nat.reduceSub, reduceCtorEq, ↓reduceIte]
    all_goals rfl
  rintro ⟨i, hi, ht⟩
  refine walkG ?_
  refine VC.cond (by rfl) (by trivial) (fun hc => ?_) (fun hc => ?_)
  · simp only [decide_eq_true_eq] at hc
    obtain ⟨x, hx⟩ : ∃ x, ks[i]? = some x := ⟨ks[i], List.getElem?_eq_getElem (by omega)⟩
    have hw : IntKind.i64.wrap ((i : Int) + 1) = (i : Int) + 1 := wrap64_id (by omega) (by omega)
    (repeat (first | refine pass ?_ | refine VC.region (by rfl) (by rfl) ?_ | (refine AO.step fun K hK => ?_; simp only [List.getElem?_map, hx, sPV, str_toList, go_sem, Int.reduceBEq, Int.reduceLE, Int.reduceLT, Int.reduceNeg, Nat.reduceAdd, Nat.reduceEqDiff, Nat.reduceLT, Nat.reduceLeDiff, Nat.reduceMul, Nat.reduceSub, reduceCtorEq, ↓reduceIte]; (first | refine gsel_skip ?_ | refine gsel_go ?_ | skip); (first | refine hK _ _ _ ?_ | refine ⟨by first | omega | exact ⟨_, rfl, rfl⟩ | exact fun _ => ⟨_, rfl, rfl⟩ | (intro h; simp only [List.getElem?_map, hx, sPV, str_toList, h, true_and]; omega) | (clear hK; intro h; simp_all <;> omega), hK _ _ _ ?_⟩); clear hK K) | refine VC.draw mixP (by rfl) (by rfl) ?_ | refine ⟨okd_of (by kernel_rfl), ?_⟩ | refine BQ.other (by decide) ?_ | refine VC.seq ?_ | refine AO.nil ?_ | refine VC.block ?_))
    refine VC.cond (by rfl) (by trivial) (fun hc2 => ?_) (fun hc2 => ?_)
    · have hxy : key = x := by simpa using hc2
      subst hxy
      have hr := idxS_at hx ht
      refine walkG ?_
      refine ⟨.inr rfl, ?_⟩
      rw [Tryz.results118, hr]
      simp only [resOk, resV, go_sem, Int.reduceBEq, Int.reduceLE, Int.reduceLT, Int.reduceNeg, Nat.reduceAdd, Nat.reduceEqDiff, Nat.reduceLT, Nat.reduceLeDiff, Nat.reduceMul, Nat.reduceSub, reduceCtorEq, ↓reduceIte]
      exact .c _
    · have hxy : key ≠ x := by simpa using hc2
      refine walkGF (hw) ?_
      refine .next ⟨i + 1, by omega, fun j hj => ?_⟩ ?_ (by simp only []; omega)
      · rcases Nat.lt_or_ge j i with h | h
        · exact ht j h
        · obtain rfl : j = i := by omega
          rw [hx]
          intro e
          exact hxy (Option.some.inj e).symm
      simp only [Weak, eq_self, used_is, sc_any, sc_c, sc_pp, sc_ref, sc_row, sc_agg, sc_fn, ScL, some_imp, List.forall_mem_map, go_sem, Int.reduceBEq, Int.reduceLE, Int.reduceLT, Int.reduceNeg, Nat.reduceAdd, Nat.reduceEqDiff, Nat.reduceLT, Nat.reduceLeDiff, Nat.reduceMul, Nat.reduceSub, reduceCtorEq, ↓reduceIte]
      exact cI (by omega)
  · simp only [decide_eq_false_iff_not] at hc
    obtain rfl : i = ks.length := by omega
    have hr := idxS_none ht
    refine walkG ?_
    refine ⟨.inr rfl, ?_⟩
    rw [Tryz.results118, hr]
    simp only [resOk, resV, go_sem, Int.reduceBEq, Int.reduceLE, Int.reduceLT, Int.reduceNeg, Nat.reduceAdd, Nat.reduceEqDiff, Nat.reduceLT, Nat.reduceLeDiff, Nat.reduceMul, Nat.reduceSub, reduceCtorEq, ↓reduceIte]
    exact .c _

theorem named_told (k : Int) : Told Tryz.prog 98 [.c (.v (.int .i64 k))] (.c (.v (.bool (namedK k)))) := by
  obtain ⟨V, hV⟩ : ∃ V, V = namedK k := ⟨_, rfl⟩
  rw [← hV]
  unfold namedK at hV
  replace hV := Lib.hid hV
  refine VC.told ent_98 Tryz.func98 rfl Tryz.ntmps98 (by simp) (by first | rfl | simp [AV.pureB, AV.pureL, pureL_c, pures]) (by first | rfl | simp [AV.pureB, AV.pureL, pureL_c, pures]) fun hb => ?_
  clear hb
  refine walkG ?_
  refine ⟨by first | exact .inr rfl | exact .inl rfl, ?_⟩; rw [Tryz.results98]; simp only [resOk, resV, go_sem, Int.reduceBEq, Int.reduceLE, Int.reduceLT, Int.reduceNeg, Nat.reduceAdd, Nat.reduceEqDiff, Nat.reduceLT, Nat.reduceLeDiff, Nat.reduceMul, Nat.reduceSub, reduceCtorEq, ↓reduceIte]
  rw [hV.out]
  exact .c _
theorem idxS_ge (key : List UInt8) (ks : List (List UInt8)) : decide (idxS key ks ≥ 0) = ks.contains key := by
  unfold idxS
  cases h : ks.findIdx? (fun k => decide (key = k)) with
  | none =>
    rw [List.findIdx?_eq_none_iff] at h
    have : key ∉ ks := fun hm => by simpa using h key hm
    simp [this]
  | some i =>
    rw [List.findIdx?_eq_some_iff_getElem] at h
    obtain ⟨hi, h1, _⟩ := h
    have : key ∈ ks := by
      have := List.getElem_mem hi
      simp at h1
      rwa [← h1] at this
    simp [this]
set_option maxRecDepth 100000 in
set_option maxHeartbeats 400000 in
theorem contains_told (ks : List (List UInt8)) (key : List UInt8) : Told Tryz.prog 183 [.c (.sl 1 (ks.map sPV)), .c (.v (.string (str key)))] (.c (.v (.bool (ks.contains key)))) := by
  have hI := sindex_told ks key
  have hG := idxS_ge key ks
  generalize idxS key ks = z at hI hG
  rw [← hG]
  clear hG
  refine VC.told ent_183 Tryz.func183 rfl Tryz.ntmps183 (by simp) (by first | rfl | simp [AV.pureB, AV.pureL, pureL_c, pures]) (by first | rfl | simp [AV.pureB, AV.pureL, pureL_c, pures]) fun hb => ?_
  clear hb
  refine walkG ?_
  refine walkC (hI) ?_
  refine walkG ?_
  refine ⟨by first | exact .inr rfl | exact .inl rfl, ?_⟩; rw [Tryz.results183]; simp only [resOk, resV, go_sem, Int.reduceBEq, Int.reduceLE, Int.reduceLT, Int.reduceNeg, Nat.reduceAdd, Nat.reduceEqDiff, Nat.reduceLT, Nat.reduceLeDiff, Nat.reduceMul, Nat.reduceSub, reduceCtorEq, ↓reduceIte]
  exact .c _
def fnP (g : FuncId) : PV := .v (.func (.func g) ⟨[]⟩ ⟨[]⟩)
theorem diffM_take {rule : List UInt8 → Bool} {l : List (List UInt8)} {i : Nat} {x : List UInt8} (hx : l[i]? = some x) : diffM rule (l.take (i + 1)) = (diffM rule (l.take i) && (rule x && !(l.take i).contains x)) := by
  have ht : l.take (i + 1) = l.take i ++ [x] := by
    rw [List.take_add_one, hx]
    rfl
  rw [ht, Bool.eq_iff_iff]
  simp only [diffM, List.all_append, List.all_cons, List.all_nil, Bool.and_true, Bool.and_eq_true, decide_eq_true_eq, List.nodup_append, Bool.not_eq_true', List.contains_eq_mem, decide_eq_false_iff_not]
  constructor
  · rintro ⟨⟨h1, h2⟩, h3, _, h5⟩
    exact ⟨⟨h1, h3⟩, h2, fun h => h5 x h x (by simp) rfl⟩
  · rintro ⟨⟨h1, h3⟩, h2, h4⟩
    exact ⟨⟨h1, h2⟩, h3, by simp, fun a ha b hb => by
      obtain rfl := List.mem_singleton.1 hb
      rintro rfl
      exact h4 ha⟩
set_option maxRecDepth 100000 in
set_option maxHeartbeats 800000 in
theorem different_told {g : FuncId} {rule : List UInt8 → Bool} (l : List (List UInt8)) (hl : l.length ≤ 1000000000) (hk : ∀ x ∈ l, Told Tryz.prog g [.c (.v (.string (str x)))] (.c (.v (.bool (rule x))))) :
    Told Tryz.prog 99 [.c (.sl 1 (l.map sPV)), .fn (.func g) [] []] (.c (.v (.bool (diffM rule l)))) := by
  obtain ⟨V, hV⟩ : ∃ V, V = diffM rule l := ⟨_, rfl⟩
  rw [← hV]
  refine VC.told ent_99 Tryz.func99 rfl Tryz.ntmps99 (by simp) (by first | rfl | simp [AV.pureB, AV.pureL, pureL_c, pures]) (by first | rfl | simp [AV.pureB, AV.pureL, pureL_c, pures]) fun hb => ?_
  clear hb
  refine walkG ?_
  refine VC.loop (ι := {i : Nat // i ≤ l.length ∧ diffM rule (l.take i) = true}) (fun q => [(0, .c (.sl 1 (l.map sPV))), (1, .fn (.func g) [] []), (7, .c (.sl 1 (l.map sPV))), (8, .c (.v (.int .i64 (l.length : Int)))), (9, .c (.v (.int .i64 (q.1 : Int))))]) (fun _ => []) 800 (fun q => l.length - q.1) ⟨0, Nat.zero_le _, by simp [diffM]⟩ ?_ ?_
  · simp only [Weak, eq_self, used_is, sc_any, sc_c, sc_pp, sc_ref, sc_row, sc_agg, sc_fn, ScL, some_imp, List.forall_mem_map, go_sem, Int.reduceBEq, Int.reduceLE, Int.reduceLT, Int.reduceNeg, Nat.reduceAdd, Nat.reduceEqDiff, Nat.reduceLT, Nat.reduceLeDiff, Nat.reduceMul, Nat.reduceSub, reduceCtorEq, ↓reduceIte]
    try simp
  rintro ⟨i, hi, ht⟩
  simp only []
  refine walkG ?_
  refine VC.cond (by rfl) (by trivial) (fun hc => ?_) (fun hc => ?_)
  · have hlt : i < l.length := by simp at hc; omega
    obtain ⟨x, hx⟩ : ∃ x, l[i]? = some x := ⟨l[i], List.getElem?_eq_getElem hlt⟩
    have hw : IntKind.i64.wrap ((i : Int) + 1) = (i : Int) + 1 := wrap64_id (by omega) (by omega)
    have hxp : (l.map sPV)[i]? = some (sPV x) := by rw [List.getElem?_map, hx]; rfl
    have hT := hk x (List.mem_of_getElem? hx)
    have hC := contains_told (l.take i) x
    have hn := diffM_take (rule := rule) hx
    rw [ht, Bool.true_and] at hn
    have hmt : (l.map sPV).take i = (l.take i).map sPV := by rw [List.map_take]
    refine walkGF (And.intro hxp @sPV_eq) ?_
    refine walkC (hT) ?_
    refine walkGF (hmt) ?_
    refine walkD (hC) ?_
    refine walkG ?_
    refine VC.cond (by rfl) (by trivial) (fun hc2 => ?_) (fun hc2 => ?_)
    · have hf : V = false := by
        cases h : V with
        | false => rfl
        | true =>
          rw [hV] at h
          have hall : diffM rule (l.take (i + 1)) = true := by
            unfold diffM at h ⊢
            simp only [Bool.and_eq_true, List.all_eq_true, decide_eq_true_eq] at h ⊢
            exact ⟨fun y hy => h.1 y (List.mem_of_mem_take hy), h.2.sublist (List.take_sublist _ _)⟩
          rw [hn] at hall
          simp at hall hc2
          simp [hall] at hc2
      subst hf
      refine walkG ?_
      refine ⟨by first | exact .inr rfl | exact .inl rfl, ?_⟩; rw [Tryz.results99]; simp only [resOk, resV, go_sem, Int.reduceBEq, Int.reduceLE, Int.reduceLT, Int.reduceNeg, Nat.reduceAdd, Nat.reduceEqDiff, Nat.reduceLT, Nat.reduceLeDiff, Nat.reduceMul, Nat.reduceSub, reduceCtorEq, ↓reduceIte]
      exact .c _
    · refine walkGF (hw) ?_
      refine .next ⟨i + 1, by omega, ?_⟩ ?_ (by simp only []; omega)
      · rw [hn]
        simpa using hc2
      simp only [Weak, eq_self, used_is, sc_any, sc_c, sc_pp, sc_ref, sc_row, sc_agg, sc_fn, ScL, some_imp, List.forall_mem_map, go_sem, Int.reduceBEq, Int.reduceLE, Int.reduceLT, Int.reduceNeg, Nat.reduceAdd, Nat.reduceEqDiff, Nat.reduceLT, Nat.reduceLeDiff, Nat.reduceMul, Nat.reduceSub, reduceCtorEq, ↓reduceIte]
      try exact cI (by omega)
  · have hie : i = l.length := by simp at hc; omega
    have hf : V = true := by
      rw [hie, List.take_length] at ht
      rw [hV, ht]
    subst hf
    refine walkG ?_
    refine ⟨by first | exact .inr rfl | exact .inl rfl, ?_⟩; rw [Tryz.results99]; simp only [resOk, resV, go_sem, Int.reduceBEq, Int.reduceLE, Int.reduceLT, Int.reduceNeg, Nat.reduceAdd, Nat.reduceEqDiff, Nat.reduceLT, Nat.reduceLeDiff, Nat.reduceMul, Nat.reduceSub, reduceCtorEq, ↓reduceIte]
    exact .c _

def bkeys5 : Nat → List (List UInt8) → Option Nat
  | n, [] => some n
  | n, y :: ys => if n ≤ 2500 then (if 2500 < y.length then none else bkeys5 (n + 1 + y.length) ys) else some n
mutual
def tbulk5 (d : Nat) : JT → Nat
  | .mk k n s ks xs => if 60 < d ∨ 2500 < s.length ∨ 2500 < ks.length ∨ 2500 < xs.length then 2501 else match bkeys5 (1 + s.length) ks with | none => 2501 | some n => bitems5 d n xs
def bitems5 (d : Nat) : Nat → List JT → Nat
  | n, [] => n
  | n, x :: xs => if n ≤ 2500 then bitems5 d (n + tbulk5 (d + 1) x) xs else n
end
theorem bkeys5_le : ∀ (ys : List (List UInt8)) (n m : Nat), n ≤ 5001 → bkeys5 n ys = some m → m ≤ 5001
  | [], n, m, h, e => by simp [bkeys5] at e; omega
  | y :: ys, n, m, h, e => by
    rw [bkeys5] at e
    split at e
    · split at e
      · simp at e
      · exact bkeys5_le ys _ m (by omega) e
    · simp at e; omega
mutual
theorem tbulk5_le (d : Nat) : ∀ (t : JT), tbulk5 d t ≤ 5001 + 2501 * (61 - d)
  | .mk k n s ks xs => by
    rw [tbulk5]
    split
    · omega
    · rename_i h
      split
      · omega
      · rename_i m hm
        exact bitems5_le d xs m (by have := bkeys5_le ks _ _ (by omega) hm; omega)
theorem bitems5_le (d : Nat) : ∀ (xs : List JT) (n : Nat), n ≤ 5001 + 2501 * (61 - d) → bitems5 d n xs ≤ 5001 + 2501 * (61 - d)
  | [], n, h => by rw [bitems5]; exact h
  | x :: xs, n, h => by
    rw [bitems5]
    split
    · have := tbulk5_le (d + 1) x
      by_cases hd : 60 < d
      · have h2 : tbulk5 (d + 1) x = 2501 := by
          cases x
          rw [tbulk5, if_pos (by omega)]
        exact bitems5_le d xs _ (by omega)
      · exact bitems5_le d xs _ (by omega)
    · exact h
end
theorem bitems5_ge (d : Nat) : ∀ (xs : List JT) (n : Nat), n ≤ bitems5 d n xs
  | [], n => by rw [bitems5]; exact Nat.le_refl _
  | x :: xs, n => by
    rw [bitems5]
    split
    · exact Nat.le_trans (Nat.le_add_right _ _) (bitems5_ge d xs _)
    · exact Nat.le_refl _
mutual
theorem tbulk5_deep (d : Nat) : ∀ (t : JT), tbulk5 d t ≤ 2500 → tdeep t + d ≤ 61
  | .mk k n s ks xs => fun h => by
    rw [tbulk5] at h
    split at h
    · omega
    · rename_i hd
      split at h
      · omega
      · rw [tdeep]
        split
        · exact bitems5_deep d xs _ 1 (by omega) h
        · omega
theorem bitems5_deep (d : Nat) : ∀ (xs : List JT) (n m : Nat), m + d ≤ 61 → bitems5 d n xs ≤ 2500 → tdeeps m xs + d ≤ 61
  | [], n, m, hm, h => by rw [tdeeps]; exact hm
  | x :: xs, n, m, hm, h => by
    rw [bitems5] at h
    split at h
    · have h1 := bitems5_ge d xs (n + tbulk5 (d + 1) x)
      have h2 := tbulk5_deep (d + 1) x (by omega)
      rw [tdeeps]
      exact bitems5_deep d xs _ _ (by omega) h
    · omega
end
theorem bkeys5_step {ks : List (List UInt8)} {i n : Nat} {y : List UInt8} (hy : ks[i]? = some y) (hn : n ≤ 2500) (hl : y.length ≤ 2500) : bkeys5 n (ks.drop i) = bkeys5 (n + 1 + y.length) (ks.drop (i + 1)) := by
  obtain ⟨hlt, rfl⟩ := List.getElem?_eq_some_iff.1 hy
  rw [List.drop_eq_getElem_cons hlt, bkeys5, if_pos hn, if_neg (by omega)]
theorem bkeys5_none {ks : List (List UInt8)} {i n : Nat} {y : List UInt8} (hy : ks[i]? = some y) (hn : n ≤ 2500) (hl : 2500 < y.length) : bkeys5 n (ks.drop i) = none := by
  obtain ⟨hlt, rfl⟩ := List.getElem?_eq_some_iff.1 hy
  rw [List.drop_eq_getElem_cons hlt, bkeys5, if_pos hn, if_pos hl]
theorem bkeys5_end {ks : List (List UInt8)} {i n : Nat} (h : ¬ (i < ks.length ∧ n ≤ 2500)) : bkeys5 n (ks.drop i) = some n := by
  by_cases hlt : i < ks.length
  · rw [List.drop_eq_getElem_cons hlt, bkeys5, if_neg (by omega)]
  · rw [List.drop_of_length_le (by omega), bkeys5]
theorem bitems5_step {d : Nat} {xs : List JT} {i n : Nat} {x : JT} (hx : xs[i]? = some x) (hn : n ≤ 2500) : bitems5 d n (xs.drop i) = bitems5 d (n + tbulk5 (d + 1) x) (xs.drop (i + 1)) := by
  obtain ⟨hlt, rfl⟩ := List.getElem?_eq_some_iff.1 hx
  rw [List.drop_eq_getElem_cons hlt, bitems5, if_pos hn]
theorem bitems5_end {d : Nat} {xs : List JT} {i n : Nat} (h : ¬ (i < xs.length ∧ n ≤ 2500)) : bitems5 d n (xs.drop i) = n := by
  by_cases hlt : i < xs.length
  · rw [List.drop_eq_getElem_cons hlt, bitems5, if_neg (by omega)]
  · rw [List.drop_of_length_le (by omega), bitems5]
set_option maxRecDepth 100000 in
set_option maxHeartbeats 800000 in
theorem bulk_told5 : ∀ (m : Nat) (t : JT), SizeOf.sizeOf t ≤ m → ∀ (d : Nat) (z : Int), d ≤ 61 → z = (d : Int) → Told Tryz.prog 75 [t.av, .c (.v (.int .i64 2500)), .c (.v (.int .i64 z))] (.c (.v (.int .i64 (tbulk5 d t)))) := by
  intro m
  induction m with
  | zero => intro t ht; cases t; simp at ht
  | succ m ih =>
  intro t ht d z hd hz
  cases t with
  | mk k n s ks xs =>
  have hbl := tbulk5_le d (.mk k n s ks xs)
  have hbi := bitems5_le d xs
  refine VC.told ent_75 Tryz.func75 rfl Tryz.ntmps75 (by simp) rfl rfl fun hb => ?_
  simp only [JT.av, cells_mk, List.map_cons, List.map_nil, abd_agg, abd_c, pbd_v, pbd_sl, List.mem_cons, List.not_mem_nil, or_false, forall_eq_or_imp, forall_eq, true_and, List.length_map] at hb ⊢
  clear hb
  have hw21 : IntKind.i64.wrap (2500 + 1) = 2501 := by rfl
  rw [tbulk5] at hbl ⊢
  refine walkGF (@str_size) ?_
  refine VC.cond (by rfl) (by trivial) (fun hc => ?_) (fun hc => ?_)
  · have hcc : 60 < d ∨ 2500 < s.length ∨ 2500 < ks.length ∨ 2500 < xs.length := by
      simp at hc
      omega
    rw [if_pos hcc]
    refine walkGF (hw21) ?_
    refine ⟨.inr rfl, ?_⟩
    rw [Tryz.results75]
    simp only [resOk, resV, go_sem, Int.reduceBEq, Int.reduceLE, Int.reduceLT, Int.reduceNeg, Nat.reduceAdd, Nat.reduceEqDiff, Nat.reduceLT, Nat.reduceLeDiff, Nat.reduceMul, Nat.reduceSub, reduceCtorEq, ↓reduceIte]
    exact .c _
  · have hcc : ¬ (60 < d ∨ 2500 < s.length ∨ 2500 < ks.length ∨ 2500 < xs.length) := by
      simp at hc
      omega
    rw [if_neg hcc] at hbl ⊢
    clear hc
    obtain ⟨V, hV⟩ : ∃ V, V = bkeys5 (1 + s.length) ks := ⟨_, rfl⟩
    rw [← hV] at hbl ⊢
    have hw1 : IntKind.i64.wrap (1 + (s.length : Int)) = 1 + (s.length : Int) := wrap64_id (by omega) (by omega)
    refine walkGF (And.intro @cells_mk (And.intro @str_size hw1)) ?_
    refine VC.loop (ι := {p : Nat × Nat // p.1 ≤ ks.length ∧ p.2 ≤ 5001 ∧ bkeys5 p.2 (ks.drop p.1) = V}) (fun p => [(1, .c (.v (.int .i64 2500))), (2, .c (.v (.int .i64 z))), (3, .ref 0 1 0 0), (7, .c (.v (.int .i64 p.1.2))), (8, .c (.v (.int .i64 p.1.1)))])
      (fun _ => [(0, ⟨false, 36, 5, [(JT.mk k n s ks xs).cells.map .c]⟩)]) 8 (fun p => ks.length - p.1.1) ⟨(0, 1 + s.length), Nat.zero_le _, by simp only []; omega, by simpa using hV.symm⟩ ?_ ?_
    · simp only [cells_mk, Weak, eq_self, used_is, sc_any, sc_c, sc_pp, sc_ref, sc_row, sc_agg, sc_fn, ScL, some_imp, List.forall_mem_map, go_sem, Int.reduceBEq, Int.reduceLE, Int.reduceLT, Int.reduceNeg, Nat.reduceAdd, Nat.reduceEqDiff, Nat.reduceLT, Nat.reduceLeDiff, Nat.reduceMul, Nat.reduceSub, reduceCtorEq, ↓reduceIte]
      all_goals first | rfl | exact cI (by omega)
    rintro ⟨⟨i, b⟩, hi, hb, hbk⟩
    simp only [] at hi hb hbk ⊢
    refine walkGF (@cells_mk) ?_
    refine VC.cond (by rfl) (by trivial) (fun hc => ?_) (fun hc => ?_)
    · have hcc : i < ks.length ∧ b ≤ 2500 := by
        simp at hc
        omega
      clear hc
      obtain ⟨y, hy⟩ : ∃ y, ks[i]? = some y := ⟨ks[i], List.getElem?_eq_getElem hcc.1⟩
      (repeat (first | refine pass ?_ | refine VC.region (by rfl) (by rfl) ?_ | (refine AO.step fun K hK => ?_; simp only [cells_mk, List.getElem?_map, hy, sPV, str_size, go_sem, Int.reduceBEq, Int.reduceLE, Int.reduceLT, Int.reduceNeg, Nat.reduceAdd, Nat.reduceEqDiff, Nat.reduceLT, Nat.reduceLeDiff, Nat.reduceMul, Nat.reduceSub, reduceCtorEq, ↓reduceIte]; (first | refine gsel_skip ?_ | refine gsel_go ?_ | skip); (first | refine hK _ _ _ ?_ | refine ⟨by first | omega | exact ⟨_, rfl, rfl⟩ | exact fun _ => ⟨_, rfl, rfl⟩ | (intro h; simp only [cells_mk, List.getElem?_map, hy, sPV, str_size, h, true_and]; omega) | (clear hK; intro h; simp_all <;> omega), hK _ _ _ ?_⟩); clear hK K) | refine VC.draw mixP (by rfl) (by rfl) ?_ | refine ⟨okd_of (by kernel_rfl), ?_⟩ | refine BQ.other (by decide) ?_ | refine VC.seq ?_ | refine AO.nil ?_ | refine VC.block ?_))
      refine VC.cond (by rfl) (by trivial) (fun hc => ?_) (fun hc => ?_)
      · have hl : 2500 < y.length := by
          simp at hc
          omega
        obtain rfl : V = none := hbk.symm.trans (bkeys5_none hy hcc.2 hl)
        refine walkGF (hw21) ?_
        refine ⟨.inr rfl, ?_⟩
        rw [Tryz.results75]
        simp only [resOk, resV, go_sem, Int.reduceBEq, Int.reduceLE, Int.reduceLT, Int.reduceNeg, Nat.reduceAdd, Nat.reduceEqDiff, Nat.reduceLT, Nat.reduceLeDiff, Nat.reduceMul, Nat.reduceSub, reduceCtorEq, ↓reduceIte]
        exact .c _
      · have hl : y.length ≤ 2500 := by
          simp at hc
          omega
        have hw2 : IntKind.i64.wrap ((b : Int) + 1) = (b : Int) + 1 := wrap64_id (by omega) (by omega)
        have hw3 : IntKind.i64.wrap ((b : Int) + 1 + (y.length : Int)) = (b : Int) + 1 + (y.length : Int) := wrap64_id (by omega) (by omega)
        have hw4 : IntKind.i64.wrap ((i : Int) + 1) = (i : Int) + 1 := wrap64_id (by omega) (by omega)
        (repeat (first | refine pass ?_ | refine VC.region (by rfl) (by rfl) ?_ | (refine AO.step fun K hK => ?_; simp only [cells_mk, List.getElem?_map, hy, sPV, str_size, hw2, hw3, hw4, go_sem, Int.reduceBEq, Int.reduceLE, Int.reduceLT, Int.reduceNeg, Nat.reduceAdd, Nat.reduceEqDiff, Nat.reduceLT, Nat.reduceLeDiff, Nat.reduceMul, Nat.reduceSub, reduceCtorEq, ↓reduceIte]; (first | refine gsel_skip ?_ | refine gsel_go ?_ | skip); (first | refine hK _ _ _ ?_ | refine ⟨by first | omega | exact ⟨_, rfl, rfl⟩ | exact fun _ => ⟨_, rfl, rfl⟩ | (intro h; simp only [cells_mk, List.getElem?_map, hy, sPV, str_size, hw2, hw3, hw4, h, true_and]; omega) | (clear hK; intro h; simp_all <;> omega), hK _ _ _ ?_⟩); clear hK K) | refine VC.draw mixP (by rfl) (by rfl) ?_ | refine ⟨okd_of (by kernel_rfl), ?_⟩ | refine BQ.other (by decide) ?_ | refine VC.seq ?_ | refine AO.nil ?_ | refine VC.block ?_))
        refine .next ⟨(i + 1, b + 1 + y.length), by simp only []; omega, by simp only []; omega, by simp only []; rw [← hbk, bkeys5_step hy hcc.2 hl]⟩ ?_ (by simp only []; omega)
        simp only [cells_mk, Weak, eq_self, used_is, sc_any, sc_c, sc_pp, sc_ref, sc_row, sc_agg, sc_fn, ScL, some_imp, List.forall_mem_map, go_sem, Int.reduceBEq, Int.reduceLE, Int.reduceLT, Int.reduceNeg, Nat.reduceAdd, Nat.reduceEqDiff, Nat.reduceLT, Nat.reduceLeDiff, Nat.reduceMul, Nat.reduceSub, reduceCtorEq, ↓reduceIte]
        exact ⟨cI (by omega), cI (by omega)⟩
    · have hcc : ¬ (i < ks.length ∧ b ≤ 2500) := by
        simp at hc
        omega
      clear hc
      obtain rfl : V = some b := hbk.symm.trans (bkeys5_end hcc)
      simp only [] at hbl ⊢
      obtain ⟨V, hV2⟩ : ∃ V, V = bitems5 d b xs := ⟨_, rfl⟩
      rw [← hV2] at hbl ⊢
      refine walkG ?_
      refine VC.loop (ι := {p : Nat × Nat // p.1 ≤ xs.length ∧ p.2 ≤ 5001 + 2501 * (61 - d) ∧ bitems5 d p.2 (xs.drop p.1) = V}) (fun p => [(1, .c (.v (.int .i64 2500))), (2, .c (.v (.int .i64 z))), (3, .ref 0 1 0 0), (7, .c (.v (.int .i64 p.1.2))), (9, .c (.v (.int .i64 p.1.1)))])
        (fun _ => [(0, ⟨false, 36, 5, [(JT.mk k n s ks xs).cells.map .c]⟩)]) 8 (fun p => xs.length - p.1.1) ⟨(0, b), Nat.zero_le _, by simp only []; omega, by simpa using hV2.symm⟩ ?_ ?_
      · simp only [cells_mk, Weak, eq_self, used_is, sc_any, sc_c, sc_pp, sc_ref, sc_row, sc_agg, sc_fn, ScL, some_imp, List.forall_mem_map, go_sem, Int.reduceBEq, Int.reduceLE, Int.reduceLT, Int.reduceNeg, Nat.reduceAdd, Nat.reduceEqDiff, Nat.reduceLT, Nat.reduceLeDiff, Nat.reduceMul, Nat.reduceSub, reduceCtorEq, ↓reduceIte]
        all_goals rfl
      clear hi hcc hbk
      rintro ⟨⟨i, c⟩, hi, hcb, hbt⟩
      simp only [] at hi hcb hbt ⊢
      refine walkGF (@cells_mk) ?_
      refine VC.cond (by rfl) (by trivial) (fun hc => ?_) (fun hc => ?_)
      · have hcc : i < xs.length ∧ c ≤ 2500 := by
          simp at hc
          omega
        clear hc
        obtain ⟨x, hx⟩ : ∃ x, xs[i]? = some x := ⟨xs[i], List.getElem?_eq_getElem hcc.1⟩
        have hxm := List.mem_of_getElem? hx
        have hsz : SizeOf.sizeOf x ≤ m := by
          have h1 := List.sizeOf_lt_of_mem hxm
          simp at ht
          omega
        have hcall := ih x hsz (d + 1) (z + 1) (by omega) (by omega)
        have hxb := tbulk5_le (d + 1) x
        have hw1 : IntKind.i64.wrap (z + 1) = z + 1 := wrap64_id (by omega) (by omega)
        have hw2 : IntKind.i64.wrap ((c : Int) + (tbulk5 (d + 1) x : Int)) = (c : Int) + (tbulk5 (d + 1) x : Int) := wrap64_id (by omega) (by omega)
        have hw4 : IntKind.i64.wrap ((i : Int) + 1) = (i : Int) + 1 := wrap64_id (by omega) (by omega)
        (repeat (first | refine pass ?_ | refine VC.region (by rfl) (by rfl) ?_ | (refine AO.step fun K hK => ?_; simp only [cells_mk, List.getElem?_map, hx, len_cells, take_cells, take_cellsC, hw1, go_sem, Int.reduceBEq, Int.reduceLE, Int.reduceLT, Int.reduceNeg, Nat.reduceAdd, Nat.reduceEqDiff, Nat.reduceLT, Nat.reduceLeDiff, Nat.reduceMul, Nat.reduceSub, reduceCtorEq, ↓reduceIte]; (first | refine gsel_skip ?_ | refine gsel_go ?_ | skip); (first | refine hK _ _ _ ?_ | refine ⟨by first | omega | exact ⟨_, rfl, rfl⟩ | exact fun _ => ⟨_, rfl, rfl⟩ | (intro h; simp only [cells_mk, List.getElem?_map, hx, len_cells, take_cells, take_cellsC, hw1, h, true_and]; omega) | (clear hK; intro h; simp_all <;> omega), hK _ _ _ ?_⟩); clear hK K) | refine VC.draw mixP (by rfl) (by rfl) ?_ | refine ⟨okd_of (by kernel_rfl), ?_⟩ | refine BQ.other (by decide) ?_ | refine VC.seq ?_ | refine AO.nil ?_ | refine VC.block ?_))
        (refine AO.step fun K hK => ?_; simp only [go_sem, Int.reduceBEq, Int.reduceLE, Int.reduceLT, Int.reduceNeg, Nat.reduceAdd, Nat.reduceEqDiff, Nat.reduceLT, Nat.reduceLeDiff, Nat.reduceMul, Nat.reduceSub, reduceCtorEq, ↓reduceIte, pureL_c]; (first | refine gsel_go ?_ | skip))
        refine .inl ⟨_, hcall, hK _ _ _ ?_⟩
        clear hK K
        refine walkGF (And.intro hw2 hw4) ?_
        refine .next ⟨(i + 1, c + tbulk5 (d + 1) x), by simp only []; omega, by simp only []; omega, by simp only []; rw [← hbt, bitems5_step hx hcc.2]⟩ ?_ (by simp only []; omega)
        simp only [cells_mk, Weak, eq_self, used_is, sc_any, sc_c, sc_pp, sc_ref, sc_row, sc_agg, sc_fn, ScL, some_imp, List.forall_mem_map, go_sem, Int.reduceBEq, Int.reduceLE, Int.reduceLT, Int.reduceNeg, Nat.reduceAdd, Nat.reduceEqDiff, Nat.reduceLT, Nat.reduceLeDiff, Nat.reduceMul, Nat.reduceSub, reduceCtorEq, ↓reduceIte]
        exact ⟨cI (by omega), cI (by omega)⟩
      · have hcc : ¬ (i < xs.length ∧ c ≤ 2500) := by
          simp at hc
          omega
        obtain rfl : V = c := hbt.symm.trans (bitems5_end hcc)
        refine walkG ?_
        refine ⟨.inr rfl, ?_⟩
        rw [Tryz.results75]
        simp only [resOk, resV, go_sem, Int.reduceBEq, Int.reduceLE, Int.reduceLT, Int.reduceNeg, Nat.reduceAdd, Nat.reduceEqDiff, Nat.reduceLT, Nat.reduceLeDiff, Nat.reduceMul, Nat.reduceSub, reduceCtorEq, ↓reduceIte]
        exact .c _
/-! A tree that is not great is small. -/
theorem bkeys5_len : ∀ (ys : List (List UInt8)) (n m : Nat), bkeys5 n ys = some m → m ≤ 2500 → n + ys.length ≤ m ∧ ∀ y ∈ ys, y.length ≤ 2500
  | [], n, m, h, hm => by rw [bkeys5] at h; obtain rfl := Option.some.inj h; exact ⟨by simp, by simp⟩
  | y :: ys, n, m, h, hm => by
    rw [bkeys5] at h
    split at h
    · split at h
      · simp at h
      · obtain ⟨h1, h2⟩ := bkeys5_len ys _ m h hm
        refine ⟨by simp; omega, fun z hz => ?_⟩
        rcases List.mem_cons.1 hz with rfl | hz
        · omega
        · exact h2 z hz
    · obtain rfl := Option.some.inj h
      omega
mutual
theorem bulk_sm5 (d : Nat) : ∀ t : JT, tbulk5 d t ≤ 2500 → t.sm 2500
  | .mk k n s ks xs => fun h => by
    rw [tbulk5] at h
    split at h
    · omega
    · rename_i h1
      split at h
      · omega
      · rename_i m hm
        have h2 := bitems5_ge d xs m
        obtain ⟨_, h3⟩ := bkeys5_len ks _ m hm (by omega)
        exact ⟨by omega, by omega, h3, by omega, bitems5_sm d m xs h⟩
theorem bitems5_sm (d n : Nat) : ∀ xs : List JT, bitems5 d n xs ≤ 2500 → JT.smL 2500 xs
  | [] => fun _ => trivial
  | x :: xs => fun h => by
    rw [bitems5] at h
    split at h
    · have := bitems5_ge d xs (n + tbulk5 (d + 1) x)
      exact ⟨bulk_sm5 (d + 1) x (by omega), bitems5_sm d _ xs h⟩
    · omega
end
end

def textsL : Nat → List (List UInt8) → Nat
  | n, [] => n
  | n, y :: ys => if n ≤ 2500 then (if 2500 < y.length then 2501 else textsL (n + y.length) ys) else n
def textsB (l : List (List UInt8)) : Nat := if 2500 < l.length then 2501 else textsL l.length l
def fieldsB : Nat → List FT → Option Nat
  | n, [] => some n
  | n, f :: fs => if n ≤ 2500 then (if 2500 < f.name.length then none else fieldsB (n + f.name.length + textsB f.aliases + tbulk5 0 f.dflt) fs) else some n
def nodesB : Nat → List NT → Nat
  | n, [] => n
  | n, x :: xs => if n ≤ 2500 then (if 2500 < x.name.length ∨ 2500 < x.fields.length ∨ 2500 < x.branches.length ∨ 2500 < x.dflt.length then 2501 else
      match fieldsB (n + x.name.length + x.fields.length + x.branches.length + x.dflt.length + textsB x.aliases + textsB x.symbols) x.fields with | none => 2501 | some m => nodesB m xs) else n
def sbulk (s : ST) : Nat := if 2500 < s.nodes.length then 2501 else nodesB s.nodes.length s.nodes
def FT.sm (N : Nat) (f : FT) : Prop := f.name.length ≤ N ∧ f.aliases.length ≤ N ∧ (∀ y ∈ f.aliases, y.length ≤ N) ∧ f.dflt.sm N
def NT.sm (N : Nat) (n : NT) : Prop := n.name.length ≤ N ∧ n.dflt.length ≤ N ∧ (n.aliases.length ≤ N ∧ ∀ y ∈ n.aliases, y.length ≤ N) ∧ (n.symbols.length ≤ N ∧ ∀ y ∈ n.symbols, y.length ≤ N) ∧ n.branches.length ≤ N ∧ (n.fields.length ≤ N ∧ ∀ f ∈ n.fields, f.sm N)
def ST.sm (N : Nat) (s : ST) : Prop := s.nodes.length ≤ N ∧ ∀ n ∈ s.nodes, n.sm N
theorem textsL_le : ∀ (l : List (List UInt8)) (n : Nat), n ≤ 5000 → textsL n l ≤ 5000
  | [], n, h => h
  | y :: ys, n, h => by
    rw [textsL]
    split
    · split
      · omega
      · exact textsL_le ys _ (by omega)
    · exact h
theorem textsL_ge : ∀ (l : List (List UInt8)) (n : Nat), n ≤ 2500 ∨ True → textsL n l ≤ 2500 → n ≤ textsL n l ∧ ∀ y ∈ l, y.length ≤ 2500
  | [], n, _, _ => ⟨Nat.le_refl _, by simp⟩
  | y :: ys, n, _, h => by
    rw [textsL] at h ⊢
    split at h
    · rename_i h1
      rw [if_pos h1]
      split at h
      · omega
      · rename_i h2
        rw [if_neg h2]
        obtain ⟨h3, h4⟩ := textsL_ge ys _ (.inr trivial) h
        refine ⟨by omega, fun z hz => ?_⟩
        rcases List.mem_cons.1 hz with rfl | hz
        · omega
        · exact h4 z hz
    · omega
theorem textsB_le (l : List (List UInt8)) : textsB l ≤ 5000 := by
  unfold textsB
  split
  · omega
  · exact textsL_le l _ (by omega)
theorem textsB_sm {l : List (List UInt8)} (h : textsB l ≤ 2500) : l.length ≤ 2500 ∧ ∀ y ∈ l, y.length ≤ 2500 := by
  unfold textsB at h
  split at h
  · omega
  · rename_i h1
    exact ⟨by omega, (textsL_ge l _ (.inr trivial) h).2⟩
theorem tbulk5_top (t : JT) : tbulk5 0 t ≤ 200000 := by
  have := tbulk5_le 0 t
  omega
theorem fieldsB_le : ∀ (l : List FT) (n m : Nat), n ≤ 300000 → fieldsB n l = some m → m ≤ 300000
  | [], n, m, h, e => by rw [fieldsB] at e; obtain rfl := Option.some.inj e; exact h
  | f :: fs, n, m, h, e => by
    rw [fieldsB] at e
    have h1 := textsB_le f.aliases
    have h2 := tbulk5_top f.dflt
    split at e
    · split at e
      · simp at e
      · exact fieldsB_le fs _ m (by omega) e
    · obtain rfl := Option.some.inj e; exact h
theorem fieldsB_sm : ∀ (l : List FT) (n m : Nat), fieldsB n l = some m → m ≤ 2500 → n ≤ m ∧ ∀ f ∈ l, f.sm 2500
  | [], n, m, e, h => by rw [fieldsB] at e; obtain rfl := Option.some.inj e; exact ⟨Nat.le_refl _, by simp⟩
  | f :: fs, n, m, e, h => by
    rw [fieldsB] at e
    split at e
    · split at e
      · simp at e
      · rename_i h1 h2
        obtain ⟨h3, h4⟩ := fieldsB_sm fs _ m e h
        refine ⟨by omega, fun g hg => ?_⟩
        rcases List.mem_cons.1 hg with rfl | hg
        · obtain ⟨h5, h6⟩ := textsB_sm (l := g.aliases) (by omega)
          exact ⟨by omega, h5, h6, bulk_sm5 0 _ (by omega)⟩
        · exact h4 g hg
    · obtain rfl := Option.some.inj e
      omega
theorem nodesB_sm : ∀ (l : List NT) (n : Nat), nodesB n l ≤ 2500 → n ≤ nodesB n l ∧ ∀ x ∈ l, x.sm 2500
  | [], n, h => ⟨Nat.le_refl _, by simp⟩
  | x :: xs, n, h => by
    rw [nodesB] at h ⊢
    split at h
    · rename_i h1
      rw [if_pos h1]
      split at h
      · omega
      · rename_i h2
        rw [if_neg h2]
        split at h
        · omega
        · rename_i m hm
          obtain ⟨h3, h4⟩ := nodesB_sm xs m h
          obtain ⟨h5, h6⟩ := fieldsB_sm _ _ m hm (by omega)
          refine ⟨by omega, fun y hy => ?_⟩
          rcases List.mem_cons.1 hy with rfl | hy
          · exact ⟨by omega, by omega, textsB_sm (by omega), textsB_sm (by omega), by omega, by omega, h6⟩
          · exact h4 y hy
    · omega
theorem sbulk_sm {s : ST} (h : sbulk s ≤ 2500) : s.sm 2500 := by
  unfold sbulk at h
  split at h
  · omega
  · exact ⟨by omega, (nodesB_sm _ _ h).2⟩
section
attribute [local go_sem] opx opE ev okx gcond bnd okO AV.get AV.okb cAV upd_at putd_some putd_none wrs_nil wrs_cons look_nil look_cons st argT_at bpick_and bpick_or bpick_true bpick_false binV binI binS binVOk binOk isShift binSOk unV unVOk loadV loadP cellsA zeroA Blkd.len setE grown moreA moreR moreOk eqRes pv fillA fillE putSeg AV.cellish AV.pureL AV.pureB lentL_is ex_some AV.ren AV.renL renL_c Blkd.ren rho wrM renN lentOk rhoE keepM endOk tyA_2 tyA_3 tyA_4 tyA_5 tyA_6 tyA_7 tyA_8 tyA_9 tyA_10 tyA_11 tyA_12 tyA_13 tyA_14 tyA_15 tyA_16 tyA_17 tyA_18 tyA_19 tyA_21 tyA_22 tyA_23 tyA_24 tyA_29 tyA_30 tyA_31 tyA_32 tyA_33 tyA_34 tyA_35 tyA_36 tyA_37 tyA_38 tyA_39 tyA_40 tyA_41 tyA_42 tyA_43 tyA_48 tyA_89 tyA_93 tyA_107 tyA_108 tyA_109 tyA_113 tyA_114 tyA_115 tyA_116 tyA_117 tyA_119 tyA_120 tyA_121 tyA_122 tyA_131 tyA_134 tyA_135 tyA_136 tyA_137 tyA_138 tyA_154 tyA_156 tyA_157 tyA_158 tyA_159 tyA_170 tyA_180 tyA_181 tyA_182 tyA_196 tyA_202 tyA_208 tyA_209 tyA_210 tyA_211 tyA_212 tyA_213 tyA_229 tyA_230 tyA_231 tyA_241 tyA_264 tyA_268 tyA_293 tyA_294 tyA_295 tyA_311 tyA_313 tyA_321 tyA_326 tyA_334 tyA_338 tyA_340 tyA_343 tyA_344 tyA_345 tyA_346 tyA_347 tyA_348 tyA_349 tyA_351 tyA_352 Option.map_some Option.map_none Option.getD_some Option.getD_none Option.bind_some Option.bind_none List.getElem?_cons_zero List.getElem?_cons_succ List.getElem?_nil List.getElem?_toArray List.length_cons List.length_nil List.length_map List.forall_mem_map List.map_cons List.map_nil List.drop_zero List.drop_succ_cons List.drop_nil List.take_zero List.take_succ_cons List.take_nil List.mem_cons List.not_mem_nil or_false forall_eq_or_imp forall_eq List.set_cons_zero List.set_cons_succ List.cons_append List.nil_append List.append_nil List.foldl_cons List.foldl_nil List.replicate_succ List.replicate_zero List.all_cons List.all_nil if_true if_false Bool.false_eq_true ne_eq not_false_eq_true not_true_eq_false true_and and_true and_self true_implies imp_self implies_true forall_const beq_self_eq_true Bool.and_true Bool.true_and Bool.and_false Bool.false_and Bool.or_true Bool.true_or Bool.or_false Bool.false_or Bool.not_true Bool.not_false Bool.not_eq_eq_eq_not intKindOf Value.oneCell' Int.toNat_natCast beq_true beq_false Bool.not_eq_true false_implies false_or true_or or_true Nat.zero_add Nat.add_zero decide_true decide_false Int.cast_ofNat_Int Int.toNat_zero Int.toNat_one eq_self

theorem tyFn : tyA Tryz.prog 145 = some ⟨false, 1, 8, [.nilFunc], 0, [], 0, []⟩ := by kernel_rfl
set_option maxRecDepth 100000 in
set_option maxHeartbeats 400000 in
theorem all1_told {g : FuncId} {x : List UInt8} {b : Bool} (h : Told Tryz.prog g [.c (.v (.string (str x)))] (.c (.v (.bool b)))) : Told Tryz.prog 244 [.c (.v (.string (str x))), .pp [fnP g]] (.c (.v (.bool (!b)))) := by
  unfold fnP
  refine VC.told ent_244 Tryz.func244 rfl Tryz.ntmps244 (by simp) (by first | rfl | simp [AV.pureB, AV.pureL, pureL_c, pures]) (by first | rfl | simp [AV.pureB, AV.pureL, pureL_c, pures]) fun hb => ?_
  clear hb
  refine walkGF (tyFn) ?_
  (refine AO.step fun K hK => ?_; simp only [go_sem, Int.reduceBEq, Int.reduceLE, Int.reduceLT, Int.reduceNeg, Nat.reduceAdd, Nat.reduceEqDiff, Nat.reduceLT, Nat.reduceLeDiff, Nat.reduceMul, Nat.reduceSub, reduceCtorEq, ↓reduceIte, tyFn]; (first | refine gsel_go ?_ | skip))
  refine ⟨_, h, hK _ _ _ ?_⟩
  clear hK K
  refine walkG ?_
  refine ⟨by first | exact .inr rfl | exact .inl rfl, ?_⟩; rw [Tryz.results244]; simp only [resOk, resV, go_sem, Int.reduceBEq, Int.reduceLE, Int.reduceLT, Int.reduceNeg, Nat.reduceAdd, Nat.reduceEqDiff, Nat.reduceLT, Nat.reduceLeDiff, Nat.reduceMul, Nat.reduceSub, reduceCtorEq, ↓reduceIte]
  exact .c _
set_option maxRecDepth 100000 in
set_option maxHeartbeats 800000 in
theorem all_told {g : FuncId} {rule : List UInt8 → Bool} (l : List (List UInt8)) (hk : ∀ x ∈ l, Told Tryz.prog g [.c (.v (.string (str x)))] (.c (.v (.bool (rule x))))) :
    Told Tryz.prog 181 [.c (.sl 1 (l.map sPV)), .fn (.func g) [] []] (.c (.v (.bool (allM rule l)))) := by
  obtain ⟨V, hV⟩ : ∃ V, V = allM rule l := ⟨_, rfl⟩
  rw [← hV]
  have hF := cnfS_told (g := 244) (fs := []) (cs := [.pp [fnP g]]) rfl rfl l (fun x => !rule x) fun x hx => all1_told (hk x hx)
  have hv : V = (decide ((l.length : Int) ≤ 40) && !(l.any fun x => !rule x)) := by
    rw [hV, allM]
    congr 1
    · simp
      omega
    · rw [Bool.eq_iff_iff]
      simp
  clear hV
  replace hv := Lib.hid hv
  refine VC.told ent_181 Tryz.func181 rfl Tryz.ntmps181 (by simp) (by first | rfl | simp [AV.pureB, AV.pureL, pureL_c, pures]) (by first | rfl | simp [AV.pureB, AV.pureL, pureL_c, pures]) fun hb => ?_
  clear hb
  refine VC.frz [] [(0, .c (.sl 1 (l.map sPV))), (1, .c (fnP g))] [] 0 ?_ ?_
  · simp only [WeakF, used_is, sc_any, sc_c, sc_pp, sc_ref, sc_row, sc_agg, sc_fn, ScL, some_imp, List.forall_mem_map, go_sem, Int.reduceBEq, Int.reduceLE, Int.reduceLT, Int.reduceNeg, Nat.reduceAdd, Nat.reduceEqDiff, Nat.reduceLT, Nat.reduceLeDiff, Nat.reduceMul, Nat.reduceSub, reduceCtorEq, ↓reduceIte]
    exact ⟨.same _, .fnV⟩
  (refine VC.seq ?_; (first | refine VC.region (by rfl) (by rfl) ?_ | refine VC.draw mixP (by rfl) (by rfl) ?_); (repeat (refine AO.step fun K hK => ?_; simp only [go_sem, Int.reduceBEq, Int.reduceLE, Int.reduceLT, Int.reduceNeg, Nat.reduceAdd, Nat.reduceEqDiff, Nat.reduceLT, Nat.reduceLeDiff, Nat.reduceMul, Nat.reduceSub, reduceCtorEq, ↓reduceIte]; (first | refine gsel_skip ?_ | refine gsel_go ?_ | skip); (first | refine hK _ _ _ ?_ | refine ⟨by first | omega | exact ⟨_, rfl, rfl⟩ | exact fun _ => ⟨_, rfl, rfl⟩ | (intro h; simp only [h, true_and]; omega) | (clear hK; intro h; simp_all <;> omega), hK _ _ _ ?_⟩); clear hK K)); refine AO.nil ?_; first | refine SQ.normal ?_ | refine ⟨okd_of (by kernel_rfl), SQ.normal ?_⟩)
  refine VC.frz [0] [(0, .c (.sl 1 (l.map sPV))), (3, .pp [fnP g])] [] 400 ?_ ?_
  · simp only [WeakF, used_is, sc_any, sc_c, sc_pp, sc_ref, sc_row, sc_agg, sc_fn, ScL, some_imp, List.forall_mem_map, go_sem, Int.reduceBEq, Int.reduceLE, Int.reduceLT, Int.reduceNeg, Nat.reduceAdd, Nat.reduceEqDiff, Nat.reduceLT, Nat.reduceLeDiff, Nat.reduceMul, Nat.reduceSub, reduceCtorEq, ↓reduceIte]
    exact ⟨.same _, .ref (es := [fnP g]) (by simp) rfl rfl rfl rfl⟩
  refine walkG ?_
  refine walkD (hF) ?_
  refine walkG ?_
  refine ⟨by first | exact .inr rfl | exact .inl rfl, ?_⟩; rw [Tryz.results181]; simp only [resOk, resV, go_sem, Int.reduceBEq, Int.reduceLE, Int.reduceLT, Int.reduceNeg, Nat.reduceAdd, Nat.reduceEqDiff, Nat.reduceLT, Nat.reduceLeDiff, Nat.reduceMul, Nat.reduceSub, reduceCtorEq, ↓reduceIte]
  rw [hv.out]
  exact .c _
set_option maxRecDepth 100000 in
set_option maxHeartbeats 800000 in
theorem kids_told (n : NT) (hn : n.sm 1000000) : Told Tryz.prog 54 [n.av] (.c (.sl 1 ((kidsN n).map iPV))) := by
  obtain ⟨L, hL⟩ : ∃ L, L = kidsN n := ⟨_, rfl⟩
  rw [← hL]
  unfold kidsN at hL
  have hfl := hn.2.2.2.2.2.1
  have hbl := hn.2.2.2.2.1
  rw [NT.av_eq, ncells_mk]
  refine VC.told ent_54 Tryz.func54 rfl Tryz.ntmps54 (by simp) (by first | rfl | simp [AV.pureB, AV.pureL, pureL_c, pures]) (by first | rfl | simp [AV.pureB, AV.pureL, pureL_c, pures]) fun hb => ?_
  clear hb
  by_cases h9 : n.kind = 9
  · rw [if_pos h9] at hL
    subst hL
    rw [h9]
    refine walkB ?_
    refine VC.nil 3 3 1 (by rfl) (by trivial) (by rfl) ?_
    refine VC.loop (ι := {i : Nat // i ≤ n.fields.length}) (fun q => [(3, .row 88 q.1), (11, .c (.sl 9 (n.fields.map FT.cells))), (12, .c (.v (.int .i64 (n.fields.length : Int)))), (13, .c (.v (.int .i64 (q.1 : Int))))])
      (fun q => [(88, ⟨true, 3, 1, rA iPV ((n.fields.map (·.type)).take q.1)⟩)]) 800 (fun q => n.fields.length - q.1) ⟨0, Nat.zero_le _⟩ ?_ ?_
    · simp only [rA_len, rA_sc, rA_nil, Weak, eq_self, used_is, sc_any, sc_c, sc_pp, sc_ref, sc_row, sc_agg, sc_fn, ScL, some_imp, List.forall_mem_map, go_sem, Int.reduceBEq, Int.reduceLE, Int.reduceLT, Int.reduceNeg, Nat.reduceAdd, Nat.reduceEqDiff, Nat.reduceLT, Nat.reduceLeDiff, Nat.reduceMul, Nat.reduceSub, reduceCtorEq, ↓reduceIte]
      try simp
    rintro ⟨i, hi⟩
    simp only []
    refine walkG ?_
    refine VC.cond (by rfl) (by trivial) (fun hc => ?_) (fun hc => ?_)
    · have hlt : i < n.fields.length := by simp at hc; omega
      obtain ⟨f, hx⟩ : ∃ f, n.fields[i]? = some f := ⟨n.fields[i], List.getElem?_eq_getElem hlt⟩
      have hw : IntKind.i64.wrap ((i : Int) + 1) = (i : Int) + 1 := wrap64_id (by omega) (by omega)
      have hxp : (n.fields.map FT.cells)[i]? = some f.cells := by rw [List.getElem?_map, hx]; rfl
      have hl : (rA iPV ((n.fields.map (·.type)).take i)).length = i := by rw [rA_len]; simp; omega
      have hr : rA iPV ((n.fields.map (·.type)).take i) ++ [[.c (.v (.int .i64 f.type))]] = rA iPV ((n.fields.map (·.type)).take (i + 1)) := by
        rw [List.take_add_one, List.getElem?_map, hx]
        exact rA_one iPV _ f.type
      have hl2 : (rA iPV ((n.fields.map (·.type)).take (i + 1))).length = i + 1 := by rw [rA_len]; simp; omega
      refine walkGF (And.intro hxp (And.intro @fcells_mk (And.intro @len_cells (And.intro @take_cells (And.intro @take_cellsC (And.intro hl (And.intro hr hw))))))) ?_
      refine .next ⟨i + 1, by omega⟩ ?_ (by simp only []; omega)
      simp only [hl2, rA_sc, Weak, eq_self, used_is, sc_any, sc_c, sc_pp, sc_ref, sc_row, sc_agg, sc_fn, ScL, some_imp, List.forall_mem_map, go_sem, Int.reduceBEq, Int.reduceLE, Int.reduceLT, Int.reduceNeg, Nat.reduceAdd, Nat.reduceEqDiff, Nat.reduceLT, Nat.reduceLeDiff, Nat.reduceMul, Nat.reduceSub, reduceCtorEq, ↓reduceIte]
      exact ⟨cI (by omega), Nat.le_refl _⟩
    · have hie : i = n.fields.length := by simp at hc; omega
      have htk : (n.fields.map (·.type)).take i = n.fields.map (·.type) := List.take_of_length_le (by simp; omega)
      rw [htk]
      refine walkGF (hie) ?_
      refine ⟨by first | exact .inr rfl | exact .inl rfl, ?_⟩; rw [Tryz.results54]; simp only [resOk, resV, go_sem, Int.reduceBEq, Int.reduceLE, Int.reduceLT, Int.reduceNeg, Nat.reduceAdd, Nat.reduceEqDiff, Nat.reduceLT, Nat.reduceLeDiff, Nat.reduceMul, Nat.reduceSub, reduceCtorEq, ↓reduceIte]
      apply frz_rA (f := iPV) (l := n.fields.map (·.type)) (T := 3)
      · rfl
      · simp [hie]
      · rfl
      · simp [iPV]
  by_cases h11 : n.kind = 11
  · rw [if_neg h9, if_pos (.inl h11)] at hL
    subst hL
    rw [h11]
    refine walkB ?_
    refine ⟨by first | exact .inr rfl | exact .inl rfl, ?_⟩; rw [Tryz.results54]; simp only [resOk, resV, go_sem, Int.reduceBEq, Int.reduceLE, Int.reduceLT, Int.reduceNeg, Nat.reduceAdd, Nat.reduceEqDiff, Nat.reduceLT, Nat.reduceLeDiff, Nat.reduceMul, Nat.reduceSub, reduceCtorEq, ↓reduceIte]
    exact frz_rA (f := iPV) (l := [n.items]) rfl rfl rfl (by simp [iPV])
  by_cases h12 : n.kind = 12
  · rw [if_neg h9, if_pos (.inr h12)] at hL
    subst hL
    rw [h12]
    refine walkB ?_
    refine ⟨by first | exact .inr rfl | exact .inl rfl, ?_⟩; rw [Tryz.results54]; simp only [resOk, resV, go_sem, Int.reduceBEq, Int.reduceLE, Int.reduceLT, Int.reduceNeg, Nat.reduceAdd, Nat.reduceEqDiff, Nat.reduceLT, Nat.reduceLeDiff, Nat.reduceMul, Nat.reduceSub, reduceCtorEq, ↓reduceIte]
    exact frz_rA (f := iPV) (l := [n.items]) rfl rfl rfl (by simp [iPV])
  by_cases h13 : n.kind = 13
  · rw [if_neg h9, if_neg (by simp [h11, h12]), if_pos h13] at hL
    subst hL
    rw [h13]
    refine walkB ?_
    refine ⟨by first | exact .inr rfl | exact .inl rfl, ?_⟩; rw [Tryz.results54]; simp only [resOk, resV, go_sem, Int.reduceBEq, Int.reduceLE, Int.reduceLT, Int.reduceNeg, Nat.reduceAdd, Nat.reduceEqDiff, Nat.reduceLT, Nat.reduceLeDiff, Nat.reduceMul, Nat.reduceSub, reduceCtorEq, ↓reduceIte]
    refine frz_rA (f := iPV) (l := n.branches) (T := 3) ?_ ?_ rfl (by simp [iPV])
    · simp [upd_at, rA_pv]
    · simp
  · rw [if_neg h9, if_neg (by simp [h11, h12]), if_neg h13] at hL
    subst hL
    have e9 : (n.kind == 9) = false := by simpa using h9
    have e11 : (n.kind == 11) = false := by simpa using h11
    have e12 : (n.kind == 12) = false := by simpa using h12
    have e13 : (n.kind == 13) = false := by simpa using h13
    refine walkBF (And.intro e9 (And.intro e11 (And.intro e12 e13))) ?_
    refine ⟨by first | exact .inr rfl | exact .inl rfl, ?_⟩; rw [Tryz.results54]; simp only [resOk, resV, go_sem, Int.reduceBEq, Int.reduceLE, Int.reduceLT, Int.reduceNeg, Nat.reduceAdd, Nat.reduceEqDiff, Nat.reduceLT, Nat.reduceLeDiff, Nat.reduceMul, Nat.reduceSub, reduceCtorEq, ↓reduceIte]
    exact .nil _
end
end Go.Proofs.YtkaogeogjjcdhaaGreatDoor
