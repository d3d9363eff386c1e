/- Texts that lead to the law FingerSchemas, joined. -/
import Derived.Test.YtkaogeogjjcdhaaGreatDoorPkFingerSchemasE
import Derived.Test.YtkaogeogjjcdhaaGreatDoorPkFingerSchemasA
import Derived.Test.YtkaogeogjjcdhaaGreatDoorPkFingerSchemasB
import Derived.Test.YtkaogeogjjcdhaaGreatDoorPkFingerSchemasC
namespace Go.Proofs.YtkaogeogjjcdhaaGreatDoor
open Go.RowKit
set_option linter.unusedVariables false
set_option linter.unusedSimpArgs false
section
attribute [local go_sem] opx opE ev okx gcond bnd okO AV.get AV.okb cAV upd_at putd_some putd_none wrs_nil wrs_cons look_nil look_cons st argT_at bpick_and bpick_or bpick_true bpick_false binV binI binS binVOk binOk isShift binSOk unV unVOk loadV loadP cellsA zeroA Blkd.len setE grown moreA moreR moreOk eqRes pv fillA fillE putSeg AV.cellish AV.pureL AV.pureB lentL_is ex_some AV.ren AV.renL renL_c Blkd.ren rho wrM renN lentOk rhoE keepM endOk tyA_2 tyA_3 tyA_4 tyA_5 tyA_6 tyA_7 tyA_8 tyA_9 tyA_10 tyA_11 tyA_12 tyA_13 tyA_14 tyA_15 tyA_16 tyA_17 tyA_18 tyA_19 tyA_21 tyA_22 tyA_23 tyA_24 tyA_29 tyA_30 tyA_31 tyA_32 tyA_33 tyA_34 tyA_35 tyA_36 tyA_37 tyA_38 tyA_39 tyA_40 tyA_41 tyA_42 tyA_43 tyA_48 tyA_89 tyA_93 tyA_107 tyA_108 tyA_109 tyA_113 tyA_114 tyA_115 tyA_116 tyA_117 tyA_119 tyA_120 tyA_121 tyA_122 tyA_131 tyA_134 tyA_135 tyA_136 tyA_137 tyA_138 tyA_154 tyA_156 tyA_157 tyA_158 tyA_159 tyA_170 tyA_180 tyA_181 tyA_182 tyA_196 tyA_202 tyA_208 tyA_209 tyA_210 tyA_211 tyA_212 tyA_213 tyA_229 tyA_230 tyA_231 tyA_241 tyA_264 tyA_268 tyA_293 tyA_294 tyA_295 tyA_311 tyA_313 tyA_321 tyA_326 tyA_334 tyA_338 tyA_340 tyA_343 tyA_344 tyA_345 tyA_346 tyA_347 tyA_348 tyA_349 tyA_351 tyA_352 Option.map_some Option.map_none Option.getD_some Option.getD_none Option.bind_some Option.bind_none List.getElem?_cons_zero List.getElem?_cons_succ List.getElem?_nil List.getElem?_toArray List.length_cons List.length_nil List.length_map List.forall_mem_map List.map_cons List.map_nil List.drop_zero List.drop_succ_cons List.drop_nil List.take_zero List.take_succ_cons List.take_nil List.mem_cons List.not_mem_nil or_false forall_eq_or_imp forall_eq List.set_cons_zero List.set_cons_succ List.cons_append List.nil_append List.append_nil List.foldl_cons List.foldl_nil List.replicate_succ List.replicate_zero List.all_cons List.all_nil if_true if_false Bool.false_eq_true ne_eq not_false_eq_true not_true_eq_false true_and and_true and_self true_implies imp_self implies_true forall_const beq_self_eq_true Bool.and_true Bool.true_and Bool.and_false Bool.false_and Bool.or_true Bool.true_or Bool.or_false Bool.false_or Bool.not_true Bool.not_false Bool.not_eq_eq_eq_not intKindOf Value.oneCell' Int.toNat_natCast beq_true beq_false Bool.not_eq_true false_implies false_or true_or or_true Nat.zero_add Nat.add_zero decide_true decide_false Int.cast_ofNat_Int Int.toNat_zero Int.toNat_one eq_self

def firstX (X : Nat → List UInt8) (i : Nat) : List (List UInt8) := (List.range i).map X
theorem firstX_len (X : Nat → List UInt8) (i : Nat) : (firstX X i).length = i := by simp [firstX]
theorem firstX_at (X : Nat → List UInt8) {i j : Nat} (h : j < i) : (firstX X i)[j]? = some (X j) := by simp [firstX, h]
theorem firstX_succ (X : Nat → List UInt8) (i : Nat) : firstX X (i + 1) = firstX X i ++ [X i] := by simp [firstX, List.range_succ]
set_option maxRecDepth 100000 in
set_option maxHeartbeats 6400000 in
theorem rnode_body (s : ST) (hs : s.sm 1000000) (hk : PutOk s.nodes) (hns : s.nodes.length ≤ 1000000) (q : Nat) (n : NT) (hn : s.nodes[q]? = some n) (h8 : ¬ n.kind ≤ 8) (P : Nat → Nat) (hP : ∀ i, P i ≤ 1000000) (hP0 : P 0 = q + 1) (X : Nat → List UInt8) (hX : ∀ i, (X i).length ≤ 50000000) (hBd : (bodyF n X []).length ≤ 100000000)
    (hT : ∀ (i : Nat) (k : Int), (kidsN n)[i]? = some k → Told Tryz.prog 113 [s.av, .c (.v (.int .i64 k)), .c (.v (.int .i64 (P i : Int)))] (.tup [.c (.v (.string (str (X i)))), .c (.v (.int .i64 (P (i + 1) : Int)))])) :
    Told Tryz.prog 113 [s.av, .c (.v (.int .i64 (q : Int))), .c (.v (.int .i64 (q : Int)))] (.tup [.c (.v (.string (str (bodyF n X [])))), .c (.v (.int .i64 (P (kidsN n).length : Int)))]) := by
  have hq1 := (List.getElem?_eq_some_iff.1 hn).1
  obtain ⟨⟨k1, k2⟩, hnl, ⟨hflds, hfln⟩, ⟨hsy1, hsy2⟩, _, hsz1, hsz2⟩ := hk n (List.mem_of_getElem? hn)
  have hsn := hs.2 n (List.mem_of_getElem? hn)
  have hk2 : ∀ y : List UInt8, y.length ≤ 1000000 → (mQuote y).length ≤ 6000002 := fun y h => by have := quote_len y; omega
  have hKd := rkids_told n hsn
  have hkl := kids_len hsn
  have hxp : (s.nodes.map NT.cells)[q]? = some n.cells := by rw [List.getElem?_map, hn]; rfl
  have e1 : decide ((q : Int) < (q : Int)) = false := by simp
  have e8 : decide (n.kind ≤ 8) = false := by simp; omega
  have hw1 : IntKind.i64.wrap ((q : Int) + 1) = ((P 0 : Nat) : Int) := by rw [wrap64_id (by omega) (by omega), hP0]; rfl
  obtain ⟨K, hK⟩ : ∃ K, K = kidsN n := ⟨_, rfl⟩
  rw [← hK] at hKd hT hkl ⊢
  rw [NT.av_eq, ncells_mk] at hKd
  simp only [ST.av_eq, scells_mk] at hT ⊢
  refine VC.told ent_113 Tryz.func113 rfl Tryz.ntmps113 (by simp) (by first | rfl | simp [AV.pureB, AV.pureL, pureL_c, pures]) (by first | rfl | simp [AV.pureB, AV.pureL, pureL_c, pures]) fun hb => ?_
  clear hb
  refine walkBF (And.intro hxp (And.intro @ncells_mk (And.intro e1 (And.intro e8 hw1)))) ?_
  refine walkC (hKd) ?_
  refine walkG ?_
  refine VC.nil 10 9 1 (by rfl) (by trivial) (by rfl) ?_
  refine VC.loop (ι := {i : Nat // i ≤ K.length}) (fun z => [(2, .c (.v (.int .i64 (P z.1 : Int)))), (3, .ref 0 1 0 0), (8, .ref 64 1 0 0), (9, .c (.sl 1 (K.map iPV))), (10, .row 232 z.1), (11, .c (.v (.int .i64 (z.1 : Int))))])
    (fun z => [(0, ⟨false, 24, 2, [s.cells.map .c]⟩), (64, ⟨false, 33, 10, [n.cells.map .c]⟩), (232, ⟨true, 9, 1, rA sPV (firstX X z.1)⟩)]) 800 (fun z => K.length - z.1) ⟨0, Nat.zero_le _⟩ ?_ ?_
  · simp only [ncells_mk, scells_mk, rA_len, rA_sc, firstX_len, Weak, eq_self, used_is, sc_any, sc_c, sc_pp, sc_ref, sc_row, sc_agg, sc_fn, ScL, some_imp, List.forall_mem_map, go_sem, Int.reduceBEq, Int.reduceLE, Int.reduceLT, Int.reduceNeg, Nat.reduceAdd, Nat.reduceEqDiff, Nat.reduceLT, Nat.reduceLeDiff, Nat.reduceMul, Nat.reduceSub, reduceCtorEq, ↓reduceIte]
    rfl
  rintro ⟨i, hi⟩
  simp only []
  refine walkG ?_
  refine VC.cond (by rfl) (by trivial) (fun hc2 => ?_) (fun hc2 => ?_)
  · have hlt : i < K.length := by simp at hc2; omega
    obtain ⟨x, hx⟩ : ∃ x, K[i]? = some x := ⟨K[i], List.getElem?_eq_getElem hlt⟩
    have hxq : (K.map iPV)[i]? = some (iPV x) := by rw [List.getElem?_map, hx]; rfl
    have hw : IntKind.i64.wrap ((i : Int) + 1) = (i : Int) + 1 := wrap64_id (by omega) (by omega)
    have hC := hT i x hx
    have hr : rA sPV (firstX X i) ++ [[.c (.v (.string (str (X i))))]] = rA sPV (firstX X (i + 1)) := by
      rw [firstX_succ]
      exact rA_one sPV _ (X i)
    have hl : (rA sPV (firstX X i)).length = i := by rw [rA_len, firstX_len]
    have hl2 : (rA sPV (firstX X (i + 1))).length = i + 1 := by rw [rA_len, firstX_len]
    clear hT
    refine walkBF (And.intro @scells_mk (And.intro @ncells_mk (And.intro hxq (And.intro @iPV_eq hl)))) ?_
    refine walkCF (@pureL_c) (hC) ?_
    refine walkBF (And.intro hl (And.intro hr hw)) ?_
    refine .next ⟨i + 1, by omega⟩ ?_ (by simp only []; omega)
    simp only [ncells_mk, scells_mk, hl2, rA_sc, Weak, eq_self, used_is, sc_any, sc_c, sc_pp, sc_ref, sc_row, sc_agg, sc_fn, ScL, some_imp, List.forall_mem_map, go_sem, Int.reduceBEq, Int.reduceLE, Int.reduceLT, Int.reduceNeg, Nat.reduceAdd, Nat.reduceEqDiff, Nat.reduceLT, Nat.reduceLeDiff, Nat.reduceMul, Nat.reduceSub, reduceCtorEq, ↓reduceIte]
    exact ⟨cI (by omega), Nat.le_refl _⟩
  · obtain rfl : i = K.length := by simp at hc2; omega
    by_cases hk0 : n.kind = 11
    · have hKk : K = [n.items] := by rw [hK]; unfold kidsN; rw [if_neg (by omega), if_pos (by omega)]
      have hm1 : K.length = 1 := by rw [hKk]; rfl
      have h0 : (rA sPV (firstX X K.length))[0]? = some [.c (.v (.string (str (X 0))))] := rA_at (firstX_at X (by omega))
      have hl : (rA sPV (firstX X K.length)).length = K.length := by rw [rA_len, firstX_len]
      obtain ⟨A1, hA1⟩ : ∃ A1, A1 = mQuote [97, 114, 114, 97, 121] := ⟨_, rfl⟩
      obtain ⟨A2, hA2⟩ : ∃ A2, A2 = mQuote [116, 121, 112, 101] ++ [58] ++ A1 := ⟨_, rfl⟩
      obtain ⟨A3, hA3⟩ : ∃ A3, A3 = mQuote [105, 116, 101, 109, 115] ++ [58] ++ X 0 := ⟨_, rfl⟩
      have hX0 := hX 0
      have c1 := rquote_told [97, 114, 114, 97, 121] (by decide)
      rw [← hA1] at c1
      have b1 : A1.length ≤ 100 := by rw [hA1]; decide
      have c2 := pair_told [116, 121, 112, 101] A1 (by decide) (by omega)
      rw [← hA2] at c2
      have c3 := pair_told [105, 116, 101, 109, 115] (X 0) (by decide) (by omega)
      rw [← hA3] at c3
      have b2 : A2.length ≤ 1000 := by
        have : (mQuote [116, 121, 112, 101]).length = 6 := by decide
        rw [hA2]; simp; omega
      have b3 : A3.length ≤ 50001000 := by
        have : (mQuote [105, 116, 101, 109, 115]).length ≤ 100 := by decide
        rw [hA3]; simp; omega
      have hbd : bodyF n X [] = [123] ++ A2 ++ [44] ++ A3 ++ [125] := by
        unfold bodyF
        rw [hA3, hA2, hA1, show mQuote [97, 114, 114, 97, 121] = [34, 97, 114, 114, 97, 121, 34] by decide, show mQuote [116, 121, 112, 101] = [34, 116, 121, 112, 101, 34] by decide, show mQuote [105, 116, 101, 109, 115] = [34, 105, 116, 101, 109, 115, 34] by decide]
        simp [hk0, putsF, jArr]
      rw [hbd]
      clear hA1 hA2 hA3 hbd hT hX
      unfold str at *
      refine walkBF (And.intro @ncells_mk hk0) ?_
      refine walkC (c1) ?_
      refine walkG ?_
      refine walkC (c2) ?_
      (repeat (first | refine pass ?_ | refine VC.region (by rfl) (by rfl) ?_ | (refine AO.step fun K hK => ?_; simp only [bsz', str_add, List.length_append, List.length_cons, List.length_nil, h0, hl, go_sem, Int.reduceBEq, Int.reduceLE, Int.reduceLT, Int.reduceNeg, Nat.reduceAdd, Nat.reduceEqDiff, Nat.reduceLT, Nat.reduceLeDiff, Nat.reduceMul, Nat.reduceSub, reduceCtorEq, ↓reduceIte]; (first | refine gsel_skip ?_ | refine gsel_go ?_ | skip); (first | refine hK _ _ _ ?_ | refine ⟨by first | omega | exact ⟨_, rfl, rfl⟩ | exact fun _ => ⟨_, rfl, rfl⟩ | (intro h; simp only [bsz', str_add, List.length_append, List.length_cons, List.length_nil, h0, hl, h, true_and]; omega) | (clear hK; intro h; simp_all <;> omega), hK _ _ _ ?_⟩); clear hK K) | refine VC.draw mixP (by rfl) (by rfl) ?_ | refine ⟨okd_of (by kernel_rfl), ?_⟩ | refine BQ.other (by decide) ?_ | refine VC.seq ?_ | refine AO.nil ?_ | refine VC.block ?_))
      refine walkC (c3) ?_
      (repeat (first | refine pass ?_ | refine VC.region (by rfl) (by rfl) ?_ | (refine AO.step fun K hK => ?_; simp only [bsz', str_add, List.length_append, List.length_cons, List.length_nil, go_sem, Int.reduceBEq, Int.reduceLE, Int.reduceLT, Int.reduceNeg, Nat.reduceAdd, Nat.reduceEqDiff, Nat.reduceLT, Nat.reduceLeDiff, Nat.reduceMul, Nat.reduceSub, reduceCtorEq, ↓reduceIte]; (first | refine gsel_skip ?_ | refine gsel_go ?_ | skip); (first | refine hK _ _ _ ?_ | refine ⟨by first | omega | exact ⟨_, rfl, rfl⟩ | exact fun _ => ⟨_, rfl, rfl⟩ | (intro h; simp only [bsz', str_add, List.length_append, List.length_cons, List.length_nil, h, true_and]; omega) | (clear hK; intro h; simp_all <;> omega), hK _ _ _ ?_⟩); clear hK K) | refine VC.draw mixP (by rfl) (by rfl) ?_ | refine ⟨okd_of (by kernel_rfl), ?_⟩ | refine BQ.other (by decide) ?_ | refine VC.seq ?_ | refine AO.nil ?_ | refine VC.block ?_))
      refine ⟨by first | exact .inr rfl | exact .inl rfl, ?_⟩; rw [Tryz.results113]; simp only [resOk, resV, go_sem, Int.reduceBEq, Int.reduceLE, Int.reduceLT, Int.reduceNeg, Nat.reduceAdd, Nat.reduceEqDiff, Nat.reduceLT, Nat.reduceLeDiff, Nat.reduceMul, Nat.reduceSub, reduceCtorEq, ↓reduceIte]
      exact ⟨.c _, .c _⟩
    by_cases hk0 : n.kind = 12
    · have hKk : K = [n.items] := by rw [hK]; unfold kidsN; rw [if_neg (by omega), if_pos (by omega)]
      have hm1 : K.length = 1 := by rw [hKk]; rfl
      have h0 : (rA sPV (firstX X K.length))[0]? = some [.c (.v (.string (str (X 0))))] := rA_at (firstX_at X (by omega))
      have hl : (rA sPV (firstX X K.length)).length = K.length := by rw [rA_len, firstX_len]
      obtain ⟨A1, hA1⟩ : ∃ A1, A1 = mQuote [109, 97, 112] := ⟨_, rfl⟩
      obtain ⟨A2, hA2⟩ : ∃ A2, A2 = mQuote [116, 121, 112, 101] ++ [58] ++ A1 := ⟨_, rfl⟩
      obtain ⟨A3, hA3⟩ : ∃ A3, A3 = mQuote [118, 97, 108, 117, 101, 115] ++ [58] ++ X 0 := ⟨_, rfl⟩
      have hX0 := hX 0
      have c1 := rquote_told [109, 97, 112] (by decide)
      rw [← hA1] at c1
      have b1 : A1.length ≤ 100 := by rw [hA1]; decide
      have c2 := pair_told [116, 121, 112, 101] A1 (by decide) (by omega)
      rw [← hA2] at c2
      have c3 := pair_told [118, 97, 108, 117, 101, 115] (X 0) (by decide) (by omega)
      rw [← hA3] at c3
      have b2 : A2.length ≤ 1000 := by
        have : (mQuote [116, 121, 112, 101]).length = 6 := by decide
        rw [hA2]; simp; omega
      have b3 : A3.length ≤ 50001000 := by
        have : (mQuote [118, 97, 108, 117, 101, 115]).length ≤ 100 := by decide
        rw [hA3]; simp; omega
      have hbd : bodyF n X [] = [123] ++ A2 ++ [44] ++ A3 ++ [125] := by
        unfold bodyF
        rw [hA3, hA2, hA1, show mQuote [109, 97, 112] = [34, 109, 97, 112, 34] by decide, show mQuote [116, 121, 112, 101] = [34, 116, 121, 112, 101, 34] by decide, show mQuote [118, 97, 108, 117, 101, 115] = [34, 118, 97, 108, 117, 101, 115, 34] by decide]
        simp [hk0, putsF, jMap]
      rw [hbd]
      clear hA1 hA2 hA3 hbd hT hX
      unfold str at *
      refine walkBF (And.intro @ncells_mk hk0) ?_
      refine walkC (c1) ?_
      refine walkG ?_
      refine walkC (c2) ?_
      (repeat (first | refine pass ?_ | refine VC.region (by rfl) (by rfl) ?_ | (refine AO.step fun K hK => ?_; simp only [bsz', str_add, List.length_append, List.length_cons, List.length_nil, h0, hl, go_sem, Int.reduceBEq, Int.reduceLE, Int.reduceLT, Int.reduceNeg, Nat.reduceAdd, Nat.reduceEqDiff, Nat.reduceLT, Nat.reduceLeDiff, Nat.reduceMul, Nat.reduceSub, reduceCtorEq, ↓reduceIte]; (first | refine gsel_skip ?_ | refine gsel_go ?_ | skip); (first | refine hK _ _ _ ?_ | refine ⟨by first | omega | exact ⟨_, rfl, rfl⟩ | exact fun _ => ⟨_, rfl, rfl⟩ | (intro h; simp only [bsz', str_add, List.length_append, List.length_cons, List.length_nil, h0, hl, h, true_and]; omega) | (clear hK; intro h; simp_all <;> omega), hK _ _ _ ?_⟩); clear hK K) | refine VC.draw mixP (by rfl) (by rfl) ?_ | refine ⟨okd_of (by kernel_rfl), ?_⟩ | refine BQ.other (by decide) ?_ | refine VC.seq ?_ | refine AO.nil ?_ | refine VC.block ?_))
      refine walkC (c3) ?_
      (repeat (first | refine pass ?_ | refine VC.region (by rfl) (by rfl) ?_ | (refine AO.step fun K hK => ?_; simp only [bsz', str_add, List.length_append, List.length_cons, List.length_nil, go_sem, Int.reduceBEq, Int.reduceLE, Int.reduceLT, Int.reduceNeg, Nat.reduceAdd, Nat.reduceEqDiff, Nat.reduceLT, Nat.reduceLeDiff, Nat.reduceMul, Nat.reduceSub, reduceCtorEq, ↓reduceIte]; (first | refine gsel_skip ?_ | refine gsel_go ?_ | skip); (first | refine hK _ _ _ ?_ | refine ⟨by first | omega | exact ⟨_, rfl, rfl⟩ | exact fun _ => ⟨_, rfl, rfl⟩ | (intro h; simp only [bsz', str_add, List.length_append, List.length_cons, List.length_nil, h, true_and]; omega) | (clear hK; intro h; simp_all <;> omega), hK _ _ _ ?_⟩); clear hK K) | refine VC.draw mixP (by rfl) (by rfl) ?_ | refine ⟨okd_of (by kernel_rfl), ?_⟩ | refine BQ.other (by decide) ?_ | refine VC.seq ?_ | refine AO.nil ?_ | refine VC.block ?_))
      refine ⟨by first | exact .inr rfl | exact .inl rfl, ?_⟩; rw [Tryz.results113]; simp only [resOk, resV, go_sem, Int.reduceBEq, Int.reduceLE, Int.reduceLT, Int.reduceNeg, Nat.reduceAdd, Nat.reduceEqDiff, Nat.reduceLT, Nat.reduceLeDiff, Nat.reduceMul, Nat.reduceSub, reduceCtorEq, ↓reduceIte]
      exact ⟨.c _, .c _⟩
    have j11 : (n.kind == 11) = false := by simp; omega
    have j12 : (n.kind == 12) = false := by simp; omega
    refine walkBF (And.intro @ncells_mk (And.intro j11 j12)) ?_
    obtain ⟨Y, hY⟩ : ∃ Y : Nat → List UInt8, Y = fun i => if n.kind = 9 then fldsF [] n.fields X i else brsF [] X i := ⟨_, rfl⟩
    have hY0 : Y 0 = [] := by rw [hY]; simp only []; split <;> rfl
    have hYb : ∀ i, i ≤ K.length → (Y i).length ≤ 100000000 := fun i h => by
      by_cases h9 : n.kind = 9
      · have hKf : K.length = n.fields.length := by rw [hK]; unfold kidsN; rw [if_pos h9, List.length_map]
        have e := fldsF_app (putsF [] [jName, mQuote n.name, jType, mQuote (wordM 9), jFlds]) [] n.fields X n.fields.length
        rw [List.append_nil] at e
        have h2 := hBd
        unfold bodyF at h2
        rw [if_pos h9, e] at h2
        have h1 := putsF_len (putsF [] [jName, mQuote n.name, jType, mQuote (wordM 9), jFlds] ++ fldsF [] n.fields X n.fields.length) [[93], [125]]
        rw [List.length_append] at h1
        have h3 := fldsF_le [] n.fields X (show i ≤ n.fields.length by omega)
        rw [hY]
        simp only []
        rw [if_pos h9]
        omega
      by_cases h13 : n.kind = 13
      · have hKk : K.length = n.branches.length := by rw [hK]; unfold kidsN; rw [if_neg (by omega), if_neg (by omega), if_pos h13]
        have e := brsF_app (putsF [] [[91]]) [] X n.branches.length
        rw [List.append_nil] at e
        have h2 := hBd
        unfold bodyF at h2
        rw [if_neg (by omega), if_neg (by omega), if_neg (by omega), if_pos h13, e] at h2
        have h1 := putsF_len (putsF [] [[91]] ++ brsF [] X n.branches.length) [[93]]
        rw [List.length_append] at h1
        have h3 := brsF_le [] X (show i ≤ n.branches.length by omega)
        rw [hY]
        simp only []
        rw [if_neg h9]
        omega
      · have hK0 : K.length = 0 := by rw [hK]; unfold kidsN; rw [if_neg (by omega), if_neg (by omega), if_neg (by omega)]; rfl
        obtain rfl : i = 0 := by omega
        rw [hY0]
        simp
    have hY9 : n.kind = 9 → ∀ (i : Nat) (f : FT), n.fields[i]? = some f → Y (i + 1) = Y i ++ commaM i ++ [123] ++ (mQuote [110, 97, 109, 101] ++ [58] ++ mQuote f.name) ++ [44] ++ (mQuote [116, 121, 112, 101] ++ [58] ++ X i) ++ [125] := fun h9 i f hf => by
      rw [hY]
      simp only []
      rw [if_pos h9, if_pos h9, fldsF, hf, show mQuote [110, 97, 109, 101] = [34, 110, 97, 109, 101, 34] by decide, show mQuote [116, 121, 112, 101] = [34, 116, 121, 112, 101, 34] by decide]
      simp [putsF, jName, jType]
    have hYn : n.kind ≠ 9 → ∀ i : Nat, Y (i + 1) = Y i ++ commaM i ++ X i := fun h9 i => by
      rw [hY]
      simp only []
      rw [if_neg h9, if_neg h9, brsF]
      simp [putsF]
    clear hT
    refine VC.loop (ι := {i : Nat // i ≤ K.length}) (fun z => [(2, .c (.v (.int .i64 (P K.length : Int)))), (3, .ref 0 1 0 0), (8, .ref 64 1 0 0), (10, .row 232 K.length), (14, .c (.v (.string (str (Y z.1))))), (15, .c (.v (.int .i64 (z.1 : Int))))])
      (fun z => [(0, ⟨false, 24, 2, [s.cells.map .c]⟩), (64, ⟨false, 33, 10, [n.cells.map .c]⟩), (232, ⟨true, 9, 1, rA sPV (firstX X K.length)⟩)]) 2000 (fun z => K.length - z.1) ⟨0, Nat.zero_le _⟩ ?_ ?_
    · simp only [ncells_mk, scells_mk, rA_len, rA_sc, firstX_len, Weak, eq_self, used_is, sc_any, sc_c, sc_pp, sc_ref, sc_row, sc_agg, sc_fn, ScL, some_imp, List.forall_mem_map, go_sem, Int.reduceBEq, Int.reduceLE, Int.reduceLT, Int.reduceNeg, Nat.reduceAdd, Nat.reduceEqDiff, Nat.reduceLT, Nat.reduceLeDiff, Nat.reduceMul, Nat.reduceSub, reduceCtorEq, ↓reduceIte]
      rw [hY0]
      exact ⟨rfl, Nat.le_refl _⟩
    rintro ⟨i, hi'⟩
    simp only []
    have hl : (rA sPV (firstX X K.length)).length = K.length := by rw [rA_len, firstX_len]
    refine walkGF (hl) ?_
    refine VC.cond (by rfl) (by trivial) (fun hc3 => ?_) (fun hc3 => ?_)
    rotate_left
    · obtain rfl : i = K.length := by simp at hc3; omega
      have hYK := hYb K.length (Nat.le_refl _)
      by_cases h13 : n.kind = 13
      · have j13 : (n.kind == 13) = true := by simpa using h13
        have hKk : K = n.branches := by rw [hK]; unfold kidsN; rw [if_neg (by omega), if_neg (by omega), if_pos h13]
        have hbd : bodyF n X [] = [91] ++ Y K.length ++ [93] := by
          rw [hY]
          simp only []
          unfold bodyF
          rw [if_neg (by omega), if_neg (by omega), if_neg (by omega), if_pos h13, if_neg (by omega), hKk]
          simp only [putsF, List.nil_append]
          rw [show brsF [91] X n.branches.length = [91] ++ brsF [] X n.branches.length from brsF_app [91] [] X _]
        rw [hbd]
        clear hbd hY hY9 hYn hY0 hYb
        generalize Y K.length = y at *
        unfold str at *
        (repeat (first | refine pass ?_ | refine VC.region (by rfl) (by rfl) ?_ | (refine AO.step fun K hK => ?_; simp only [ncells_mk, j13, bsz', str_add, List.length_append, List.length_cons, List.length_nil, go_sem, Int.reduceBEq, Int.reduceLE, Int.reduceLT, Int.reduceNeg, Nat.reduceAdd, Nat.reduceEqDiff, Nat.reduceLT, Nat.reduceLeDiff, Nat.reduceMul, Nat.reduceSub, reduceCtorEq, ↓reduceIte]; (first | refine gsel_skip ?_ | refine gsel_go ?_ | skip); (first | refine hK _ _ _ ?_ | refine ⟨by first | omega | exact ⟨_, rfl, rfl⟩ | exact fun _ => ⟨_, rfl, rfl⟩ | (intro h; simp only [ncells_mk, j13, bsz', str_add, List.length_append, List.length_cons, List.length_nil, h, true_and]; omega) | (clear hK; intro h; simp_all <;> omega), hK _ _ _ ?_⟩); clear hK K) | refine VC.draw mixP (by rfl) (by rfl) ?_ | refine ⟨okd_of (by kernel_rfl), ?_⟩ | refine BQ.other (by decide) ?_ | refine VC.seq ?_ | refine AO.nil ?_ | refine VC.block ?_ | refine VC.condT (by rfl) (by trivial) ?_ | refine VC.condF (by rfl) (by trivial) ?_))
        refine ⟨by first | exact .inr rfl | exact .inl rfl, ?_⟩; rw [Tryz.results113]; simp only [resOk, resV, go_sem, Int.reduceBEq, Int.reduceLE, Int.reduceLT, Int.reduceNeg, Nat.reduceAdd, Nat.reduceEqDiff, Nat.reduceLT, Nat.reduceLeDiff, Nat.reduceMul, Nat.reduceSub, reduceCtorEq, ↓reduceIte]
        exact ⟨.c _, .c _⟩
      have j13 : (n.kind == 13) = false := by simpa using h13
      obtain ⟨u, hu⟩ : ∃ u : Nat, n.kind = (u : Int) := ⟨n.kind.toNat, by omega⟩
      have cw := rword_told u (by omega) _ (word_at u (by omega))
      have cn := rquote_told n.name (by omega)
      have hwl : (wordM u).length ≤ 100 := by
        have : ∀ x : Fin 15, (wordM x.val).length ≤ 100 := by decide
        exact this ⟨u, by omega⟩
      have cv := rquote_told (wordM u) (by omega)
      have l1 := quote_len n.name
      have l2 := quote_len (wordM u)
      have ca := pair_told [110, 97, 109, 101] (mQuote n.name) (by decide) (by omega)
      have cb := pair_told [116, 121, 112, 101] (mQuote (wordM u)) (by decide) (by omega)
      have qa : (mQuote [110, 97, 109, 101]).length = 6 := by decide
      have qb : (mQuote [116, 121, 112, 101]).length = 6 := by decide
      obtain ⟨H, hH⟩ : ∃ H, H = [123] ++ (mQuote [110, 97, 109, 101] ++ [58] ++ mQuote n.name) ++ [44] ++ (mQuote [116, 121, 112, 101] ++ [58] ++ mQuote (wordM u)) ++ [44] := ⟨_, rfl⟩
      have hHl : H.length ≤ 20000000 := by rw [hH]; simp; omega
      by_cases h9 : n.kind = 9
      · have j9 : (n.kind == 9) = true := by simpa using h9
        have hKf : K.length = n.fields.length := by rw [hK]; unfold kidsN; rw [if_pos h9, List.length_map]
        have hbd : bodyF n X [] = H ++ (mQuote [102, 105, 101, 108, 100, 115] ++ [58] ++ ([91] ++ Y K.length ++ [93])) ++ [125] := by
          obtain rfl : u = 9 := by omega
          rw [hY, hH]
          simp only []
          unfold bodyF
          rw [if_pos h9, if_pos h9, hKf, show mQuote [110, 97, 109, 101] = [34, 110, 97, 109, 101, 34] by decide, show mQuote [116, 121, 112, 101] = [34, 116, 121, 112, 101, 34] by decide, show mQuote [102, 105, 101, 108, 100, 115] = [34, 102, 105, 101, 108, 100, 115, 34] by decide]
          have e := fldsF_app (putsF [] [jName, mQuote n.name, jType, mQuote (wordM 9), jFlds]) [] n.fields X n.fields.length
          rw [List.append_nil] at e
          rw [e]
          simp [putsF, jName, jType, jFlds]
        have cf := pair_told [102, 105, 101, 108, 100, 115] ([91] ++ Y K.length ++ [93]) (by decide) (by simp; omega)
        rw [hbd]
        clear hbd hY hY9 hYn hY0 hYb
        have j9u : ((u : Int) == 9) = true := by simp; omega
        have qc : (mQuote [102, 105, 101, 108, 100, 115]).length = 8 := by decide
        generalize Y K.length = y at *
        generalize wordM u = wd at *
        generalize mQuote n.name = w at *
        generalize mQuote [110, 97, 109, 101] = w1 at *
        generalize mQuote [116, 121, 112, 101] = w2 at *
        generalize mQuote [102, 105, 101, 108, 100, 115] = w3 at *
        generalize mQuote wd = w4 at *
        unfold str at *
        refine walkBF (And.intro @ncells_mk j13) ?_
        refine walkC (cn) ?_
        refine walkG ?_
        refine walkC (ca) ?_
        (repeat (first | refine pass ?_ | refine VC.region (by rfl) (by rfl) ?_ | (refine AO.step fun K hK => ?_; simp only [ncells_mk, hu, bsz', str_add, List.length_append, List.length_cons, List.length_nil, go_sem, Int.reduceBEq, Int.reduceLE, Int.reduceLT, Int.reduceNeg, Nat.reduceAdd, Nat.reduceEqDiff, Nat.reduceLT, Nat.reduceLeDiff, Nat.reduceMul, Nat.reduceSub, reduceCtorEq, ↓reduceIte]; (first | refine gsel_skip ?_ | refine gsel_go ?_ | skip); (first | refine hK _ _ _ ?_ | refine ⟨by first | omega | exact ⟨_, rfl, rfl⟩ | exact fun _ => ⟨_, rfl, rfl⟩ | (intro h; simp only [ncells_mk, hu, bsz', str_add, List.length_append, List.length_cons, List.length_nil, h, true_and]; omega) | (clear hK; intro h; simp_all <;> omega), hK _ _ _ ?_⟩); clear hK K) | refine VC.draw mixP (by rfl) (by rfl) ?_ | refine ⟨okd_of (by kernel_rfl), ?_⟩ | refine BQ.other (by decide) ?_ | refine VC.seq ?_ | refine AO.nil ?_ | refine VC.block ?_))
        refine walkC (cw) ?_
        refine walkG ?_
        refine walkC (cv) ?_
        refine walkG ?_
        refine walkC (cb) ?_
        (repeat (first | refine pass ?_ | refine VC.region (by rfl) (by rfl) ?_ | (refine AO.step fun K hK => ?_; simp only [ncells_mk, j9, j9u, hu, ← hH, bsz', str_add, List.length_append, List.length_cons, List.length_nil, go_sem, Int.reduceBEq, Int.reduceLE, Int.reduceLT, Int.reduceNeg, Nat.reduceAdd, Nat.reduceEqDiff, Nat.reduceLT, Nat.reduceLeDiff, Nat.reduceMul, Nat.reduceSub, reduceCtorEq, ↓reduceIte]; (first | refine gsel_skip ?_ | refine gsel_go ?_ | skip); (first | refine hK _ _ _ ?_ | refine ⟨by first | omega | exact ⟨_, rfl, rfl⟩ | exact fun _ => ⟨_, rfl, rfl⟩ | (intro h; simp only [ncells_mk, j9, j9u, hu, ← hH, bsz', str_add, List.length_append, List.length_cons, List.length_nil, h, true_and]; omega) | (clear hK; intro h; simp_all <;> omega), hK _ _ _ ?_⟩); clear hK K) | refine VC.draw mixP (by rfl) (by rfl) ?_ | refine ⟨okd_of (by kernel_rfl), ?_⟩ | refine BQ.other (by decide) ?_ | refine VC.seq ?_ | refine AO.nil ?_ | refine VC.block ?_ | refine VC.condT (by rfl) (by trivial) ?_ | refine VC.condF (by rfl) (by trivial) ?_))
        refine walkC (cf) ?_
        (repeat (first | refine pass ?_ | refine VC.region (by rfl) (by rfl) ?_ | (refine AO.step fun K hK => ?_; simp only [← hH, bsz', str_add, List.length_append, List.length_cons, List.length_nil, go_sem, Int.reduceBEq, Int.reduceLE, Int.reduceLT, Int.reduceNeg, Nat.reduceAdd, Nat.reduceEqDiff, Nat.reduceLT, Nat.reduceLeDiff, Nat.reduceMul, Nat.reduceSub, reduceCtorEq, ↓reduceIte]; (first | refine gsel_skip ?_ | refine gsel_go ?_ | skip); (first | refine hK _ _ _ ?_ | refine ⟨by first | omega | exact ⟨_, rfl, rfl⟩ | exact fun _ => ⟨_, rfl, rfl⟩ | (intro h; simp only [← hH, bsz', str_add, List.length_append, List.length_cons, List.length_nil, h, true_and]; omega) | (clear hK; intro h; simp_all <;> omega), hK _ _ _ ?_⟩); clear hK K) | refine VC.draw mixP (by rfl) (by rfl) ?_ | refine ⟨okd_of (by kernel_rfl), ?_⟩ | refine BQ.other (by decide) ?_ | refine VC.seq ?_ | refine AO.nil ?_ | refine VC.block ?_ | refine VC.condT (by rfl) (by trivial) ?_ | refine VC.condF (by rfl) (by trivial) ?_))
        refine ⟨by first | exact .inr rfl | exact .inl rfl, ?_⟩; rw [Tryz.results113]; simp only [resOk, resV, go_sem, Int.reduceBEq, Int.reduceLE, Int.reduceLT, Int.reduceNeg, Nat.reduceAdd, Nat.reduceEqDiff, Nat.reduceLT, Nat.reduceLeDiff, Nat.reduceMul, Nat.reduceSub, reduceCtorEq, ↓reduceIte]
        exact ⟨frz_c (by first | rfl | (rw [hH]; simp)), .c _⟩
      by_cases h14 : n.kind = 14
      · have j9 : (n.kind == 9) = false := by simpa using h9
        have hnl' : (mNumb n.size).length ≤ 100000 := by
          have hdl := digs_len 19 n.size.natAbs (by omega)
          unfold mNumb
          split
          · simp
            omega
          · simp
            omega
        have cf := rnumber_told n.size hsz1 hsz2
        have cg := pair_told [115, 105, 122, 101] (mNumb n.size) (by decide) (by omega)
        have qc : (mQuote [115, 105, 122, 101]).length = 6 := by decide
        have hbd : bodyF n X [] = H ++ (mQuote [115, 105, 122, 101] ++ [58] ++ mNumb n.size) ++ [125] := by
          obtain rfl : u = 14 := by omega
          rw [hH]
          unfold bodyF
          rw [if_neg (by omega), if_neg (by omega), if_pos h14, show mQuote [110, 97, 109, 101] = [34, 110, 97, 109, 101, 34] by decide, show mQuote [116, 121, 112, 101] = [34, 116, 121, 112, 101, 34] by decide, show mQuote [115, 105, 122, 101] = [34, 115, 105, 122, 101, 34] by decide]
          simp [putsF, jName, jType, jSize]
        rw [hbd]
        clear hbd hY hY9 hYn hY0 hYb
        have j9u : ((u : Int) == 9) = false := by simp; omega
        have j14u : ((u : Int) == 14) = true := by simp; omega
        have j14 : (n.kind == 14) = true := by simpa using h14
        generalize Y K.length = y at *
        generalize wordM u = wd at *
        generalize mQuote n.name = w at *
        generalize mNumb n.size = nu at *
        generalize mQuote [110, 97, 109, 101] = w1 at *
        generalize mQuote [116, 121, 112, 101] = w2 at *
        generalize mQuote [115, 105, 122, 101] = w3 at *
        generalize mQuote wd = w4 at *
        unfold str at *
        refine walkBF (And.intro @ncells_mk j13) ?_
        refine walkC (cn) ?_
        refine walkG ?_
        refine walkC (ca) ?_
        (repeat (first | refine pass ?_ | refine VC.region (by rfl) (by rfl) ?_ | (refine AO.step fun K hK => ?_; simp only [ncells_mk, hu, bsz', str_add, List.length_append, List.length_cons, List.length_nil, go_sem, Int.reduceBEq, Int.reduceLE, Int.reduceLT, Int.reduceNeg, Nat.reduceAdd, Nat.reduceEqDiff, Nat.reduceLT, Nat.reduceLeDiff, Nat.reduceMul, Nat.reduceSub, reduceCtorEq, ↓reduceIte]; (first | refine gsel_skip ?_ | refine gsel_go ?_ | skip); (first | refine hK _ _ _ ?_ | refine ⟨by first | omega | exact ⟨_, rfl, rfl⟩ | exact fun _ => ⟨_, rfl, rfl⟩ | (intro h; simp only [ncells_mk, hu, bsz', str_add, List.length_append, List.length_cons, List.length_nil, h, true_and]; omega) | (clear hK; intro h; simp_all <;> omega), hK _ _ _ ?_⟩); clear hK K) | refine VC.draw mixP (by rfl) (by rfl) ?_ | refine ⟨okd_of (by kernel_rfl), ?_⟩ | refine BQ.other (by decide) ?_ | refine VC.seq ?_ | refine AO.nil ?_ | refine VC.block ?_))
        refine walkC (cw) ?_
        refine walkG ?_
        refine walkC (cv) ?_
        refine walkG ?_
        refine walkC (cb) ?_
        (repeat (first | refine pass ?_ | refine VC.region (by rfl) (by rfl) ?_ | (refine AO.step fun K hK => ?_; simp only [ncells_mk, j9, j9u, j14, j14u, hu, ← hH, bsz', str_add, List.length_append, List.length_cons, List.length_nil, go_sem, Int.reduceBEq, Int.reduceLE, Int.reduceLT, Int.reduceNeg, Nat.reduceAdd, Nat.reduceEqDiff, Nat.reduceLT, Nat.reduceLeDiff, Nat.reduceMul, Nat.reduceSub, reduceCtorEq, ↓reduceIte]; (first | refine gsel_skip ?_ | refine gsel_go ?_ | skip); (first | refine hK _ _ _ ?_ | refine ⟨by first | omega | exact ⟨_, rfl, rfl⟩ | exact fun _ => ⟨_, rfl, rfl⟩ | (intro h; simp only [ncells_mk, j9, j9u, j14, j14u, hu, ← hH, bsz', str_add, List.length_append, List.length_cons, List.length_nil, h, true_and]; omega) | (clear hK; intro h; simp_all <;> omega), hK _ _ _ ?_⟩); clear hK K) | refine VC.draw mixP (by rfl) (by rfl) ?_ | refine ⟨okd_of (by kernel_rfl), ?_⟩ | refine BQ.other (by decide) ?_ | refine VC.seq ?_ | refine AO.nil ?_ | refine VC.block ?_ | refine VC.condT (by rfl) (by trivial) ?_ | refine VC.condF (by rfl) (by trivial) ?_))
        refine walkC (cf) ?_
        refine walkG ?_
        refine walkC (cg) ?_
        (repeat (first | refine pass ?_ | refine VC.region (by rfl) (by rfl) ?_ | (refine AO.step fun K hK => ?_; simp only [← hH, bsz', str_add, List.length_append, List.length_cons, List.length_nil, go_sem, Int.reduceBEq, Int.reduceLE, Int.reduceLT, Int.reduceNeg, Nat.reduceAdd, Nat.reduceEqDiff, Nat.reduceLT, Nat.reduceLeDiff, Nat.reduceMul, Nat.reduceSub, reduceCtorEq, ↓reduceIte]; (first | refine gsel_skip ?_ | refine gsel_go ?_ | skip); (first | refine hK _ _ _ ?_ | refine ⟨by first | omega | exact ⟨_, rfl, rfl⟩ | exact fun _ => ⟨_, rfl, rfl⟩ | (intro h; simp only [← hH, bsz', str_add, List.length_append, List.length_cons, List.length_nil, h, true_and]; omega) | (clear hK; intro h; simp_all <;> omega), hK _ _ _ ?_⟩); clear hK K) | refine VC.draw mixP (by rfl) (by rfl) ?_ | refine ⟨okd_of (by kernel_rfl), ?_⟩ | refine BQ.other (by decide) ?_ | refine VC.seq ?_ | refine AO.nil ?_ | refine VC.block ?_ | refine VC.condT (by rfl) (by trivial) ?_ | refine VC.condF (by rfl) (by trivial) ?_))
        refine ⟨by first | exact .inr rfl | exact .inl rfl, ?_⟩; rw [Tryz.results113]; simp only [resOk, resV, go_sem, Int.reduceBEq, Int.reduceLE, Int.reduceLT, Int.reduceNeg, Nat.reduceAdd, Nat.reduceEqDiff, Nat.reduceLT, Nat.reduceLeDiff, Nat.reduceMul, Nat.reduceSub, reduceCtorEq, ↓reduceIte]
        exact ⟨frz_c (by first | rfl | (rw [hH]; simp)), .c _⟩
      have h10 : n.kind = 10 := by omega
      have hK0 : K.length = 0 := by rw [hK]; unfold kidsN; rw [if_neg (by omega), if_neg (by omega), if_neg (by omega)]; rfl
      have j9 : (n.kind == 9) = false := by simpa using h9
      have j14 : (n.kind == 14) = false := by simpa using h14
      have j9u : ((u : Int) == 9) = false := by simp; omega
      have j14u : ((u : Int) == 14) = false := by simp; omega
      have j13u : ((u : Int) == 13) = false := by simp; omega
      have hsl : n.symbols.length ≤ 1000000 := hsy2
      have hYK0 : Y K.length = [] := by rw [hK0, hY0]
      have hbd : bodyF n X [] = H ++ (mQuote [115, 121, 109, 98, 111, 108, 115] ++ [58] ++ ([91] ++ symsF [] n.symbols n.symbols.length ++ [93])) ++ [125] := by
        obtain rfl : u = 10 := by omega
        rw [hH]
        unfold bodyF
        rw [if_neg (by omega), if_pos h10, show mQuote [110, 97, 109, 101] = [34, 110, 97, 109, 101, 34] by decide, show mQuote [116, 121, 112, 101] = [34, 116, 121, 112, 101, 34] by decide, show mQuote [115, 121, 109, 98, 111, 108, 115] = [34, 115, 121, 109, 98, 111, 108, 115, 34] by decide]
        have e := symsF_app (putsF [] [jName, mQuote n.name, jType, mQuote (wordM 10), jSyms]) [] n.symbols n.symbols.length
        rw [List.append_nil] at e
        rw [e]
        simp [putsF, jName, jType, jSyms]
      obtain ⟨Z, hZ⟩ : ∃ Z : Nat → List UInt8, Z = symsF [] n.symbols := ⟨_, rfl⟩
      have hZ0 : Z 0 = [] := by rw [hZ]; rfl
      have hZs : ∀ (i : Nat) (y : List UInt8), n.symbols[i]? = some y → Z (i + 1) = Z i ++ commaM i ++ mQuote y := fun i y hy => by
        rw [hZ, symsF, hy]
        simp [putsF]
      have hZb : ∀ i, i ≤ n.symbols.length → (Z i).length ≤ 100000000 := fun i hi => by
        have h1 := symsF_le [] n.symbols hi
        rw [hbd] at hBd
        simp only [List.length_append] at hBd
        rw [hZ]
        omega
      rw [← hZ] at hbd
      have hZK := hZb n.symbols.length (Nat.le_refl _)
      have cf := pair_told [115, 121, 109, 98, 111, 108, 115] ([91] ++ Z n.symbols.length ++ [93]) (by decide) (by simp; omega)
      rw [hbd]
      clear hbd hY hY9 hYn hY0 hYb hBd hZ
      have qc : (mQuote [115, 121, 109, 98, 111, 108, 115]).length = 9 := by decide
      rw [hYK0]
      clear hYK0 hYK
      generalize wordM u = wd at *
      generalize mQuote n.name = w at *
      generalize mQuote [110, 97, 109, 101] = w1 at *
      generalize mQuote [116, 121, 112, 101] = w2 at *
      generalize mQuote [115, 121, 109, 98, 111, 108, 115] = w3 at *
      generalize mQuote wd = w4 at *
      have hHs : H = [123] ++ (w1 ++ [58] ++ w) ++ [44] ++ (w2 ++ [58] ++ w4) ++ [44] := hH
      unfold str at *
      refine walkBF (And.intro @ncells_mk j13) ?_
      refine walkC (cn) ?_
      refine walkG ?_
      refine walkC (ca) ?_
      (repeat (first | refine pass ?_ | refine VC.region (by rfl) (by rfl) ?_ | (refine AO.step fun K hK => ?_; simp only [ncells_mk, hu, bsz', str_add, List.length_append, List.length_cons, List.length_nil, go_sem, Int.reduceBEq, Int.reduceLE, Int.reduceLT, Int.reduceNeg, Nat.reduceAdd, Nat.reduceEqDiff, Nat.reduceLT, Nat.reduceLeDiff, Nat.reduceMul, Nat.reduceSub, reduceCtorEq, ↓reduceIte]; (first | refine gsel_skip ?_ | refine gsel_go ?_ | skip); (first | refine hK _ _ _ ?_ | refine ⟨by first | omega | exact ⟨_, rfl, rfl⟩ | exact fun _ => ⟨_, rfl, rfl⟩ | (intro h; simp only [ncells_mk, hu, bsz', str_add, List.length_append, List.length_cons, List.length_nil, h, true_and]; omega) | (clear hK; intro h; simp_all <;> omega), hK _ _ _ ?_⟩); clear hK K) | refine VC.draw mixP (by rfl) (by rfl) ?_ | refine ⟨okd_of (by kernel_rfl), ?_⟩ | refine BQ.other (by decide) ?_ | refine VC.seq ?_ | refine AO.nil ?_ | refine VC.block ?_))
      refine walkC (cw) ?_
      refine walkG ?_
      refine walkC (cv) ?_
      refine walkG ?_
      refine walkC (cb) ?_
      (repeat (first | refine pass ?_ | refine VC.region (by rfl) (by rfl) ?_ | (refine AO.step fun K hK => ?_; simp only [ncells_mk, j9, j9u, j14, j14u, hu, ← hH, bsz', str_add, List.length_append, List.length_cons, List.length_nil, go_sem, Int.reduceBEq, Int.reduceLE, Int.reduceLT, Int.reduceNeg, Nat.reduceAdd, Nat.reduceEqDiff, Nat.reduceLT, Nat.reduceLeDiff, Nat.reduceMul, Nat.reduceSub, reduceCtorEq, ↓reduceIte]; (first | refine gsel_skip ?_ | refine gsel_go ?_ | skip); (first | refine hK _ _ _ ?_ | refine ⟨by first | omega | exact ⟨_, rfl, rfl⟩ | exact fun _ => ⟨_, rfl, rfl⟩ | (intro h; simp only [ncells_mk, j9, j9u, j14, j14u, hu, ← hH, bsz', str_add, List.length_append, List.length_cons, List.length_nil, h, true_and]; omega) | (clear hK; intro h; simp_all <;> omega), hK _ _ _ ?_⟩); clear hK K) | refine VC.draw mixP (by rfl) (by rfl) ?_ | refine ⟨okd_of (by kernel_rfl), ?_⟩ | refine BQ.other (by decide) ?_ | refine VC.seq ?_ | refine AO.nil ?_ | refine VC.block ?_ | refine VC.condT (by rfl) (by trivial) ?_ | refine VC.condF (by rfl) (by trivial) ?_))
      refine VC.loop (ι := {i : Nat // i ≤ n.symbols.length}) (fun z => [(2, .c (.v (.int .i64 (P K.length : Int)))), (3, .ref 0 1 0 0), (8, .ref 64 1 0 0), (14, .c (.v (.string (str (Z z.1))))), (16, .c (.v (.string (str H)))), (17, .c (.v (.int .i64 (z.1 : Int))))])
        (fun z => [(0, ⟨false, 24, 2, [s.cells.map .c]⟩), (64, ⟨false, 33, 10, [n.cells.map .c]⟩)]) 4000 (fun z => n.symbols.length - z.1) ⟨0, Nat.zero_le _⟩ ?_ ?_
      · simp only [ncells_mk, scells_mk, rA_len, rA_sc, firstX_len, hu, Weak, eq_self, used_is, sc_any, sc_c, sc_pp, sc_ref, sc_row, sc_agg, sc_fn, ScL, some_imp, List.forall_mem_map, go_sem, Int.reduceBEq, Int.reduceLE, Int.reduceLT, Int.reduceNeg, Nat.reduceAdd, Nat.reduceEqDiff, Nat.reduceLT, Nat.reduceLeDiff, Nat.reduceMul, Nat.reduceSub, reduceCtorEq, ↓reduceIte]
        rw [hZ0]
        first | rfl | exact ⟨rfl, rfl⟩ | simp [hHs, str]
      rintro ⟨j, hj⟩
      simp only []
      refine walkGF (@ncells_mk) ?_
      refine VC.cond (by rfl) (by trivial) (fun hc4 => ?_) (fun hc4 => ?_)
      rotate_left
      · obtain rfl : j = n.symbols.length := by simp at hc4; omega
        generalize Z n.symbols.length = z at *
        unfold str at *
        (repeat (first | refine pass ?_ | refine VC.region (by rfl) (by rfl) ?_ | (refine AO.step fun K hK => ?_; simp only [bsz', str_add, List.length_append, List.length_cons, List.length_nil, go_sem, Int.reduceBEq, Int.reduceLE, Int.reduceLT, Int.reduceNeg, Nat.reduceAdd, Nat.reduceEqDiff, Nat.reduceLT, Nat.reduceLeDiff, Nat.reduceMul, Nat.reduceSub, reduceCtorEq, ↓reduceIte]; (first | refine gsel_skip ?_ | refine gsel_go ?_ | skip); (first | refine hK _ _ _ ?_ | refine ⟨by first | omega | exact ⟨_, rfl, rfl⟩ | exact fun _ => ⟨_, rfl, rfl⟩ | (intro h; simp only [bsz', str_add, List.length_append, List.length_cons, List.length_nil, h, true_and]; omega) | (clear hK; intro h; simp_all <;> omega), hK _ _ _ ?_⟩); clear hK K) | refine VC.draw mixP (by rfl) (by rfl) ?_ | refine ⟨okd_of (by kernel_rfl), ?_⟩ | refine BQ.other (by decide) ?_ | refine VC.seq ?_ | refine AO.nil ?_ | refine VC.block ?_ | refine VC.condT (by rfl) (by trivial) ?_ | refine VC.condF (by rfl) (by trivial) ?_))
        refine walkC (cf) ?_
        (repeat (first | refine pass ?_ | refine VC.region (by rfl) (by rfl) ?_ | (refine AO.step fun K hK => ?_; simp only [bsz', str_add, List.length_append, List.length_cons, List.length_nil, go_sem, Int.reduceBEq, Int.reduceLE, Int.reduceLT, Int.reduceNeg, Nat.reduceAdd, Nat.reduceEqDiff, Nat.reduceLT, Nat.reduceLeDiff, Nat.reduceMul, Nat.reduceSub, reduceCtorEq, ↓reduceIte]; (first | refine gsel_skip ?_ | refine gsel_go ?_ | skip); (first | refine hK _ _ _ ?_ | refine ⟨by first | omega | exact ⟨_, rfl, rfl⟩ | exact fun _ => ⟨_, rfl, rfl⟩ | (intro h; simp only [bsz', str_add, List.length_append, List.length_cons, List.length_nil, h, true_and]; omega) | (clear hK; intro h; simp_all <;> omega), hK _ _ _ ?_⟩); clear hK K) | refine VC.draw mixP (by rfl) (by rfl) ?_ | refine ⟨okd_of (by kernel_rfl), ?_⟩ | refine BQ.other (by decide) ?_ | refine VC.seq ?_ | refine AO.nil ?_ | refine VC.block ?_ | refine VC.condT (by rfl) (by trivial) ?_ | refine VC.condF (by rfl) (by trivial) ?_))
        refine ⟨by first | exact .inr rfl | exact .inl rfl, ?_⟩; rw [Tryz.results113]; simp only [resOk, resV, go_sem, Int.reduceBEq, Int.reduceLE, Int.reduceLT, Int.reduceNeg, Nat.reduceAdd, Nat.reduceEqDiff, Nat.reduceLT, Nat.reduceLeDiff, Nat.reduceMul, Nat.reduceSub, reduceCtorEq, ↓reduceIte]
        exact ⟨.c _, .c _⟩
      have hlt : j < n.symbols.length := by simp at hc4; omega
      obtain ⟨y, hy⟩ : ∃ y, n.symbols[j]? = some y := ⟨n.symbols[j], List.getElem?_eq_getElem hlt⟩
      have hyp : (n.symbols.map sPV)[j]? = some (sPV y) := by rw [List.getElem?_map, hy]; rfl
      have hyl : y.length ≤ 1000000 := hsy1 y (List.mem_of_getElem? hy)
      have hw : IntKind.i64.wrap ((j : Int) + 1) = (j : Int) + 1 := wrap64_id (by omega) (by omega)
      have hS := hZs j y hy
      have hZj := hZb j (by omega)
      have cy := rquote_told y (by omega)
      have qy := quote_len y
      have hkq := hk2 y hyl
      clear hZ0 hZs hZb hZK cf
      generalize mQuote y = yq at *
      generalize Z j = z at *
      unfold str at *
      unfold commaM at hS
      by_cases hi0 : 0 < j
      · rw [if_pos hi0] at hS
        have e0 : decide ((j : Int) > 0) = true := by simpa using hi0
        (repeat (first | refine pass ?_ | refine VC.region (by rfl) (by rfl) ?_ | (refine AO.step fun K hK => ?_; simp only [e0, ncells_mk, hyp, sPV, str, bsz', str_add, List.length_append, List.length_cons, List.length_nil, go_sem, Int.reduceBEq, Int.reduceLE, Int.reduceLT, Int.reduceNeg, Nat.reduceAdd, Nat.reduceEqDiff, Nat.reduceLT, Nat.reduceLeDiff, Nat.reduceMul, Nat.reduceSub, reduceCtorEq, ↓reduceIte]; (first | refine gsel_skip ?_ | refine gsel_go ?_ | skip); (first | refine hK _ _ _ ?_ | refine ⟨by first | omega | exact ⟨_, rfl, rfl⟩ | exact fun _ => ⟨_, rfl, rfl⟩ | (intro h; simp only [e0, ncells_mk, hyp, sPV, str, bsz', str_add, List.length_append, List.length_cons, List.length_nil, h, true_and]; omega) | (clear hK; intro h; simp_all <;> omega), hK _ _ _ ?_⟩); clear hK K) | refine VC.draw mixP (by rfl) (by rfl) ?_ | refine ⟨okd_of (by kernel_rfl), ?_⟩ | refine BQ.other (by decide) ?_ | refine VC.seq ?_ | refine AO.nil ?_ | refine VC.block ?_ | refine VC.condT (by rfl) (by trivial) ?_ | refine VC.condF (by rfl) (by trivial) ?_))
        refine walkC (cy) ?_
        (repeat (first | refine pass ?_ | refine VC.region (by rfl) (by rfl) ?_ | (refine AO.step fun K hK => ?_; simp only [bsz', str_add, List.length_append, List.length_cons, List.length_nil, hw, go_sem, Int.reduceBEq, Int.reduceLE, Int.reduceLT, Int.reduceNeg, Nat.reduceAdd, Nat.reduceEqDiff, Nat.reduceLT, Nat.reduceLeDiff, Nat.reduceMul, Nat.reduceSub, reduceCtorEq, ↓reduceIte]; (first | refine gsel_skip ?_ | refine gsel_go ?_ | skip); (first | refine hK _ _ _ ?_ | refine ⟨by first | omega | exact ⟨_, rfl, rfl⟩ | exact fun _ => ⟨_, rfl, rfl⟩ | (intro h; simp only [bsz', str_add, List.length_append, List.length_cons, List.length_nil, hw, h, true_and]; omega) | (clear hK; intro h; simp_all <;> omega), hK _ _ _ ?_⟩); clear hK K) | refine VC.draw mixP (by rfl) (by rfl) ?_ | refine ⟨okd_of (by kernel_rfl), ?_⟩ | refine BQ.other (by decide) ?_ | refine VC.seq ?_ | refine AO.nil ?_ | refine VC.block ?_ | refine VC.condT (by rfl) (by trivial) ?_ | refine VC.condF (by rfl) (by trivial) ?_))
        refine .next ⟨j + 1, by omega⟩ ?_ (by simp only []; omega)
        simp only [ncells_mk, scells_mk, Weak, eq_self, used_is, sc_any, sc_c, sc_pp, sc_ref, sc_row, sc_agg, sc_fn, ScL, some_imp, List.forall_mem_map, go_sem, Int.reduceBEq, Int.reduceLE, Int.reduceLT, Int.reduceNeg, Nat.reduceAdd, Nat.reduceEqDiff, Nat.reduceLT, Nat.reduceLeDiff, Nat.reduceMul, Nat.reduceSub, reduceCtorEq, ↓reduceIte]
        exact ⟨by rw [hS], cI (by omega)⟩
      · rw [if_neg hi0, List.append_nil] at hS
        have e0 : decide ((j : Int) > 0) = false := by simpa using hi0
        (repeat (first | refine pass ?_ | refine VC.region (by rfl) (by rfl) ?_ | (refine AO.step fun K hK => ?_; simp only [e0, ncells_mk, hyp, sPV, str, bsz', str_add, List.length_append, List.length_cons, List.length_nil, go_sem, Int.reduceBEq, Int.reduceLE, Int.reduceLT, Int.reduceNeg, Nat.reduceAdd, Nat.reduceEqDiff, Nat.reduceLT, Nat.reduceLeDiff, Nat.reduceMul, Nat.reduceSub, reduceCtorEq, ↓reduceIte]; (first | refine gsel_skip ?_ | refine gsel_go ?_ | skip); (first | refine hK _ _ _ ?_ | refine ⟨by first | omega | exact ⟨_, rfl, rfl⟩ | exact fun _ => ⟨_, rfl, rfl⟩ | (intro h; simp only [e0, ncells_mk, hyp, sPV, str, bsz', str_add, List.length_append, List.length_cons, List.length_nil, h, true_and]; omega) | (clear hK; intro h; simp_all <;> omega), hK _ _ _ ?_⟩); clear hK K) | refine VC.draw mixP (by rfl) (by rfl) ?_ | refine ⟨okd_of (by kernel_rfl), ?_⟩ | refine BQ.other (by decide) ?_ | refine VC.seq ?_ | refine AO.nil ?_ | refine VC.block ?_ | refine VC.condT (by rfl) (by trivial) ?_ | refine VC.condF (by rfl) (by trivial) ?_))
        refine walkC (cy) ?_
        (repeat (first | refine pass ?_ | refine VC.region (by rfl) (by rfl) ?_ | (refine AO.step fun K hK => ?_; simp only [bsz', str_add, List.length_append, List.length_cons, List.length_nil, hw, go_sem, Int.reduceBEq, Int.reduceLE, Int.reduceLT, Int.reduceNeg, Nat.reduceAdd, Nat.reduceEqDiff, Nat.reduceLT, Nat.reduceLeDiff, Nat.reduceMul, Nat.reduceSub, reduceCtorEq, ↓reduceIte]; (first | refine gsel_skip ?_ | refine gsel_go ?_ | skip); (first | refine hK _ _ _ ?_ | refine ⟨by first | omega | exact ⟨_, rfl, rfl⟩ | exact fun _ => ⟨_, rfl, rfl⟩ | (intro h; simp only [bsz', str_add, List.length_append, List.length_cons, List.length_nil, hw, h, true_and]; omega) | (clear hK; intro h; simp_all <;> omega), hK _ _ _ ?_⟩); clear hK K) | refine VC.draw mixP (by rfl) (by rfl) ?_ | refine ⟨okd_of (by kernel_rfl), ?_⟩ | refine BQ.other (by decide) ?_ | refine VC.seq ?_ | refine AO.nil ?_ | refine VC.block ?_ | refine VC.condT (by rfl) (by trivial) ?_ | refine VC.condF (by rfl) (by trivial) ?_))
        refine .next ⟨j + 1, by omega⟩ ?_ (by simp only []; omega)
        simp only [ncells_mk, scells_mk, Weak, eq_self, used_is, sc_any, sc_c, sc_pp, sc_ref, sc_row, sc_agg, sc_fn, ScL, some_imp, List.forall_mem_map, go_sem, Int.reduceBEq, Int.reduceLE, Int.reduceLT, Int.reduceNeg, Nat.reduceAdd, Nat.reduceEqDiff, Nat.reduceLT, Nat.reduceLeDiff, Nat.reduceMul, Nat.reduceSub, reduceCtorEq, ↓reduceIte]
        exact ⟨by rw [hS], cI (by omega)⟩
    have hlt : i < K.length := by simp at hc3; omega
    have hw : IntKind.i64.wrap ((i : Int) + 1) = (i : Int) + 1 := wrap64_id (by omega) (by omega)
    have hxi : (rA sPV (firstX X K.length))[i]? = some [.c (.v (.string (str (X i))))] := rA_at (firstX_at X hlt)
    have hXi := hX i
    have hYi := hYb i (by omega)
    have hYj := hYb (i + 1) (by omega)
    by_cases h9 : n.kind = 9
    · have hKf : K = n.fields.map (·.type) := by rw [hK]; unfold kidsN; rw [if_pos h9]
      have hlf : i < n.fields.length := by rw [hKf] at hlt; simpa using hlt
      obtain ⟨f, hf⟩ : ∃ f, n.fields[i]? = some f := ⟨n.fields[i], List.getElem?_eq_getElem hlf⟩
      have hfp : (n.fields.map FT.cells)[i]? = some f.cells := by rw [List.getElem?_map, hf]; rfl
      have hS := hY9 h9 i f hf
      have j9 : (n.kind == 9) = true := by simpa using h9
      have hfn : f.name.length ≤ 1000000 := hflds f (List.mem_of_getElem? hf)
      have cq := rquote_told f.name (by omega)
      have qll := quote_len f.name
      have ca := pair_told [110, 97, 109, 101] (mQuote f.name) (by decide) (by have := hk2 f.name hfn; omega)
      have cb := pair_told [116, 121, 112, 101] (X i) (by decide) (by omega)
      have qa : (mQuote [110, 97, 109, 101]).length = 6 := by decide
      have qb : (mQuote [116, 121, 112, 101]).length = 6 := by decide
      clear hY hY9 hYn hY0 hYb
      generalize mQuote f.name = w at *
      generalize mQuote [110, 97, 109, 101] = w1 at *
      generalize mQuote [116, 121, 112, 101] = w2 at *
      generalize Y i = y at *
      unfold str at *
      unfold commaM at hS
      by_cases hi0 : 0 < i
      · rw [if_pos hi0] at hS
        have e0 : decide ((i : Int) > 0) = true := by simpa using hi0
        (repeat (first | refine pass ?_ | refine VC.region (by rfl) (by rfl) ?_ | (refine AO.step fun K hK => ?_; simp only [e0, ncells_mk, j9, hfp, fcells_mk, len_cells, take_cells, take_cellsC, bsz', str_add, List.length_append, List.length_cons, List.length_nil, go_sem, Int.reduceBEq, Int.reduceLE, Int.reduceLT, Int.reduceNeg, Nat.reduceAdd, Nat.reduceEqDiff, Nat.reduceLT, Nat.reduceLeDiff, Nat.reduceMul, Nat.reduceSub, reduceCtorEq, ↓reduceIte]; (first | refine gsel_skip ?_ | refine gsel_go ?_ | skip); (first | refine hK _ _ _ ?_ | refine ⟨by first | omega | exact ⟨_, rfl, rfl⟩ | exact fun _ => ⟨_, rfl, rfl⟩ | (intro h; simp only [e0, ncells_mk, j9, hfp, fcells_mk, len_cells, take_cells, take_cellsC, bsz', str_add, List.length_append, List.length_cons, List.length_nil, h, true_and]; omega) | (clear hK; intro h; simp_all <;> omega), hK _ _ _ ?_⟩); clear hK K) | refine VC.draw mixP (by rfl) (by rfl) ?_ | refine ⟨okd_of (by kernel_rfl), ?_⟩ | refine BQ.other (by decide) ?_ | refine VC.seq ?_ | refine AO.nil ?_ | refine VC.block ?_ | refine VC.condT (by rfl) (by trivial) ?_ | refine VC.condF (by rfl) (by trivial) ?_))
        refine walkC (cq) ?_
        refine walkG ?_
        refine walkC (ca) ?_
        (repeat (first | refine pass ?_ | refine VC.region (by rfl) (by rfl) ?_ | (refine AO.step fun K hK => ?_; simp only [bsz', str_add, List.length_append, List.length_cons, List.length_nil, hxi, hl, go_sem, Int.reduceBEq, Int.reduceLE, Int.reduceLT, Int.reduceNeg, Nat.reduceAdd, Nat.reduceEqDiff, Nat.reduceLT, Nat.reduceLeDiff, Nat.reduceMul, Nat.reduceSub, reduceCtorEq, ↓reduceIte]; (first | refine gsel_skip ?_ | refine gsel_go ?_ | skip); (first | refine hK _ _ _ ?_ | refine ⟨by first | omega | exact ⟨_, rfl, rfl⟩ | exact fun _ => ⟨_, rfl, rfl⟩ | (intro h; simp only [bsz', str_add, List.length_append, List.length_cons, List.length_nil, hxi, hl, h, true_and]; omega) | (clear hK; intro h; simp_all <;> omega), hK _ _ _ ?_⟩); clear hK K) | refine VC.draw mixP (by rfl) (by rfl) ?_ | refine ⟨okd_of (by kernel_rfl), ?_⟩ | refine BQ.other (by decide) ?_ | refine VC.seq ?_ | refine AO.nil ?_ | refine VC.block ?_))
        refine walkC (cb) ?_
        (repeat (first | refine pass ?_ | refine VC.region (by rfl) (by rfl) ?_ | (refine AO.step fun K hK => ?_; simp only [bsz', str_add, List.length_append, List.length_cons, List.length_nil, hw, go_sem, Int.reduceBEq, Int.reduceLE, Int.reduceLT, Int.reduceNeg, Nat.reduceAdd, Nat.reduceEqDiff, Nat.reduceLT, Nat.reduceLeDiff, Nat.reduceMul, Nat.reduceSub, reduceCtorEq, ↓reduceIte]; (first | refine gsel_skip ?_ | refine gsel_go ?_ | skip); (first | refine hK _ _ _ ?_ | refine ⟨by first | omega | exact ⟨_, rfl, rfl⟩ | exact fun _ => ⟨_, rfl, rfl⟩ | (intro h; simp only [bsz', str_add, List.length_append, List.length_cons, List.length_nil, hw, h, true_and]; omega) | (clear hK; intro h; simp_all <;> omega), hK _ _ _ ?_⟩); clear hK K) | refine VC.draw mixP (by rfl) (by rfl) ?_ | refine ⟨okd_of (by kernel_rfl), ?_⟩ | refine BQ.other (by decide) ?_ | refine VC.seq ?_ | refine AO.nil ?_ | refine VC.block ?_ | refine VC.condT (by rfl) (by trivial) ?_ | refine VC.condF (by rfl) (by trivial) ?_))
        refine .next ⟨i + 1, by omega⟩ ?_ (by simp only []; omega)
        simp only [ncells_mk, scells_mk, rA_len, rA_sc, firstX_len, Weak, eq_self, used_is, sc_any, sc_c, sc_pp, sc_ref, sc_row, sc_agg, sc_fn, ScL, some_imp, List.forall_mem_map, go_sem, Int.reduceBEq, Int.reduceLE, Int.reduceLT, Int.reduceNeg, Nat.reduceAdd, Nat.reduceEqDiff, Nat.reduceLT, Nat.reduceLeDiff, Nat.reduceMul, Nat.reduceSub, reduceCtorEq, ↓reduceIte]
        exact ⟨⟨by rw [hS], cI (by omega)⟩, Nat.le_refl _⟩
      · rw [if_neg hi0, List.append_nil] at hS
        have e0 : decide ((i : Int) > 0) = false := by simpa using hi0
        (repeat (first | refine pass ?_ | refine VC.region (by rfl) (by rfl) ?_ | (refine AO.step fun K hK => ?_; simp only [e0, ncells_mk, j9, hfp, fcells_mk, len_cells, take_cells, take_cellsC, bsz', str_add, List.length_append, List.length_cons, List.length_nil, go_sem, Int.reduceBEq, Int.reduceLE, Int.reduceLT, Int.reduceNeg, Nat.reduceAdd, Nat.reduceEqDiff, Nat.reduceLT, Nat.reduceLeDiff, Nat.reduceMul, Nat.reduceSub, reduceCtorEq, ↓reduceIte]; (first | refine gsel_skip ?_ | refine gsel_go ?_ | skip); (first | refine hK _ _ _ ?_ | refine ⟨by first | omega | exact ⟨_, rfl, rfl⟩ | exact fun _ => ⟨_, rfl, rfl⟩ | (intro h; simp only [e0, ncells_mk, j9, hfp, fcells_mk, len_cells, take_cells, take_cellsC, bsz', str_add, List.length_append, List.length_cons, List.length_nil, h, true_and]; omega) | (clear hK; intro h; simp_all <;> omega), hK _ _ _ ?_⟩); clear hK K) | refine VC.draw mixP (by rfl) (by rfl) ?_ | refine ⟨okd_of (by kernel_rfl), ?_⟩ | refine BQ.other (by decide) ?_ | refine VC.seq ?_ | refine AO.nil ?_ | refine VC.block ?_ | refine VC.condT (by rfl) (by trivial) ?_ | refine VC.condF (by rfl) (by trivial) ?_))
        refine walkC (cq) ?_
        refine walkG ?_
        refine walkC (ca) ?_
        (repeat (first | refine pass ?_ | refine VC.region (by rfl) (by rfl) ?_ | (refine AO.step fun K hK => ?_; simp only [bsz', str_add, List.length_append, List.length_cons, List.length_nil, hxi, hl, go_sem, Int.reduceBEq, Int.reduceLE, Int.reduceLT, Int.reduceNeg, Nat.reduceAdd, Nat.reduceEqDiff, Nat.reduceLT, Nat.reduceLeDiff, Nat.reduceMul, Nat.reduceSub, reduceCtorEq, ↓reduceIte]; (first | refine gsel_skip ?_ | refine gsel_go ?_ | skip); (first | refine hK _ _ _ ?_ | refine ⟨by first | omega | exact ⟨_, rfl, rfl⟩ | exact fun _ => ⟨_, rfl, rfl⟩ | (intro h; simp only [bsz', str_add, List.length_append, List.length_cons, List.length_nil, hxi, hl, h, true_and]; omega) | (clear hK; intro h; simp_all <;> omega), hK _ _ _ ?_⟩); clear hK K) | refine VC.draw mixP (by rfl) (by rfl) ?_ | refine ⟨okd_of (by kernel_rfl), ?_⟩ | refine BQ.other (by decide) ?_ | refine VC.seq ?_ | refine AO.nil ?_ | refine VC.block ?_))
        refine walkC (cb) ?_
        (repeat (first | refine pass ?_ | refine VC.region (by rfl) (by rfl) ?_ | (refine AO.step fun K hK => ?_; simp only [bsz', str_add, List.length_append, List.length_cons, List.length_nil, hw, go_sem, Int.reduceBEq, Int.reduceLE, Int.reduceLT, Int.reduceNeg, Nat.reduceAdd, Nat.reduceEqDiff, Nat.reduceLT, Nat.reduceLeDiff, Nat.reduceMul, Nat.reduceSub, reduceCtorEq, ↓reduceIte]; (first | refine gsel_skip ?_ | refine gsel_go ?_ | skip); (first | refine hK _ _ _ ?_ | refine ⟨by first | omega | exact ⟨_, rfl, rfl⟩ | exact fun _ => ⟨_, rfl, rfl⟩ | (intro h; simp only [bsz', str_add, List.length_append, List.length_cons, List.length_nil, hw, h, true_and]; omega) | (clear hK; intro h; simp_all <;> omega), hK _ _ _ ?_⟩); clear hK K) | refine VC.draw mixP (by rfl) (by rfl) ?_ | refine ⟨okd_of (by kernel_rfl), ?_⟩ | refine BQ.other (by decide) ?_ | refine VC.seq ?_ | refine AO.nil ?_ | refine VC.block ?_ | refine VC.condT (by rfl) (by trivial) ?_ | refine VC.condF (by rfl) (by trivial) ?_))
        refine .next ⟨i + 1, by omega⟩ ?_ (by simp only []; omega)
        simp only [ncells_mk, scells_mk, rA_len, rA_sc, firstX_len, Weak, eq_self, used_is, sc_any, sc_c, sc_pp, sc_ref, sc_row, sc_agg, sc_fn, ScL, some_imp, List.forall_mem_map, go_sem, Int.reduceBEq, Int.reduceLE, Int.reduceLT, Int.reduceNeg, Nat.reduceAdd, Nat.reduceEqDiff, Nat.reduceLT, Nat.reduceLeDiff, Nat.reduceMul, Nat.reduceSub, reduceCtorEq, ↓reduceIte]
        exact ⟨⟨by rw [hS], cI (by omega)⟩, Nat.le_refl _⟩
    · have j9 : (n.kind == 9) = false := by simpa using h9
      have hS := hYn h9 i
      clear hY hY9 hYn hY0 hYb
      generalize Y i = y at *
      unfold str at *
      unfold commaM at hS
      by_cases hi0 : 0 < i
      · rw [if_pos hi0] at hS
        have e0 : decide ((i : Int) > 0) = true := by simpa using hi0
        (repeat (first | refine pass ?_ | refine VC.region (by rfl) (by rfl) ?_ | (refine AO.step fun K hK => ?_; simp only [e0, ncells_mk, j9, bsz', str_add, List.length_append, List.length_cons, List.length_nil, hxi, hl, hw, go_sem, Int.reduceBEq, Int.reduceLE, Int.reduceLT, Int.reduceNeg, Nat.reduceAdd, Nat.reduceEqDiff, Nat.reduceLT, Nat.reduceLeDiff, Nat.reduceMul, Nat.reduceSub, reduceCtorEq, ↓reduceIte]; (first | refine gsel_skip ?_ | refine gsel_go ?_ | skip); (first | refine hK _ _ _ ?_ | refine ⟨by first | omega | exact ⟨_, rfl, rfl⟩ | exact fun _ => ⟨_, rfl, rfl⟩ | (intro h; simp only [e0, ncells_mk, j9, bsz', str_add, List.length_append, List.length_cons, List.length_nil, hxi, hl, hw, h, true_and]; omega) | (clear hK; intro h; simp_all <;> omega), hK _ _ _ ?_⟩); clear hK K) | refine VC.draw mixP (by rfl) (by rfl) ?_ | refine ⟨okd_of (by kernel_rfl), ?_⟩ | refine BQ.other (by decide) ?_ | refine VC.seq ?_ | refine AO.nil ?_ | refine VC.block ?_ | refine VC.condT (by rfl) (by trivial) ?_ | refine VC.condF (by rfl) (by trivial) ?_))
        refine .next ⟨i + 1, by omega⟩ ?_ (by simp only []; omega)
        simp only [ncells_mk, scells_mk, rA_len, rA_sc, firstX_len, Weak, eq_self, used_is, sc_any, sc_c, sc_pp, sc_ref, sc_row, sc_agg, sc_fn, ScL, some_imp, List.forall_mem_map, go_sem, Int.reduceBEq, Int.reduceLE, Int.reduceLT, Int.reduceNeg, Nat.reduceAdd, Nat.reduceEqDiff, Nat.reduceLT, Nat.reduceLeDiff, Nat.reduceMul, Nat.reduceSub, reduceCtorEq, ↓reduceIte]
        exact ⟨⟨by rw [hS], cI (by omega)⟩, Nat.le_refl _⟩
      · rw [if_neg hi0, List.append_nil] at hS
        have e0 : decide ((i : Int) > 0) = false := by simpa using hi0
        (repeat (first | refine pass ?_ | refine VC.region (by rfl) (by rfl) ?_ | (refine AO.step fun K hK => ?_; simp only [e0, ncells_mk, j9, bsz', str_add, List.length_append, List.length_cons, List.length_nil, hxi, hl, hw, go_sem, Int.reduceBEq, Int.reduceLE, Int.reduceLT, Int.reduceNeg, Nat.reduceAdd, Nat.reduceEqDiff, Nat.reduceLT, Nat.reduceLeDiff, Nat.reduceMul, Nat.reduceSub, reduceCtorEq, ↓reduceIte]; (first | refine gsel_skip ?_ | refine gsel_go ?_ | skip); (first | refine hK _ _ _ ?_ | refine ⟨by first | omega | exact ⟨_, rfl, rfl⟩ | exact fun _ => ⟨_, rfl, rfl⟩ | (intro h; simp only [e0, ncells_mk, j9, bsz', str_add, List.length_append, List.length_cons, List.length_nil, hxi, hl, hw, h, true_and]; omega) | (clear hK; intro h; simp_all <;> omega), hK _ _ _ ?_⟩); clear hK K) | refine VC.draw mixP (by rfl) (by rfl) ?_ | refine ⟨okd_of (by kernel_rfl), ?_⟩ | refine BQ.other (by decide) ?_ | refine VC.seq ?_ | refine AO.nil ?_ | refine VC.block ?_ | refine VC.condT (by rfl) (by trivial) ?_ | refine VC.condF (by rfl) (by trivial) ?_))
        refine .next ⟨i + 1, by omega⟩ ?_ (by simp only []; omega)
        simp only [ncells_mk, scells_mk, rA_len, rA_sc, firstX_len, Weak, eq_self, used_is, sc_any, sc_c, sc_pp, sc_ref, sc_row, sc_agg, sc_fn, ScL, some_imp, List.forall_mem_map, go_sem, Int.reduceBEq, Int.reduceLE, Int.reduceLT, Int.reduceNeg, Nat.reduceAdd, Nat.reduceEqDiff, Nat.reduceLT, Nat.reduceLeDiff, Nat.reduceMul, Nat.reduceSub, reduceCtorEq, ↓reduceIte]
        exact ⟨⟨by rw [hS], cI (by omega)⟩, Nat.le_refl _⟩
end

inductive VT where
  | mk (k : Int) (n : Int) (b : Int) (s : List UInt8) (xs : List VT) (ks : List (List UInt8))
mutual
def VT.cells : VT → List PV
  | .mk k n b s xs ks => [.v (.int .i64 k), .v (.int .i64 n), .v (.int .u64 b), .sl 1 (bytePV s), .sl 6 (VT.cellsL xs), .sl 1 (ks.map sPV)]
def VT.cellsL : List VT → List (List PV)
  | [] => []
  | x :: xs => x.cells :: VT.cellsL xs
end
def VT.av (v : VT) : AV := .agg (v.cells.map .c)
theorem VT.av_eq (v : VT) : v.av = .agg (v.cells.map .c) := rfl
mutual
def VT.sm (N : Nat) : VT → Prop
  | .mk k n b s xs ks => (0 ≤ b ∧ b < 18446744073709551616) ∧ s.length ≤ N ∧ ks.length ≤ N ∧ (∀ y ∈ ks, y.length ≤ N) ∧ xs.length ≤ N ∧ VT.smL N xs
def VT.smL (N : Nat) : List VT → Prop
  | [] => True
  | x :: xs => x.sm N ∧ VT.smL N xs
end
mutual
theorem vsm_le {N M : Nat} (h : N ≤ M) : ∀ v : VT, v.sm N → v.sm M
  | .mk k n b s xs ks => fun ⟨h0, h1, h2, h3, h4, h5⟩ => ⟨h0, by omega, by omega, fun y hy => Nat.le_trans (h3 y hy) h, by omega, vsmL_le h xs h5⟩
theorem vsmL_le {N M : Nat} (h : N ≤ M) : ∀ xs : List VT, VT.smL N xs → VT.smL M xs
  | [] => fun _ => trivial
  | x :: xs => fun ⟨h1, h2⟩ => ⟨vsm_le h x h1, vsmL_le h xs h2⟩
end
mutual
def VT.inr : VT → Prop
  | .mk k n b s xs ks => (0 ≤ b ∧ b < 18446744073709551616) ∧ VT.inrL xs
def VT.inrL : List VT → Prop
  | [] => True
  | x :: xs => x.inr ∧ VT.inrL xs
end
/-! Which values are ones of a node. -/
def VT.kind : VT → Int | .mk k _ _ _ _ _ => k
def VT.int : VT → Int | .mk _ n _ _ _ _ => n
def VT.items : VT → List VT | .mk _ _ _ _ xs _ => xs
def vbare (k n b : Int) (s : List UInt8) (m : Nat) (ks : List (List UInt8)) : Bool :=
  ((k == 2 || k == 3 || k == 4 || k == 10 || k == 13) || n == 0) && (((k == 5 || k == 6) || b == 0) && (((k == 7 || k == 8 || k == 14) || s.isEmpty) && (((k == 9 || k == 11 || k == 12 || k == 13) || m == 0) && (k == 12 || ks.isEmpty))))
def keyM (y : List UInt8) : Bool := decide (y.length ≤ 20000) && isRight y
def headM (nd : NT) (k n b : Int) (s : List UInt8) (m : Nat) (ks : List (List UInt8)) : Bool :=
  (k == nd.kind && (vbare k n b s m ks && decide (s.length ≤ 20000))) && (
    if k = 2 then n == 0 || n == 1 else if k = 3 then decide (-2147483648 ≤ n) && decide (n ≤ 2147483647) else if k = 5 then decide (b < 4294967296) else if k = 8 then isRight s
    else if k = 14 then (s.length : Int) == nd.size else if k = 10 then decide (0 ≤ n) && decide (n < (nd.symbols.length : Int)) else if k = 9 then m == nd.fields.length && decide (m ≤ 300)
    else if k = 12 then (ks.length == m && ks.all keyM) && decide (m ≤ 300) else if k = 11 then decide (m ≤ 300) else if k = 13 then decide (0 ≤ n) && (decide (n < (nd.branches.length : Int)) && m == 1) else true)
def typeAt (nd : NT) (i : Nat) : Int := match nd.fields[i]? with | some f => f.type | none => -1
def branchAt (nd : NT) (i : Int) : Int := match nd.branches[i.toNat]? with | some k => k | none => -1
def itemAt (nd : NT) (n : Int) (i : Nat) : Int := if nd.kind = 9 then typeAt nd i else if nd.kind = 13 then branchAt nd n else nd.items
mutual
def isM (ns : List NT) : Int → VT → Bool
  | a, .mk k n b s xs ks => match ns[a.toNat]? with | none => false | some nd => headM nd k n b s xs.length ks && eachM ns (itemAt nd n) xs
def eachM (ns : List NT) : (Nat → Int) → List VT → Bool
  | _, [] => true
  | f, x :: xs => isM ns (f 0) x && eachM ns (fun i => f (i + 1)) xs
end
mutual
def vdeep : VT → Nat
  | .mk k n b s xs ks => if k = 9 ∨ k = 11 ∨ k = 12 ∨ k = 13 then vdeeps 1 xs else 0
def vdeeps : Nat → List VT → Nat
  | n, [] => n
  | n, x :: xs => vdeeps (max n (1 + vdeep x)) xs
end
section
attribute [local go_sem] opx opE ev okx gcond bnd okO AV.get AV.okb cAV upd_at putd_some putd_none wrs_nil wrs_cons look_nil look_cons st argT_at bpick_and bpick_or bpick_true bpick_false binV binI binS binVOk binOk isShift binSOk unV unVOk loadV loadP cellsA zeroA Blkd.len setE grown moreA moreR moreOk eqRes pv fillA fillE putSeg AV.cellish AV.pureL AV.pureB lentL_is ex_some AV.ren AV.renL renL_c Blkd.ren rho wrM renN lentOk rhoE keepM endOk tyA_2 tyA_3 tyA_4 tyA_5 tyA_6 tyA_7 tyA_8 tyA_9 tyA_10 tyA_11 tyA_12 tyA_13 tyA_14 tyA_15 tyA_16 tyA_17 tyA_18 tyA_19 tyA_21 tyA_22 tyA_23 tyA_24 tyA_29 tyA_30 tyA_31 tyA_32 tyA_33 tyA_34 tyA_35 tyA_36 tyA_37 tyA_38 tyA_39 tyA_40 tyA_41 tyA_42 tyA_43 tyA_48 tyA_89 tyA_93 tyA_107 tyA_108 tyA_109 tyA_113 tyA_114 tyA_115 tyA_116 tyA_117 tyA_119 tyA_120 tyA_121 tyA_122 tyA_131 tyA_134 tyA_135 tyA_136 tyA_137 tyA_138 tyA_154 tyA_156 tyA_157 tyA_158 tyA_159 tyA_170 tyA_180 tyA_181 tyA_182 tyA_196 tyA_202 tyA_208 tyA_209 tyA_210 tyA_211 tyA_212 tyA_213 tyA_229 tyA_230 tyA_231 tyA_241 tyA_264 tyA_268 tyA_293 tyA_294 tyA_295 tyA_311 tyA_313 tyA_321 tyA_326 tyA_334 tyA_338 tyA_340 tyA_343 tyA_344 tyA_345 tyA_346 tyA_347 tyA_348 tyA_349 tyA_351 tyA_352 Option.map_some Option.map_none Option.getD_some Option.getD_none Option.bind_some Option.bind_none List.getElem?_cons_zero List.getElem?_cons_succ List.getElem?_nil List.getElem?_toArray List.length_cons List.length_nil List.length_map List.forall_mem_map List.map_cons List.map_nil List.drop_zero List.drop_succ_cons List.drop_nil List.take_zero List.take_succ_cons List.take_nil List.mem_cons List.not_mem_nil or_false forall_eq_or_imp forall_eq List.set_cons_zero List.set_cons_succ List.cons_append List.nil_append List.append_nil List.foldl_cons List.foldl_nil List.replicate_succ List.replicate_zero List.all_cons List.all_nil if_true if_false Bool.false_eq_true ne_eq not_false_eq_true not_true_eq_false true_and and_true and_self true_implies imp_self implies_true forall_const beq_self_eq_true Bool.and_true Bool.true_and Bool.and_false Bool.false_and Bool.or_true Bool.true_or Bool.or_false Bool.false_or Bool.not_true Bool.not_false Bool.not_eq_eq_eq_not intKindOf Value.oneCell' Int.toNat_natCast beq_true beq_false Bool.not_eq_true false_implies false_or true_or or_true Nat.zero_add Nat.add_zero decide_true decide_false Int.cast_ofNat_Int Int.toNat_zero Int.toNat_one eq_self

theorem bareM_eq (n : NT) : bareM n = (!(if namedK n.kind = true then false else (!(n.name == []) || decide ((n.aliases.length : Int) > 0))) && (!(if n.kind == 9 then false else decide ((n.fields.length : Int) > 0)) &&
    (!(if n.kind == 10 then false else (decide ((n.symbols.length : Int) > 0) || n.has || !(n.dflt == []))) && (!(if n.kind == 14 then false else n.size != 0) && (!(if (n.kind == 11) = true ∨ (n.kind == 12) = true then false else n.items != 0) && !(if n.kind == 13 then false else decide ((n.branches.length : Int) > 0))))))) := by
  have e0 : ∀ l : List UInt8, l.isEmpty = (l == []) := fun l => by cases l <;> rfl
  have e1 : ∀ {α : Type} (l : List α), l.isEmpty = !decide ((l.length : Int) > 0) := fun l => by
    cases l with
    | nil => rfl
    | cons x l => simp
  unfold bareM
  rw [e0 n.name, e0 n.dflt, e1 n.aliases, e1 n.fields, e1 n.symbols, e1 n.branches]
  cases namedK n.kind <;> cases (n.kind == 9) <;> cases (n.kind == 10) <;> cases (n.kind == 14) <;> cases (n.kind == 11) <;> cases (n.kind == 12) <;> cases (n.kind == 13) <;> simp [bne, Bool.and_assoc]
set_option maxRecDepth 100000 in
set_option maxHeartbeats 1600000 in
theorem bare_told (n : NT) : Told Tryz.prog 179 [n.av] (.c (.v (.bool (bareM n)))) := by
  obtain ⟨V, hV⟩ : ∃ V, V = bareM n := ⟨_, rfl⟩
  rw [← hV]
  rw [bareM_eq] at hV
  have hN := named_told n.kind
  have hE : (⟨#[]⟩ : ByteArray).toList = [] := str_toList []
  rw [NT.av_eq, ncells_mk]
  refine VC.told ent_179 Tryz.func179 rfl Tryz.ntmps179 (by simp) (by first | rfl | simp [AV.pureB, AV.pureL, pureL_c, pures]) (by first | rfl | simp [AV.pureB, AV.pureL, pureL_c, pures]) fun hb => ?_
  clear hb
  refine walkGF (And.intro @str_toList hE) ?_
  obtain ⟨p1, hp1⟩ : ∃ p : Bool, p = (!(n.name == []) || decide ((n.aliases.length : Int) > 0)) := ⟨_, rfl⟩
  obtain ⟨p2, hp2⟩ : ∃ p : Bool, p = decide ((n.fields.length : Int) > 0) := ⟨_, rfl⟩
  obtain ⟨p3, hp3⟩ : ∃ p : Bool, p = (decide ((n.symbols.length : Int) > 0) || n.has || !(n.dflt == [])) := ⟨_, rfl⟩
  obtain ⟨p4, hp4⟩ : ∃ p : Bool, p = (n.size != 0) := ⟨_, rfl⟩
  obtain ⟨p5, hp5⟩ : ∃ p : Bool, p = (n.items != 0) := ⟨_, rfl⟩
  obtain ⟨p6, hp6⟩ : ∃ p : Bool, p = decide ((n.branches.length : Int) > 0) := ⟨_, rfl⟩
  rw [← hp1, ← hp2, ← hp3, ← hp4, ← hp5, ← hp6] at hV ⊢
  clear hp1 hp2 hp3 hp4 hp5 hp6
  refine walkC (hN) ?_
  by_cases h9 : n.kind = 9
  · rw [h9] at hV ⊢
    have hv : V = (!p3 && !p4 && !p5 && !p6) := by rw [hV]; simp [namedK, Bool.and_assoc]
    clear hV
    have hn : namedK 9 = true := rfl
    refine walkBF (hn) ?_
    refine ⟨by first | exact .inr rfl | exact .inl rfl, ?_⟩; rw [Tryz.results179]; simp only [resOk, resV, go_sem, Int.reduceBEq, Int.reduceLE, Int.reduceLT, Int.reduceNeg, Nat.reduceAdd, Nat.reduceEqDiff, Nat.reduceLT, Nat.reduceLeDiff, Nat.reduceMul, Nat.reduceSub, reduceCtorEq, ↓reduceIte]
    refine frz_c ?_
    rw [hv]
    try simp [Bool.and_assoc]
  by_cases h10 : n.kind = 10
  · rw [h10] at hV ⊢
    have hv : V = (!p2 && !p4 && !p5 && !p6) := by rw [hV]; simp [namedK, Bool.and_assoc]
    clear hV
    have hn : namedK 10 = true := rfl
    refine walkBF (hn) ?_
    refine ⟨by first | exact .inr rfl | exact .inl rfl, ?_⟩; rw [Tryz.results179]; simp only [resOk, resV, go_sem, Int.reduceBEq, Int.reduceLE, Int.reduceLT, Int.reduceNeg, Nat.reduceAdd, Nat.reduceEqDiff, Nat.reduceLT, Nat.reduceLeDiff, Nat.reduceMul, Nat.reduceSub, reduceCtorEq, ↓reduceIte]
    refine frz_c ?_
    rw [hv]
    try simp [Bool.and_assoc]
  by_cases h14 : n.kind = 14
  · rw [h14] at hV ⊢
    have hv : V = (!p2 && !p3 && !p5 && !p6) := by rw [hV]; simp [namedK, Bool.and_assoc]
    clear hV
    have hn : namedK 14 = true := rfl
    refine walkBF (hn) ?_
    refine ⟨by first | exact .inr rfl | exact .inl rfl, ?_⟩; rw [Tryz.results179]; simp only [resOk, resV, go_sem, Int.reduceBEq, Int.reduceLE, Int.reduceLT, Int.reduceNeg, Nat.reduceAdd, Nat.reduceEqDiff, Nat.reduceLT, Nat.reduceLeDiff, Nat.reduceMul, Nat.reduceSub, reduceCtorEq, ↓reduceIte]
    refine frz_c ?_
    rw [hv]
    try simp [Bool.and_assoc]
  by_cases h11 : n.kind = 11
  · rw [h11] at hV ⊢
    have hv : V = (!p1 && !p2 && !p3 && !p4 && !p6) := by rw [hV]; simp [namedK, Bool.and_assoc]
    clear hV
    have hn : namedK 11 = false := rfl
    refine walkBF (hn) ?_
    refine ⟨by first | exact .inr rfl | exact .inl rfl, ?_⟩; rw [Tryz.results179]; simp only [resOk, resV, go_sem, Int.reduceBEq, Int.reduceLE, Int.reduceLT, Int.reduceNeg, Nat.reduceAdd, Nat.reduceEqDiff, Nat.reduceLT, Nat.reduceLeDiff, Nat.reduceMul, Nat.reduceSub, reduceCtorEq, ↓reduceIte]
    refine frz_c ?_
    rw [hv]
    try simp [Bool.and_assoc]
  by_cases h12 : n.kind = 12
  · rw [h12] at hV ⊢
    have hv : V = (!p1 && !p2 && !p3 && !p4 && !p6) := by rw [hV]; simp [namedK, Bool.and_assoc]
    clear hV
    have hn : namedK 12 = false := rfl
    refine walkBF (hn) ?_
    refine ⟨by first | exact .inr rfl | exact .inl rfl, ?_⟩; rw [Tryz.results179]; simp only [resOk, resV, go_sem, Int.reduceBEq, Int.reduceLE, Int.reduceLT, Int.reduceNeg, Nat.reduceAdd, Nat.reduceEqDiff, Nat.reduceLT, Nat.reduceLeDiff, Nat.reduceMul, Nat.reduceSub, reduceCtorEq, ↓reduceIte]
    refine frz_c ?_
    rw [hv]
    try simp [Bool.and_assoc]
  by_cases h13 : n.kind = 13
  · rw [h13] at hV ⊢
    have hv : V = (!p1 && !p2 && !p3 && !p4 && !p5) := by rw [hV]; simp [namedK, Bool.and_assoc]
    clear hV
    have hn : namedK 13 = false := rfl
    refine walkBF (hn) ?_
    refine ⟨by first | exact .inr rfl | exact .inl rfl, ?_⟩; rw [Tryz.results179]; simp only [resOk, resV, go_sem, Int.reduceBEq, Int.reduceLE, Int.reduceLT, Int.reduceNeg, Nat.reduceAdd, Nat.reduceEqDiff, Nat.reduceLT, Nat.reduceLeDiff, Nat.reduceMul, Nat.reduceSub, reduceCtorEq, ↓reduceIte]
    refine frz_c ?_
    rw [hv]
    try simp [Bool.and_assoc]
  · have e9 : (n.kind == 9) = false := by simpa using h9
    have e10 : (n.kind == 10) = false := by simpa using h10
    have e14 : (n.kind == 14) = false := by simpa using h14
    have e11 : (n.kind == 11) = false := by simpa using h11
    have e12 : (n.kind == 12) = false := by simpa using h12
    have e13 : (n.kind == 13) = false := by simpa using h13
    have hn : namedK n.kind = false := by simp [namedK, h9, h10, h14]
    have hv : V = (!p1 && !p2 && !p3 && !p4 && !p5 && !p6) := by rw [hV, hn]; simp [h9, h10, h14, h11, h12, h13, Bool.and_assoc]
    clear hV
    rw [hn]
    refine walkBF (And.intro e9 (And.intro e10 (And.intro e14 (And.intro e11 (And.intro e12 e13))))) ?_
    refine ⟨by first | exact .inr rfl | exact .inl rfl, ?_⟩; rw [Tryz.results179]; simp only [resOk, resV, go_sem, Int.reduceBEq, Int.reduceLE, Int.reduceLT, Int.reduceNeg, Nat.reduceAdd, Nat.reduceEqDiff, Nat.reduceLT, Nat.reduceLeDiff, Nat.reduceMul, Nat.reduceSub, reduceCtorEq, ↓reduceIte]
    refine frz_c ?_
    rw [hv]

theorem view_jzero (h : Nat → Option Blkd) : View h (.agg [.c (.v (.int .i64 0)), .c (.v (.int .i64 0)), .c (.v (.string ⟨#[]⟩)), .c (.v (.slice none 0 0)), .c (.v (.slice none 0 0))]) jzero.av := by
  refine .agg rfl fun k x y h1 h2 => ?_
  match k with
  | 0 => obtain rfl := Option.some.inj h1; obtain rfl := Option.some.inj h2; exact .same _
  | 1 => obtain rfl := Option.some.inj h1; obtain rfl := Option.some.inj h2; exact .same _
  | 2 => obtain rfl := Option.some.inj h1; obtain rfl := Option.some.inj h2; exact .same _
  | 3 => obtain rfl := Option.some.inj h1; obtain rfl := Option.some.inj h2; exact .nil 5
  | 4 => obtain rfl := Option.some.inj h1; obtain rfl := Option.some.inj h2; exact .nil 1
  | k + 5 => simp at h1
theorem fieldM_eq (f : FT) : fieldM f = !((!allM simpleM f.aliases || f.has && !jR f.dflt) || !f.has && !jeq f.dflt jzero) := by
  unfold fieldM
  cases f.has <;> simp
set_option maxRecDepth 100000 in
set_option maxHeartbeats 800000 in
theorem fields_told (l : List FT) (hl : l.length ≤ 1000000) (hs : ∀ f ∈ l, f.sm 1000000) : Told Tryz.prog 182 [.c (.sl 9 (l.map FT.cells))] (.c (.v (.bool (fieldsM l)))) := by
  obtain ⟨V, hV⟩ : ∃ V, V = fieldsM l := ⟨_, rfl⟩
  rw [← hV]
  refine VC.told ent_182 Tryz.func182 rfl Tryz.ntmps182 (by simp) (by first | rfl | simp [AV.pureB, AV.pureL, pureL_c, pures]) (by first | rfl | simp [AV.pureB, AV.pureL, pureL_c, pures]) fun hb => ?_
  clear hb
  refine walkG ?_
  refine VC.nil 3 9 1 (by rfl) (by trivial) (by rfl) ?_
  refine VC.loop (ι := {i : Nat // i ≤ l.length ∧ ∀ (j : Nat) (f : FT), j < i → l[j]? = some f → fieldM f = true}) (fun q => [(0, .c (.sl 9 (l.map FT.cells))), (3, .row 40 q.1), (6, .c (.sl 9 (l.map FT.cells))), (7, .c (.v (.int .i64 (l.length : Int)))), (8, .c (.v (.int .i64 (q.1 : Int))))])
    (fun q => [(40, ⟨true, 9, 1, rA sPV ((l.map (·.name)).take q.1)⟩)]) 800 (fun q => l.length - q.1) ⟨0, Nat.zero_le _, fun j f h => by omega⟩ ?_ ?_
  · simp only [rA_len, rA_sc, rA_nil, Weak, eq_self, used_is, sc_any, sc_c, sc_pp, sc_ref, sc_row, sc_agg, sc_fn, ScL, some_imp, List.forall_mem_map, go_sem, Int.reduceBEq, Int.reduceLE, Int.reduceLT, Int.reduceNeg, Nat.reduceAdd, Nat.reduceEqDiff, Nat.reduceLT, Nat.reduceLeDiff, Nat.reduceMul, Nat.reduceSub, reduceCtorEq, ↓reduceIte]
  rintro ⟨i, hi, ht⟩
  simp only []
  refine walkG ?_
  refine VC.cond (by rfl) (by trivial) (fun hc => ?_) (fun hc => ?_)
  · have hlt : i < l.length := by simp at hc; omega
    obtain ⟨f, hx⟩ : ∃ f, l[i]? = some f := ⟨l[i], List.getElem?_eq_getElem hlt⟩
    have hw : IntKind.i64.wrap ((i : Int) + 1) = (i : Int) + 1 := wrap64_id (by omega) (by omega)
    have hxp : (l.map FT.cells)[i]? = some f.cells := by rw [List.getElem?_map, hx]; rfl
    have hln : (rA sPV ((l.map (·.name)).take i)).length = i := by rw [rA_len]; simp; omega
    have hr : rA sPV ((l.map (·.name)).take i) ++ [[.c (.v (.string (str f.name)))]] = rA sPV ((l.map (·.name)).take (i + 1)) := by
      rw [List.take_add_one, List.getElem?_map, hx]
      exact rA_one sPV _ f.name
    have hl2 : (rA sPV ((l.map (·.name)).take (i + 1))).length = i + 1 := by rw [rA_len]; simp; omega
    obtain ⟨hn1, ha1, ha2, hd⟩ := hs f (List.mem_of_getElem? hx)
    have hA := all_told (g := 184) (rule := simpleM) f.aliases fun x hx => simple_told x (by have := ha2 x hx; omega)
    have hR := jRight_told f.dflt (sm_le (by omega) _ hd)
    have hS := same_told _ f.dflt jzero (Nat.le_refl _)
    simp only [JT.av] at hR
    have hM := fieldM_eq f
    obtain ⟨b1, hb1⟩ : ∃ b, b = allM simpleM f.aliases := ⟨_, rfl⟩
    obtain ⟨b2, hb2⟩ : ∃ b, b = jR f.dflt := ⟨_, rfl⟩
    obtain ⟨b3, hb3⟩ : ∃ b, b = jeq f.dflt jzero := ⟨_, rfl⟩
    rw [← hb1, ← hb2, ← hb3] at hM
    rw [← hb1] at hA
    rw [← hb2] at hR
    rw [← hb3] at hS
    replace hM := Lib.hid hM
    clear hb1 hb2 hb3 ha1 ha2 hd
    refine walkGF (And.intro hxp (And.intro @fcells_mk (And.intro @len_cells (And.intro @take_cells (And.intro @take_cellsC (And.intro hln hr)))))) ?_
    refine walkC (hA) ?_
    refine walkGF (And.intro @fcells_mk (And.intro @len_cells (And.intro @take_cells @take_cellsC))) ?_
    refine walkDF (@pureL_c) (hR) ?_
    refine walkGF (And.intro @fcells_mk (And.intro @len_cells (And.intro @take_cells @take_cellsC))) ?_
    (refine AO.step fun K hK => ?_; simp only [go_sem, Int.reduceBEq, Int.reduceLE, Int.reduceLT, Int.reduceNeg, Nat.reduceAdd, Nat.reduceEqDiff, Nat.reduceLT, Nat.reduceLeDiff, Nat.reduceMul, Nat.reduceSub, reduceCtorEq, ↓reduceIte]; (first | refine gsel_go ?_ | skip))
    refine .inr (.inl ⟨.c (.v (.bool b3)), [f.dflt.av, jzero.av], [], fun hg => ⟨hg, by simp [AV.pureL, AV.pureB, JT.av, pureL_c], rfl, fun k x z h5 h6 => ?_, rfl, hS⟩, hK _ _ _ ?_⟩)
    · match k with
      | 0 => obtain rfl := Option.some.inj h5; obtain rfl := Option.some.inj h6; exact .same _
      | 1 => obtain rfl := Option.some.inj h5; obtain rfl := Option.some.inj h6; exact view_jzero _
      | k + 2 => simp at h5
    clear hK K
    refine walkG ?_
    refine VC.cond (by rfl) (by trivial) (fun hc2 => ?_) (fun hc2 => ?_)
    · have hf : V = false := by
        have : fieldM f = false := by
          rw [hM.out, hc2]
          rfl
        have h2 : l.all fieldM = false := by
          rw [List.all_eq_false]
          exact ⟨f, List.mem_of_getElem? hx, by simp [this]⟩
        rw [hV, fieldsM, h2]
        rfl
      subst hf
      refine walkG ?_
      refine ⟨by first | exact .inr rfl | exact .inl rfl, ?_⟩; rw [Tryz.results182]; simp only [resOk, resV, go_sem, Int.reduceBEq, Int.reduceLE, Int.reduceLT, Int.reduceNeg, Nat.reduceAdd, Nat.reduceEqDiff, Nat.reduceLT, Nat.reduceLeDiff, Nat.reduceMul, Nat.reduceSub, reduceCtorEq, ↓reduceIte]
      exact .c _
    · have hft : fieldM f = true := by
        rw [hM.out, hc2]
        rfl
      refine walkGF (hw) ?_
      refine .next ⟨i + 1, by omega, ?_⟩ ?_ (by simp only []; omega)
      · intro j g hj hg
        by_cases hji : j < i
        · exact ht j g hji hg
        · obtain rfl : j = i := by omega
          rw [hx] at hg
          obtain rfl := Option.some.inj hg
          exact hft
      simp only [hl2, rA_sc, Weak, eq_self, used_is, sc_any, sc_c, sc_pp, sc_ref, sc_row, sc_agg, sc_fn, ScL, some_imp, List.forall_mem_map, go_sem, Int.reduceBEq, Int.reduceLE, Int.reduceLT, Int.reduceNeg, Nat.reduceAdd, Nat.reduceEqDiff, Nat.reduceLT, Nat.reduceLeDiff, Nat.reduceMul, Nat.reduceSub, reduceCtorEq, ↓reduceIte]
      exact ⟨cI (by omega), Nat.le_refl _⟩
  · have hie : i = l.length := by simp at hc; omega
    have htk : (l.map (·.name)).take i = l.map (·.name) := List.take_of_length_le (by simp; omega)
    have hall : l.all fieldM = true := by
      rw [List.all_eq_true]
      intro f hf
      obtain ⟨j, hj⟩ := List.getElem?_of_mem hf
      exact ht j f (by have := (List.getElem?_eq_some_iff.1 hj).1; omega) hj
    have hD := different_told (g := 184) (rule := simpleM) (l.map (·.name)) (by simp; omega) fun x hx => by
      obtain ⟨f, hf, rfl⟩ := List.mem_map.1 hx
      exact simple_told f.name (by have := (hs f hf).1; omega)
    have hv : V = (decide ((l.length : Int) ≤ 40) && diffM simpleM (l.map (·.name))) := by
      rw [hV, fieldsM, hall, Bool.true_and]
      congr 1
      simp
      omega
    clear hV
    replace hv := Lib.hid hv
    rw [htk]
    have hrl : (rA sPV (l.map (·.name))).length = i := by rw [rA_len]; simp; omega
    refine walkGF (hrl) ?_
    (refine AO.step fun K hK => ?_; simp only [go_sem, Int.reduceBEq, Int.reduceLE, Int.reduceLT, Int.reduceNeg, Nat.reduceAdd, Nat.reduceEqDiff, Nat.reduceLT, Nat.reduceLeDiff, Nat.reduceMul, Nat.reduceSub, reduceCtorEq, ↓reduceIte, hrl]; (first | refine gsel_go ?_ | skip))
    refine .inr (.inl ⟨.c (.v (.bool (diffM simpleM (l.map (·.name))))), [.c (.sl 1 ((l.map (·.name)).map sPV)), .fn (.func 184) [] []], [40], fun hg => ⟨hg, by simp [AV.pureL, AV.pureB], rfl, fun k x z h5 h6 => ?_, rfl, hD⟩, hK _ _ _ ?_⟩)
    · match k with
      | 0 =>
        obtain rfl := Option.some.inj h5
        obtain rfl := Option.some.inj h6
        exact View.row (B := ⟨true, 9, 1, rA sPV (l.map fun f : FT => f.name)⟩) (es := (l.map fun f : FT => f.name).map sPV) rfl rfl hrl (rA_pv _ _)
      | 1 => obtain rfl := Option.some.inj h5; obtain rfl := Option.some.inj h6; exact .same _
      | k + 2 => simp at h5
    clear hK K
    refine walkG ?_
    refine ⟨by first | exact .inr rfl | exact .inl rfl, ?_⟩; rw [Tryz.results182]; simp only [resOk, resV, go_sem, Int.reduceBEq, Int.reduceLE, Int.reduceLT, Int.reduceNeg, Nat.reduceAdd, Nat.reduceEqDiff, Nat.reduceLT, Nat.reduceLeDiff, Nat.reduceMul, Nat.reduceSub, reduceCtorEq, ↓reduceIte]
    rw [hv.out]
    exact .c _

set_option maxRecDepth 100000 in
set_option maxHeartbeats 400000 in
theorem ixfI_told {g : FuncId} {fs cs : List AV} (hp : AV.pureL fs = true) (hp' : AV.pureL cs = true) (l : List (Int)) (p : Int → Bool) (hk : ∀ x ∈ l, Told Tryz.prog g (fs ++ ([.c (.v (.int .i64 x))] ++ cs)) (.c (.v (.bool (p x))))) :
    Told Tryz.prog 277 [.c (.sl 1 (l.map iPV)), .fn (.func g) fs cs] (.c (.v (.int .i64 (idxP p l)))) := by
  refine VC.told ent_277 Tryz.func277 rfl Tryz.ntmps277 (by simp) (by simp [AV.pureB, AV.pureL, hp, hp']) rfl fun hb => ?_
  simp only [List.mem_cons, List.not_mem_nil, or_false, forall_eq_or_imp, forall_eq, abd_c, pbd_sl, List.length_map] at hb
  have h1 := hb.1.1
  clear hb
  refine walkG ?_
  refine VC.loop (ι := {i : Nat // i ≤ l.length ∧ ∀ j x, j < i → l[j]? = some x → p x = false}) (fun i => [(0, .c (.sl 1 (l.map iPV))), (1, .fn (.func g) fs cs), (7, .c (.v (.int .i64 l.length))), (8, .c (.v (.int .i64 i.1)))]) (fun _ => []) 0 (fun i => l.length - i.1) ⟨0, Nat.zero_le _, by intro j x hj; omega⟩ ?_ ?_
  · simp only [sc_pureL hp, sc_pureL hp', Weak, eq_self, used_is, sc_any, sc_c, sc_pp, sc_ref, sc_row, sc_agg, sc_fn, ScL, some_imp, List.forall_mem_map, go_sem, Int.reduceBEq, Int.reduceLE, Int.reduceLT, Int.reduceNeg, Nat.reduceAdd, Nat.reduceEqDiff, Nat.reduceLT, Nat.reduceLeDiff, Nat.reduceMul, Nat.reduceSub, reduceCtorEq, ↓reduceIte]
    all_goals rfl
  rintro ⟨i, hi, ht⟩
  refine walkG ?_
  refine VC.cond (by rfl) (by trivial) (fun hc => ?_) (fun hc => ?_)
  · simp only [decide_eq_true_eq] at hc
    obtain ⟨x, hx⟩ : ∃ x, l[i]? = some x := ⟨l[i]'(by omega), List.getElem?_eq_getElem _⟩
    have hw : IntKind.i64.wrap ((i : Int) + 1) = (i : Int) + 1 := wrap64_id (by omega) (by omega)
    have hkx := hk x (List.mem_of_getElem? hx)
    (repeat (first | refine pass ?_ | refine VC.region (by rfl) (by rfl) ?_ | (refine AO.step fun K hK => ?_; simp only [List.getElem?_map, hx, iPV, go_sem, Int.reduceBEq, Int.reduceLE, Int.reduceLT, Int.reduceNeg, Nat.reduceAdd, Nat.reduceEqDiff, Nat.reduceLT, Nat.reduceLeDiff, Nat.reduceMul, Nat.reduceSub, reduceCtorEq, ↓reduceIte]; (first | refine gsel_skip ?_ | refine gsel_go ?_ | skip); (first | refine hK _ _ _ ?_ | refine ⟨by first | omega | exact ⟨_, rfl, rfl⟩ | exact fun _ => ⟨_, rfl, rfl⟩ | (intro h; simp only [List.getElem?_map, hx, iPV, h, true_and]; omega) | (clear hK; intro h; simp_all <;> omega), hK _ _ _ ?_⟩); clear hK K) | refine VC.draw mixP (by rfl) (by rfl) ?_ | refine ⟨okd_of (by kernel_rfl), ?_⟩ | refine BQ.other (by decide) ?_ | refine VC.seq ?_ | refine AO.nil ?_ | refine VC.block ?_))
    ((refine AO.step fun K hK => ?_; simp only [go_sem, Int.reduceBEq, Int.reduceLE, Int.reduceLT, Int.reduceNeg, Nat.reduceAdd, Nat.reduceEqDiff, Nat.reduceLT, Nat.reduceLeDiff, Nat.reduceMul, Nat.reduceSub, reduceCtorEq, ↓reduceIte, iPV, hp, hp', pureL_app, pureL_c, List.append_assoc]; (first | refine gsel_go ?_ | skip)); refine .inl ⟨_, hkx, hK _ _ _ ?_⟩; clear hK K)
    refine walkG ?_
    refine VC.cond (by rfl) (by trivial) (fun hpx => ?_) (fun hpx => ?_)
    · have hr := idxP_at hx hpx ht
      refine walkG ?_
      refine ⟨by first | exact .inr rfl | exact .inl rfl, ?_⟩; rw [Tryz.results277]; simp only [resOk, resV, go_sem, Int.reduceBEq, Int.reduceLE, Int.reduceLT, Int.reduceNeg, Nat.reduceAdd, Nat.reduceEqDiff, Nat.reduceLT, Nat.reduceLeDiff, Nat.reduceMul, Nat.reduceSub, reduceCtorEq, ↓reduceIte]
      rw [hr]
      exact .c _
    · refine walkGF (hw) ?_
      refine .next ⟨i + 1, by omega, fun j y hj hy => ?_⟩ ?_ (by simp only []; omega)
      · rcases Nat.lt_or_ge j i with h | h
        · exact ht j y h hy
        · obtain rfl : j = i := by omega
          rw [hx] at hy
          obtain rfl := Option.some.inj hy
          exact hpx
      simp only [sc_pureL hp, sc_pureL hp', Weak, eq_self, used_is, sc_any, sc_c, sc_pp, sc_ref, sc_row, sc_agg, sc_fn, ScL, some_imp, List.forall_mem_map, go_sem, Int.reduceBEq, Int.reduceLE, Int.reduceLT, Int.reduceNeg, Nat.reduceAdd, Nat.reduceEqDiff, Nat.reduceLT, Nat.reduceLeDiff, Nat.reduceMul, Nat.reduceSub, reduceCtorEq, ↓reduceIte]
      exact cI (by omega)
  · simp only [decide_eq_false_iff_not] at hc
    obtain rfl : i = l.length := by omega
    have hr := idxP_none ht
    refine walkG ?_
    refine ⟨by first | exact .inr rfl | exact .inl rfl, ?_⟩; rw [Tryz.results277]; simp only [resOk, resV, go_sem, Int.reduceBEq, Int.reduceLE, Int.reduceLT, Int.reduceNeg, Nat.reduceAdd, Nat.reduceEqDiff, Nat.reduceLT, Nat.reduceLeDiff, Nat.reduceMul, Nat.reduceSub, reduceCtorEq, ↓reduceIte]
    rw [hr]
    exact .c _
set_option maxRecDepth 100000 in
set_option maxHeartbeats 400000 in
theorem cnfI_told {g : FuncId} {fs cs : List AV} (hp : AV.pureL fs = true) (hp' : AV.pureL cs = true) (l : List (Int)) (p : Int → Bool) (hk : ∀ x ∈ l, Told Tryz.prog g (fs ++ ([.c (.v (.int .i64 x))] ++ cs)) (.c (.v (.bool (p x))))) :
    Told Tryz.prog 245 [.c (.sl 1 (l.map iPV)), .fn (.func g) fs cs] (.c (.v (.bool (l.any p)))) := by
  have hi := ixfI_told hp hp' l p hk
  refine VC.told ent_245 Tryz.func245 rfl Tryz.ntmps245 (by simp) (by simp [AV.pureB, AV.pureL, hp, hp']) rfl fun hb => ?_
  clear hb
  refine walkG ?_
  refine walkCF (And.intro hp hp') (hi) ?_
  refine walkG ?_
  refine ⟨by first | exact .inr rfl | exact .inl rfl, ?_⟩; rw [Tryz.results245]; simp only [resOk, resV, go_sem, Int.reduceBEq, Int.reduceLE, Int.reduceLT, Int.reduceNeg, Nat.reduceAdd, Nat.reduceEqDiff, Nat.reduceLT, Nat.reduceLeDiff, Nat.reduceMul, Nat.reduceSub, reduceCtorEq, ↓reduceIte]
  exact frz_c (by rw [idxP_any])

theorem kindAt_of {ns : List NT} {j : Nat} {n : NT} (h : ns[j]? = some n) : kindAt ns j = n.kind := by rw [kindAt, h]
set_option maxRecDepth 100000 in
set_option maxHeartbeats 800000 in
theorem union1_told (s : ST) (j : Nat) (k kind : Int) (hj : j < s.nodes.length) :
    Told Tryz.prog 246 [.c (.v (.int .i64 (j : Int))), .pp [.v (.int .i64 k)], .pp [.v (.int .i64 kind)], .pp s.cells] (.c (.v (.bool ((j : Int) == k || (!namedK kind && kindAt s.nodes j == kind))))) := by
  obtain ⟨n, hn⟩ : ∃ n, s.nodes[j]? = some n := ⟨s.nodes[j], List.getElem?_eq_getElem hj⟩
  have hnp : (s.nodes.map NT.cells)[j]? = some n.cells := by rw [List.getElem?_map, hn]; rfl
  rw [kindAt_of hn]
  have hN := named_told kind
  rw [scells_mk]
  refine VC.told ent_246 Tryz.func246 rfl Tryz.ntmps246 (by simp) (by first | rfl | simp [AV.pureB, AV.pureL, pureL_c, pures]) (by first | rfl | simp [AV.pureB, AV.pureL, pureL_c, pures]) fun hb => ?_
  clear hb
  refine walkG ?_
  refine walkD (hN) ?_
  refine walkGF (And.intro hnp @ncells_mk) ?_
  refine ⟨by first | exact .inr rfl | exact .inl rfl, ?_⟩; rw [Tryz.results246]; simp only [resOk, resV, go_sem, Int.reduceBEq, Int.reduceLE, Int.reduceLT, Int.reduceNeg, Nat.reduceAdd, Nat.reduceEqDiff, Nat.reduceLT, Nat.reduceLeDiff, Nat.reduceMul, Nat.reduceSub, reduceCtorEq, ↓reduceIte]
  exact .c _
theorem drop_at {α : Type} {l : List α} {i : Nat} {x : α} (h : l[i]? = some x) : l.drop i = x :: l.drop (i + 1) := by
  obtain ⟨hlt, rfl⟩ := List.getElem?_eq_some_iff.1 h
  exact List.drop_eq_getElem_cons hlt
set_option maxRecDepth 100000 in
set_option maxHeartbeats 800000 in
theorem union_told (s : ST) (l : List Int) (hl : ∀ k ∈ l, 0 ≤ k ∧ k < (s.nodes.length : Int)) (hlen : l.length ≤ 1000000) :
    Told Tryz.prog 185 [s.av, .c (.sl 1 (l.map iPV))] (.c (.v (.bool (unionM s.nodes l)))) := by
  obtain ⟨V, hV⟩ : ∃ V, V = unionM s.nodes l := ⟨_, rfl⟩
  rw [← hV]
  unfold unionM at hV
  rw [ST.av_eq, scells_mk]
  refine VC.told ent_185 Tryz.func185 rfl Tryz.ntmps185 (by simp) (by first | rfl | simp [AV.pureB, AV.pureL, pureL_c, pures]) (by first | rfl | simp [AV.pureB, AV.pureL, pureL_c, pures]) fun hb => ?_
  clear hb
  refine walkG ?_
  refine VC.cond (by rfl) (by trivial) (fun hc => ?_) (fun hc => ?_)
  · have hf : V = false := by
      have : ¬ (1 ≤ l.length ∧ l.length ≤ 10) := by simp at hc; omega
      rw [hV]
      by_cases h1 : 1 ≤ l.length
      · have : ¬ l.length ≤ 10 := fun h => this ⟨h1, h⟩
        simp [this]
      · simp [h1]
    subst hf
    refine walkG ?_
    refine ⟨by first | exact .inr rfl | exact .inl rfl, ?_⟩; rw [Tryz.results185]; simp only [resOk, resV, go_sem, Int.reduceBEq, Int.reduceLE, Int.reduceLT, Int.reduceNeg, Nat.reduceAdd, Nat.reduceEqDiff, Nat.reduceLT, Nat.reduceLeDiff, Nat.reduceMul, Nat.reduceSub, reduceCtorEq, ↓reduceIte]
    exact .c _
  have hv : branchesM s.nodes [] l = V := by
    have h1 : 1 ≤ l.length ∧ l.length ≤ 10 := by simp at hc; omega
    rw [hV]
    simp [h1.1, h1.2]
  clear hV hc
  refine VC.frz [0] [(1, .c (.sl 1 (l.map iPV))), (2, .pp [.sl 10 (s.nodes.map NT.cells), .v (.int .i64 s.root)])] [] 400 ?_ ?_
  · simp only [WeakF, used_is, sc_any, sc_c, sc_pp, sc_ref, sc_row, sc_agg, sc_fn, ScL, some_imp, List.forall_mem_map, go_sem, Int.reduceBEq, Int.reduceLE, Int.reduceLT, Int.reduceNeg, Nat.reduceAdd, Nat.reduceEqDiff, Nat.reduceLT, Nat.reduceLeDiff, Nat.reduceMul, Nat.reduceSub, reduceCtorEq, ↓reduceIte]
    exact ⟨.same _, .ref (es := [.sl 10 (s.nodes.map NT.cells), .v (.int .i64 s.root)]) (by simp) rfl rfl rfl rfl⟩
  refine walkG ?_
  refine VC.loop (ι := {i : Nat // i ≤ l.length ∧ branchesM s.nodes (l.take i) (l.drop i) = V})
    (fun q => [(1, .c (.sl 1 (l.map iPV))), (2, .pp [.sl 10 (s.nodes.map NT.cells), .v (.int .i64 s.root)]), (16, .c (.sl 1 (l.map iPV))), (17, .c (.v (.int .i64 (l.length : Int)))), (18, .c (.v (.int .i64 (q.1 : Int))))]) (fun q => []) 800 (fun q => l.length - q.1) ⟨0, Nat.zero_le _, by simpa using hv⟩ ?_ ?_
  · simp only [Weak, eq_self, used_is, sc_any, sc_c, sc_pp, sc_ref, sc_row, sc_agg, sc_fn, ScL, some_imp, List.forall_mem_map, go_sem, Int.reduceBEq, Int.reduceLE, Int.reduceLT, Int.reduceNeg, Nat.reduceAdd, Nat.reduceEqDiff, Nat.reduceLT, Nat.reduceLeDiff, Nat.reduceMul, Nat.reduceSub, reduceCtorEq, ↓reduceIte]
  clear hv
  rintro ⟨i, hi, hv⟩
  simp only []
  refine walkG ?_
  refine VC.cond (by rfl) (by trivial) (fun hc => ?_) (fun hc => ?_)
  · have hlt : i < l.length := by simp at hc; omega
    obtain ⟨x, hx⟩ : ∃ x, l[i]? = some x := ⟨l[i], List.getElem?_eq_getElem hlt⟩
    obtain ⟨h0, h1⟩ := hl x (List.mem_of_getElem? hx)
    obtain ⟨p, rfl⟩ : ∃ p : Nat, x = (p : Int) := ⟨x.toNat, by omega⟩
    have hp : p < s.nodes.length := by omega
    obtain ⟨n, hn⟩ : ∃ n, s.nodes[p]? = some n := ⟨s.nodes[p], List.getElem?_eq_getElem hp⟩
    have hnp : (s.nodes.map NT.cells)[p]? = some n.cells := by rw [List.getElem?_map, hn]; rfl
    have hw : IntKind.i64.wrap ((i : Int) + 1) = (i : Int) + 1 := wrap64_id (by omega) (by omega)
    have hxp : (l.map iPV)[i]? = some (iPV (p : Int)) := by rw [List.getElem?_map, hx]; rfl
    have htk : (l.map iPV).take i = (l.take i).map iPV := by rw [List.map_take]
    have hF := cnfI_told (g := 246) (fs := []) (cs := [.pp [.v (.int .i64 (p : Int))], .pp [.v (.int .i64 n.kind)], .pp s.cells]) rfl rfl (l.take i) (fun m => m == (p : Int) || (!namedK n.kind && kindAt s.nodes m.toNat == n.kind)) fun m hm => by
      obtain ⟨h2, h3⟩ := hl m (List.mem_of_mem_take hm)
      obtain ⟨j, rfl⟩ : ∃ j : Nat, m = (j : Int) := ⟨m.toNat, by omega⟩
      have := union1_told s j (p : Int) n.kind (by omega)
      rw [Int.toNat_natCast]
      exact this
    rw [drop_at hx, branchesM, branchM, Int.toNat_natCast, kindAt_of hn] at hv
    obtain ⟨b, hb⟩ : ∃ b : Bool, b = (l.take i).any fun m => m == (p : Int) || (!namedK n.kind && kindAt s.nodes m.toNat == n.kind) := ⟨_, rfl⟩
    rw [← hb] at hF hv
    refine walkGF (And.intro hxp (And.intro @iPV_eq (And.intro hnp @ncells_mk))) ?_
    (refine AO.step fun K hK => ?_; simp only [go_sem, Int.reduceBEq, Int.reduceLE, Int.reduceLT, Int.reduceNeg, Nat.reduceAdd, Nat.reduceEqDiff, Nat.reduceLT, Nat.reduceLeDiff, Nat.reduceMul, Nat.reduceSub, reduceCtorEq, ↓reduceIte, htk]; (first | refine gsel_go ?_ | skip))
    refine .inr (.inl ⟨.c (.v (.bool b)), [.c (.sl 1 ((l.take i).map iPV)), .fn (.func 246) [] [.pp [.v (.int .i64 (p : Int))], .pp [.v (.int .i64 n.kind)], .pp s.cells]], [832, 904], fun hg => ⟨hg, by rfl, rfl, fun k x z h5 h6 => ?_, rfl, hF⟩, hK _ _ _ ?_⟩)
    · match k with
      | 0 => obtain rfl := Option.some.inj h5; obtain rfl := Option.some.inj h6; exact .same _
      | 1 =>
        obtain rfl := Option.some.inj h5
        obtain rfl := Option.some.inj h6
        refine .fn rfl (by simp) rfl fun k x z h7 h8 => ?_
        match k with
        | 0 => obtain rfl := Option.some.inj h7; obtain rfl := Option.some.inj h8; exact View.ref (es := [.v (.int .i64 (p : Int))]) rfl rfl rfl rfl
        | 1 => obtain rfl := Option.some.inj h7; obtain rfl := Option.some.inj h8; exact View.ref (es := [.v (.int .i64 n.kind)]) rfl rfl rfl rfl
        | 2 => obtain rfl := Option.some.inj h7; obtain rfl := Option.some.inj h8; exact .same _
        | k + 3 => simp at h7
      | k + 2 => simp at h5
    clear hK K
    refine walkG ?_
    refine VC.cond (by rfl) (by trivial) (fun hc2 => ?_) (fun hc2 => ?_)
    · have hf : V = false := by
        rw [← hv]
        have : (n.kind != 13 && !b) = false := by
          cases b <;> simp at hc2 ⊢
          exact hc2
        rw [this]
        rfl
      subst hf
      refine walkG ?_
      refine ⟨by first | exact .inr rfl | exact .inl rfl, ?_⟩; rw [Tryz.results185]; simp only [resOk, resV, go_sem, Int.reduceBEq, Int.reduceLE, Int.reduceLT, Int.reduceNeg, Nat.reduceAdd, Nat.reduceEqDiff, Nat.reduceLT, Nat.reduceLeDiff, Nat.reduceMul, Nat.reduceSub, reduceCtorEq, ↓reduceIte]
      exact .c _
    · refine walkGF (hw) ?_
      refine .next ⟨i + 1, by omega, ?_⟩ ?_ (by simp only []; omega)
      · have : (n.kind != 13 && !b) = true := by
          cases b <;> simp at hc2 ⊢
          exact hc2
        rw [this, Bool.true_and] at hv
        rw [List.take_add_one, hx]
        exact hv
      simp only [Weak, eq_self, used_is, sc_any, sc_c, sc_pp, sc_ref, sc_row, sc_agg, sc_fn, ScL, some_imp, List.forall_mem_map, go_sem, Int.reduceBEq, Int.reduceLE, Int.reduceLT, Int.reduceNeg, Nat.reduceAdd, Nat.reduceEqDiff, Nat.reduceLT, Nat.reduceLeDiff, Nat.reduceMul, Nat.reduceSub, reduceCtorEq, ↓reduceIte]
      try exact cI (by omega)
  · have hie : i = l.length := by simp at hc; omega
    have hf : V = true := by
      rw [← hv, hie, List.drop_length, branchesM]
    subst hf
    refine walkG ?_
    refine ⟨by first | exact .inr rfl | exact .inl rfl, ?_⟩; rw [Tryz.results185]; simp only [resOk, resV, go_sem, Int.reduceBEq, Int.reduceLE, Int.reduceLT, Int.reduceNeg, Nat.reduceAdd, Nat.reduceEqDiff, Nat.reduceLT, Nat.reduceLeDiff, Nat.reduceMul, Nat.reduceSub, reduceCtorEq, ↓reduceIte]
    exact .c _

set_option maxRecDepth 100000 in
set_option maxHeartbeats 1600000 in
theorem node_told (s : ST) (n : NT) (hsm : n.sm 1000000) (hbr : n.kind = 13 → ∀ k ∈ n.branches, 0 ≤ k ∧ k < (s.nodes.length : Int)) : Told Tryz.prog 96 [s.av, n.av] (.c (.v (.bool (nodeM s.nodes n)))) := by
  obtain ⟨V, hV⟩ : ∃ V, V = nodeM s.nodes n := ⟨_, rfl⟩
  rw [← hV]
  unfold nodeM at hV
  obtain ⟨hn1, hn2, ⟨ha1, ha2⟩, ⟨hs1, hs2⟩, hb1, hf1, hf2⟩ := hsm
  have hB := bare_told n
  have hN := named_told n.kind
  have hF := full_told n.name (by omega)
  have hKd := kind_told n.name
  have hA := all_told (g := 100) (rule := fullM) n.aliases fun x hx => full_told x (by have := ha2 x hx; omega)
  have hFi := fields_told n.fields hf1 hf2
  have hC := contains_told n.symbols n.dflt
  have hD := different_told (g := 184) (rule := simpleM) n.symbols (by omega) fun x hx => simple_told x (by have := hs2 x hx; omega)
  have hU := fun h => union_told s n.branches (hbr h) hb1
  clear hbr ha1 ha2 hs2 hf2
  simp only [NT.av_eq, ncells_mk, List.map_cons, List.map_nil] at hB
  simp only [ST.av_eq, scells_mk, List.map_cons, List.map_nil] at hU
  obtain ⟨b0, h0⟩ : ∃ b, b = bareM n := ⟨_, rfl⟩
  obtain ⟨bN, hNN⟩ : ∃ b, b = namedK n.kind := ⟨_, rfl⟩
  obtain ⟨bF, hFF⟩ : ∃ b, b = fullM n.name := ⟨_, rfl⟩
  obtain ⟨kK, hKK⟩ : ∃ b, b = kindM n.name := ⟨_, rfl⟩
  obtain ⟨bA, hAA⟩ : ∃ b, b = allM fullM n.aliases := ⟨_, rfl⟩
  rw [← h0] at hV hB
  rw [← hNN] at hV hN
  rw [← hFF] at hV hF
  rw [← hKK] at hV hKd
  rw [← hAA] at hV hA
  clear h0 hFF hKK hAA
  rw [NT.av_eq, ncells_mk, ST.av_eq, scells_mk]
  have hE : (⟨#[]⟩ : ByteArray).toList = [] := str_toList []
  refine VC.told ent_96 Tryz.func96 rfl Tryz.ntmps96 (by simp) (by first | rfl | simp [AV.pureB, AV.pureL, pureL_c, pures]) (by first | rfl | simp [AV.pureB, AV.pureL, pureL_c, pures]) fun hb => ?_
  clear hb
  refine walkG ?_
  refine walkD (hB) ?_
  refine walkG ?_
  refine VC.cond (by rfl) (by trivial) (fun hc => ?_) (fun hc => ?_)
  · have hf : V = false := by
      rw [hV]
      have : (decide (1 ≤ n.kind) && (decide (n.kind ≤ 14) && b0)) = false := by
        simp at hc ⊢
        intro h1 h2
        cases b0 with
        | false => rfl
        | true => simp at hc; omega
      rw [this]
      rfl
    subst hf
    refine walkG ?_
    refine ⟨by first | exact .inr rfl | exact .inl rfl, ?_⟩; rw [Tryz.results96]; simp only [resOk, resV, go_sem, Int.reduceBEq, Int.reduceLE, Int.reduceLT, Int.reduceNeg, Nat.reduceAdd, Nat.reduceEqDiff, Nat.reduceLT, Nat.reduceLeDiff, Nat.reduceMul, Nat.reduceSub, reduceCtorEq, ↓reduceIte]
    exact .c _
  have h1 : (decide (1 ≤ n.kind) && (decide (n.kind ≤ 14) && b0)) = true := by
    simp at hc ⊢
    exact ⟨by omega, by omega, hc.2⟩
  rw [h1, Bool.true_and] at hV
  clear h1 hc
  refine walkG ?_
  refine walkC (hN) ?_
  refine walkG ?_
  refine walkD (hF) ?_
  refine walkG ?_
  refine walkD (hKd) ?_
  refine walkG ?_
  refine walkD (hA) ?_
  refine walkG ?_
  refine VC.cond (by rfl) (by trivial) (fun hc => ?_) (fun hc => ?_)
  · have hf : V = false := by
      rw [hV]
      have : (!bN || (bF && (kK == 0 && bA))) = false := by
        cases bN <;> cases bF <;> cases bA <;> simp at hc ⊢
        simpa using hc
      rw [this]
      rfl
    subst hf
    refine walkG ?_
    refine ⟨by first | exact .inr rfl | exact .inl rfl, ?_⟩; rw [Tryz.results96]; simp only [resOk, resV, go_sem, Int.reduceBEq, Int.reduceLE, Int.reduceLT, Int.reduceNeg, Nat.reduceAdd, Nat.reduceEqDiff, Nat.reduceLT, Nat.reduceLeDiff, Nat.reduceMul, Nat.reduceSub, reduceCtorEq, ↓reduceIte]
    exact .c _
  have h1 : (!bN || (bF && (kK == 0 && bA))) = true := by
    cases bN <;> cases bF <;> cases bA <;> simp at hc ⊢
    simpa using hc
  rw [h1, Bool.true_and] at hV
  clear h1 hc hN hF hKd hA hB
  by_cases h9 : n.kind = 9
  · rw [if_pos h9] at hV
    subst hV
    rw [h9]
    refine walkB ?_
    refine walkC (hFi) ?_
    refine walkG ?_
    refine ⟨by first | exact .inr rfl | exact .inl rfl, ?_⟩; rw [Tryz.results96]; simp only [resOk, resV, go_sem, Int.reduceBEq, Int.reduceLE, Int.reduceLT, Int.reduceNeg, Nat.reduceAdd, Nat.reduceEqDiff, Nat.reduceLT, Nat.reduceLeDiff, Nat.reduceMul, Nat.reduceSub, reduceCtorEq, ↓reduceIte]
    exact .c _
  by_cases h10 : n.kind = 10
  · rw [if_neg h9, if_pos h10] at hV
    rw [h10]
    obtain ⟨bC, hCC⟩ : ∃ b, b = n.symbols.contains n.dflt := ⟨_, rfl⟩
    obtain ⟨bD, hDD⟩ : ∃ b, b = diffM simpleM n.symbols := ⟨_, rfl⟩
    rw [← hCC] at hV hC
    rw [← hDD] at hV hD
    clear hCC hDD
    refine walkB ?_
    refine walkC (hC) ?_
    refine walkGF (And.intro @str_toList hE) ?_
    refine VC.cond (by rfl) (by trivial) (fun hc => ?_) (fun hc => ?_)
    · have hf : V = false := by
        rw [hV]
        have : ((n.has == bC) && (n.has || n.dflt.isEmpty)) = false := by
          cases hh : n.has <;> cases bC <;> cases hd : n.dflt <;> simp [hh, hd] at hc ⊢
        rw [this]
        rfl
      subst hf
      refine walkG ?_
      refine ⟨by first | exact .inr rfl | exact .inl rfl, ?_⟩; rw [Tryz.results96]; simp only [resOk, resV, go_sem, Int.reduceBEq, Int.reduceLE, Int.reduceLT, Int.reduceNeg, Nat.reduceAdd, Nat.reduceEqDiff, Nat.reduceLT, Nat.reduceLeDiff, Nat.reduceMul, Nat.reduceSub, reduceCtorEq, ↓reduceIte]
      exact .c _
    · have h1 : ((n.has == bC) && (n.has || n.dflt.isEmpty)) = true := by
        cases hh : n.has <;> cases bC <;> cases hd : n.dflt <;> simp [hh, hd] at hc ⊢
      rw [h1, Bool.true_and] at hV
      have hv : V = ((decide ((n.symbols.length : Int) ≥ 1) && decide ((n.symbols.length : Int) ≤ 40)) && bD) := by
        rw [hV, Bool.and_assoc]
        congr 1
        · simp
          omega
        · congr 1
          simp
          omega
      clear hV hc h1
      replace hv := Lib.hid hv
      refine walkG ?_
      refine walkD (hD) ?_
      refine walkG ?_
      refine ⟨by first | exact .inr rfl | exact .inl rfl, ?_⟩; rw [Tryz.results96]; simp only [resOk, resV, go_sem, Int.reduceBEq, Int.reduceLE, Int.reduceLT, Int.reduceNeg, Nat.reduceAdd, Nat.reduceEqDiff, Nat.reduceLT, Nat.reduceLeDiff, Nat.reduceMul, Nat.reduceSub, reduceCtorEq, ↓reduceIte]
      rw [hv.out]
      exact .c _
  by_cases h14 : n.kind = 14
  · rw [if_neg h9, if_neg h10, if_pos h14] at hV
    rw [h14]
    refine walkB ?_
    refine ⟨by first | exact .inr rfl | exact .inl rfl, ?_⟩; rw [Tryz.results96]; simp only [resOk, resV, go_sem, Int.reduceBEq, Int.reduceLE, Int.reduceLT, Int.reduceNeg, Nat.reduceAdd, Nat.reduceEqDiff, Nat.reduceLT, Nat.reduceLeDiff, Nat.reduceMul, Nat.reduceSub, reduceCtorEq, ↓reduceIte]
    rw [hV]
    exact .c _
  by_cases h13 : n.kind = 13
  · rw [if_neg h9, if_neg h10, if_neg h14, if_pos h13] at hV
    subst hV
    rw [h13]
    have hU := hU h13
    refine walkB ?_
    refine walkC (hU) ?_
    refine walkG ?_
    refine ⟨by first | exact .inr rfl | exact .inl rfl, ?_⟩; rw [Tryz.results96]; simp only [resOk, resV, go_sem, Int.reduceBEq, Int.reduceLE, Int.reduceLT, Int.reduceNeg, Nat.reduceAdd, Nat.reduceEqDiff, Nat.reduceLT, Nat.reduceLeDiff, Nat.reduceMul, Nat.reduceSub, reduceCtorEq, ↓reduceIte]
    exact .c _
  · rw [if_neg h9, if_neg h10, if_neg h14, if_neg h13] at hV
    subst hV
    have e9 : (n.kind == 9) = false := by simpa using h9
    have e10 : (n.kind == 10) = false := by simpa using h10
    have e14 : (n.kind == 14) = false := by simpa using h14
    have e13 : (n.kind == 13) = false := by simpa using h13
    refine walkBF (And.intro e9 (And.intro e10 (And.intro e14 e13))) ?_
    refine ⟨by first | exact .inr rfl | exact .inl rfl, ?_⟩; rw [Tryz.results96]; simp only [resOk, resV, go_sem, Int.reduceBEq, Int.reduceLE, Int.reduceLT, Int.reduceNeg, Nat.reduceAdd, Nat.reduceEqDiff, Nat.reduceLT, Nat.reduceLeDiff, Nat.reduceMul, Nat.reduceSub, reduceCtorEq, ↓reduceIte]
    exact .c _
end
end Go.Proofs.YtkaogeogjjcdhaaGreatDoor
