/- Texts that lead to the law FingerSchemas, joined. -/
import Derived.Test.YtkaogeogjjcdhaaGreatDoorPkFingerSchemasG
import Derived.Test.YtkaogeogjjcdhaaGreatDoorPkFingerSchemasA
import Derived.Test.YtkaogeogjjcdhaaGreatDoorPkFingerSchemasB
namespace Go.Proofs.YtkaogeogjjcdhaaGreatDoor
open Go.RowKit
set_option linter.unusedVariables false
set_option linter.unusedSimpArgs false
section
attribute [local go_sem] opx opE ev okx gcond bnd okO AV.get AV.okb cAV upd_at putd_some putd_none wrs_nil wrs_cons look_nil look_cons st argT_at bpick_and bpick_or bpick_true bpick_false binV binI binS binVOk binOk isShift binSOk unV unVOk loadV loadP cellsA zeroA Blkd.len setE grown moreA moreR moreOk eqRes pv fillA fillE putSeg AV.cellish AV.pureL AV.pureB lentL_is ex_some AV.ren AV.renL renL_c Blkd.ren rho wrM renN lentOk rhoE keepM endOk tyA_2 tyA_3 tyA_4 tyA_5 tyA_6 tyA_7 tyA_8 tyA_9 tyA_10 tyA_11 tyA_12 tyA_13 tyA_14 tyA_15 tyA_16 tyA_17 tyA_18 tyA_19 tyA_21 tyA_22 tyA_23 tyA_24 tyA_29 tyA_30 tyA_31 tyA_32 tyA_33 tyA_34 tyA_35 tyA_36 tyA_37 tyA_38 tyA_39 tyA_40 tyA_41 tyA_42 tyA_43 tyA_48 tyA_89 tyA_93 tyA_107 tyA_108 tyA_109 tyA_113 tyA_114 tyA_115 tyA_116 tyA_117 tyA_119 tyA_120 tyA_121 tyA_122 tyA_131 tyA_134 tyA_135 tyA_136 tyA_137 tyA_138 tyA_154 tyA_156 tyA_157 tyA_158 tyA_159 tyA_170 tyA_180 tyA_181 tyA_182 tyA_196 tyA_202 tyA_208 tyA_209 tyA_210 tyA_211 tyA_212 tyA_213 tyA_229 tyA_230 tyA_231 tyA_241 tyA_264 tyA_268 tyA_293 tyA_294 tyA_295 tyA_311 tyA_313 tyA_321 tyA_326 tyA_334 tyA_338 tyA_340 tyA_343 tyA_344 tyA_345 tyA_346 tyA_347 tyA_348 tyA_349 tyA_351 tyA_352 Option.map_some Option.map_none Option.getD_some Option.getD_none Option.bind_some Option.bind_none List.getElem?_cons_zero List.getElem?_cons_succ List.getElem?_nil List.getElem?_toArray List.length_cons List.length_nil List.length_map List.forall_mem_map List.map_cons List.map_nil List.drop_zero List.drop_succ_cons List.drop_nil List.take_zero List.take_succ_cons List.take_nil List.mem_cons List.not_mem_nil or_false forall_eq_or_imp forall_eq List.set_cons_zero List.set_cons_succ List.cons_append List.nil_append List.append_nil List.foldl_cons List.foldl_nil List.replicate_succ List.replicate_zero List.all_cons List.all_nil if_true if_false Bool.false_eq_true ne_eq not_false_eq_true not_true_eq_false true_and and_true and_self true_implies imp_self implies_true forall_const beq_self_eq_true Bool.and_true Bool.true_and Bool.and_false Bool.false_and Bool.or_true Bool.true_or Bool.or_false Bool.false_or Bool.not_true Bool.not_false Bool.not_eq_eq_eq_not intKindOf Value.oneCell' Int.toNat_natCast beq_true beq_false Bool.not_eq_true false_implies false_or true_or or_true Nat.zero_add Nat.add_zero decide_true decide_false Int.cast_ofNat_Int Int.toNat_zero Int.toNat_one eq_self

def sizesL : List Int := [0, 64, 4096, 262144]
def marksL : List Int := [0, 192, 224, 240]
def cvS (l : List UInt8) (n : Nat) : Nat → Int
  | 0 => if n = 1 then (bN l 0 : Int) else if n = 2 then ((bN l 0 : Int) - 192) * 64 else if n = 3 then ((bN l 0 : Int) - 224) * 4096 else ((bN l 0 : Int) - 240) * 262144
  | i + 1 => cvS l n i + ((bN l (i + 1) : Int) - 128) * ((64 ^ (n - 1 - (i + 1)) : Nat) : Int)
theorem cvS_end {l : List UInt8} {n : Nat} (h1 : 1 ≤ n) (h4 : n ≤ 4) : cvS l n (n - 1) = cvN l 0 n := by
  rcases (by omega : n = 1 ∨ n = 2 ∨ n = 3 ∨ n = 4) with rfl | rfl | rfl | rfl <;> simp [cvS, cvN]
theorem cvS_le {l : List UInt8} {n : Nat} (h1 : 1 ≤ n) (h4 : n ≤ 4) : ∀ i, i < n → -100000000 * ((i : Int) + 1) ≤ cvS l n i ∧ cvS l n i ≤ 100000000 * ((i : Int) + 1)
  | 0, _ => by
    have := bN_lt l 0
    unfold cvS
    split
    · omega
    · split
      · omega
      · split <;> omega
  | i + 1, h => by
    obtain ⟨a, b⟩ := cvS_le (l := l) h1 h4 i (by omega)
    have := bN_lt l (i + 1)
    have hp : 64 ^ (n - 1 - (i + 1)) ≤ 4096 := by
      have : n - 1 - (i + 1) ≤ 2 := by omega
      calc 64 ^ (n - 1 - (i + 1)) ≤ 64 ^ 2 := Nat.pow_le_pow_right (by omega) this
        _ = 4096 := rfl
    rw [cvS]
    generalize 64 ^ (n - 1 - (i + 1)) = p at hp ⊢
    have h1 : ((bN l (i + 1) : Int) - 128) * (p : Int) ≤ 128 * 4096 := by
      by_cases hs : (bN l (i + 1) : Int) - 128 ≤ 0
      · have := Int.mul_nonpos_of_nonpos_of_nonneg hs (by omega : (0 : Int) ≤ p)
        omega
      · exact Int.mul_le_mul (by omega) (by omega) (by omega) (by omega)
    have h2 : -(128 * 4096) ≤ ((bN l (i + 1) : Int) - 128) * (p : Int) := by
      have : (128 - (bN l (i + 1) : Int)) * (p : Int) ≤ 128 * 4096 := by
        by_cases hs : 128 - (bN l (i + 1) : Int) ≤ 0
        · have := Int.mul_nonpos_of_nonpos_of_nonneg hs (by omega : (0 : Int) ≤ p)
          omega
        · exact Int.mul_le_mul (by omega) (by omega) (by omega) (by omega)
      have e : (128 - (bN l (i + 1) : Int)) * (p : Int) = -(((bN l (i + 1) : Int) - 128) * (p : Int)) := by rw [← Int.neg_mul]; congr 1; omega
      omega
    have e : ((i + 1 : Nat) : Int) = (i : Int) + 1 := by omega
    rw [e]
    constructor <;> omega
set_option maxRecDepth 100000 in
set_option maxHeartbeats 3200000 in
theorem rwhole_told (m : List UInt8) (hbig : m.length ≤ 1000000) : Told Tryz.prog 260 [.c (.sl 1 (bytePV m))] (.c (.v (.int .i64 (wholeV m 0)))) := by
  have hlen : (bytePV m).length = m.length := by simp [bytePV]
  obtain ⟨V, hV⟩ : ∃ V, V = wholeV m 0 := ⟨_, rfl⟩
  rw [← hV]
  refine VC.told ent_260 Tryz.func260 rfl Tryz.ntmps260 (by simp) (by first | rfl | simp [AV.pureB, AV.pureL, pureL_c, pures]) (by first | rfl | simp [AV.pureB, AV.pureL, pureL_c, pures]) fun hb => ?_
  clear hb
  (refine VC.seq ?_; (first | refine VC.region (by rfl) (by rfl) ?_ | refine VC.draw mixP (by rfl) (by rfl) ?_); (repeat (refine AO.step fun K hK => ?_; simp only [go_sem, Int.reduceBEq, Int.reduceLE, Int.reduceLT, Int.reduceNeg, Nat.reduceAdd, Nat.reduceEqDiff, Nat.reduceLT, Nat.reduceLeDiff, Nat.reduceMul, Nat.reduceSub, reduceCtorEq, ↓reduceIte]; (first | refine gsel_skip ?_ | refine gsel_go ?_ | skip); (first | refine hK _ _ _ ?_ | refine ⟨by first | omega | exact ⟨_, rfl, rfl⟩ | exact fun _ => ⟨_, rfl, rfl⟩ | (intro h; simp only [h, true_and]; omega) | (clear hK; intro h; simp_all <;> omega), hK _ _ _ ?_⟩); clear hK K)); refine AO.nil ?_; first | refine SQ.normal ?_ | refine ⟨okd_of (by kernel_rfl), SQ.normal ?_⟩)
  (refine VC.seq ?_; (first | refine VC.region (by rfl) (by rfl) ?_ | refine VC.draw mixP (by rfl) (by rfl) ?_); (repeat (refine AO.step fun K hK => ?_; simp only [go_sem, Int.reduceBEq, Int.reduceLE, Int.reduceLT, Int.reduceNeg, Nat.reduceAdd, Nat.reduceEqDiff, Nat.reduceLT, Nat.reduceLeDiff, Nat.reduceMul, Nat.reduceSub, reduceCtorEq, ↓reduceIte]; (first | refine gsel_skip ?_ | refine gsel_go ?_ | skip); (first | refine hK _ _ _ ?_ | refine ⟨by first | omega | exact ⟨_, rfl, rfl⟩ | exact fun _ => ⟨_, rfl, rfl⟩ | (intro h; simp only [h, true_and]; omega) | (clear hK; intro h; simp_all <;> omega), hK _ _ _ ?_⟩); clear hK K)); refine AO.nil ?_; first | refine SQ.normal ?_ | refine ⟨okd_of (by kernel_rfl), SQ.normal ?_⟩)
  (refine VC.seq ?_; (first | refine VC.region (by rfl) (by rfl) ?_ | refine VC.draw mixP (by rfl) (by rfl) ?_); (repeat (refine AO.step fun K hK => ?_; simp only [go_sem, Int.reduceBEq, Int.reduceLE, Int.reduceLT, Int.reduceNeg, Nat.reduceAdd, Nat.reduceEqDiff, Nat.reduceLT, Nat.reduceLeDiff, Nat.reduceMul, Nat.reduceSub, reduceCtorEq, ↓reduceIte]; (first | refine gsel_skip ?_ | refine gsel_go ?_ | skip); (first | refine hK _ _ _ ?_ | refine ⟨by first | omega | exact ⟨_, rfl, rfl⟩ | exact fun _ => ⟨_, rfl, rfl⟩ | (intro h; simp only [h, true_and]; omega) | (clear hK; intro h; simp_all <;> omega), hK _ _ _ ?_⟩); clear hK K)); refine AO.nil ?_; first | refine SQ.normal ?_ | refine ⟨okd_of (by kernel_rfl), SQ.normal ?_⟩)
  refine VC.frz [8, 24] [(0, .c (.sl 1 (bytePV m))), (3, .c (.sl 1 (sizesL.map iPV))), (4, .c (.sl 1 (marksL.map iPV)))] [] 400 ?_ ?_
  · simp only [WeakF, used_is, sc_any, sc_c, sc_pp, sc_ref, sc_row, sc_agg, sc_fn, ScL, some_imp, List.forall_mem_map, go_sem, Int.reduceBEq, Int.reduceLE, Int.reduceLT, Int.reduceNeg, Nat.reduceAdd, Nat.reduceEqDiff, Nat.reduceLT, Nat.reduceLeDiff, Nat.reduceMul, Nat.reduceSub, reduceCtorEq, ↓reduceIte]
    exact ⟨.same _, .row (B := ⟨true, 2, 1, [[.c (.v (.int .i64 0))], [.c (.v (.int .i64 64))], [.c (.v (.int .i64 4096))], [.c (.v (.int .i64 262144))]]⟩) (es := sizesL.map iPV) (by simp) rfl rfl rfl rfl,
      .row (B := ⟨true, 2, 1, [[.c (.v (.int .i64 0))], [.c (.v (.int .i64 192))], [.c (.v (.int .i64 224))], [.c (.v (.int .i64 240))]]⟩) (es := marksL.map iPV) (by simp) rfl rfl rfl rfl⟩
  refine walkG ?_
  refine VC.loop (ι := {n : Nat // 1 ≤ n ∧ n ≤ 5 ∧ ∀ k, 1 ≤ k → k < n → wtest m 0 k = false}) (fun q => [(0, .c (.sl 1 (bytePV m))), (3, .c (.sl 1 (sizesL.map iPV))), (4, .c (.sl 1 (marksL.map iPV))), (5, .c (.v (.int .i64 (q.1 : Int))))]) (fun _ => []) 800 (fun q => 5 - q.1)
    ⟨1, by omega, by omega, fun k h1 h2 => by omega⟩ ?_ ?_
  · simp only [Weak, eq_self, used_is, sc_any, sc_c, sc_pp, sc_ref, sc_row, sc_agg, sc_fn, ScL, some_imp, List.forall_mem_map, go_sem, Int.reduceBEq, Int.reduceLE, Int.reduceLT, Int.reduceNeg, Nat.reduceAdd, Nat.reduceEqDiff, Nat.reduceLT, Nat.reduceLeDiff, Nat.reduceMul, Nat.reduceSub, reduceCtorEq, ↓reduceIte]
  rintro ⟨n, hn1, hn5, hno⟩
  simp only []
  refine walkGF (hlen) ?_
  refine VC.cond (by rfl) (by trivial) (fun hc => ?_) (fun hc => ?_)
  rotate_left
  · have hf : V = -1 := by
      have hend : n = 5 ∨ m.length < n := by
        simp at hc
        omega
      have hall : ∀ k, 1 ≤ k → k ≤ 4 → wtest m 0 k = false := fun k h1 h2 => by
        by_cases hk : k < n
        · exact hno k h1 hk
        · rcases wtest_long (l := m) (p := 0) (n := k) (by omega) with h | h
          · exact h
          · omega
      rw [hV]
      exact wtest_none (hall 1 (by omega) (by omega)) (hall 2 (by omega) (by omega)) (hall 3 (by omega) (by omega)) (hall 4 (by omega) (by omega))
    subst hf
    refine walkG ?_
    refine ⟨by first | exact .inr rfl | exact .inl rfl, ?_⟩; rw [Tryz.results260]; simp only [resOk, resV, go_sem, Int.reduceBEq, Int.reduceLE, Int.reduceLT, Int.reduceNeg, Nat.reduceAdd, Nat.reduceEqDiff, Nat.reduceLT, Nat.reduceLeDiff, Nat.reduceMul, Nat.reduceSub, reduceCtorEq, ↓reduceIte]
    exact .c _
  have hn4 : n ≤ 4 ∧ n ≤ m.length := by
    simp at hc
    omega
  clear hc
  have hp0 := pv_at (l := m) (i := 0) (by omega)
  have hb0 : ((byteAt m 0).toNat : Int) = (bN m 0 : Int) := rfl
  have hbl := bN_lt m 0
  rw [hb0] at hp0
  refine walkGF (hp0) ?_
  refine VC.meet [(0, .c (.sl 1 (bytePV m))), (3, .c (.sl 1 (sizesL.map iPV))), (4, .c (.sl 1 (marksL.map iPV))), (5, .c (.v (.int .i64 (n : Int)))), (6, .c (.v (.int .i64 (cvS m n 0))))] [] 2000 ?_ ?_
  · have hwb : IntKind.i64.wrap (bN m 0 : Int) = (bN m 0 : Int) := wrap64_id (by omega) (by omega)
    by_cases hn : n = 1
    · subst hn
      have hcv : cvS m 1 0 = (bN m 0 : Int) := by simp [cvS]
      rw [hcv]
      refine walkBF (hwb) ?_
      refine .normal ?_
      simp only [hwb, Weak, eq_self, used_is, sc_any, sc_c, sc_pp, sc_ref, sc_row, sc_agg, sc_fn, ScL, some_imp, List.forall_mem_map, go_sem, Int.reduceBEq, Int.reduceLE, Int.reduceLT, Int.reduceNeg, Nat.reduceAdd, Nat.reduceEqDiff, Nat.reduceLT, Nat.reduceLeDiff, Nat.reduceMul, Nat.reduceSub, reduceCtorEq, ↓reduceIte]
    · obtain ⟨mk, sz, hmk, hsz, hcv, hb1, hb2⟩ : ∃ mk sz : Int, (marksL.map iPV)[n - 1]? = some (iPV mk) ∧ (sizesL.map iPV)[n - 1]? = some (iPV sz) ∧ cvS m n 0 = ((bN m 0 : Int) - mk) * sz ∧ (0 ≤ mk ∧ mk ≤ 1000) ∧ (-1000000000 ≤ ((bN m 0 : Int) - mk) * sz ∧ ((bN m 0 : Int) - mk) * sz ≤ 1000000000) := by
        rcases (by omega : n = 2 ∨ n = 3 ∨ n = 4) with rfl | rfl | rfl
        · exact ⟨192, 64, rfl, rfl, by simp [cvS], by omega, by omega⟩
        · exact ⟨224, 4096, rfl, rfl, by simp [cvS], by omega, by omega⟩
        · exact ⟨240, 262144, rfl, rfl, by simp [cvS], by omega, by omega⟩
      rw [hcv]
      have hw1 : IntKind.i64.wrap ((n : Int) - 1) = ((n - 1 : Nat) : Int) := by rw [wrap64_id (by omega) (by omega)]; omega
      have hw2 : IntKind.i64.wrap ((bN m 0 : Int) - mk) = (bN m 0 : Int) - mk := wrap64_id (by omega) (by omega)
      have hw3 : IntKind.i64.wrap (((bN m 0 : Int) - mk) * sz) = ((bN m 0 : Int) - mk) * sz := wrap64_id (by omega) (by omega)
      have hml : (marksL.map iPV).length = 4 := rfl
      have hsl : (sizesL.map iPV).length = 4 := rfl
      refine VC.cond (by rfl) (by trivial) (fun hc4 => ?_) (fun hc4 => ?_)
      rotate_left
      · exact absurd hc4 (by simp; omega)
      refine walkGF (And.intro hp0 (And.intro hw1 (And.intro hmk (And.intro hsz (And.intro @iPV_eq (And.intro hwb (And.intro hw2 (And.intro hw3 (And.intro hml hsl))))))))) ?_
      refine .normal ?_
      simp only [hw3, Weak, eq_self, used_is, sc_any, sc_c, sc_pp, sc_ref, sc_row, sc_agg, sc_fn, ScL, some_imp, List.forall_mem_map, go_sem, Int.reduceBEq, Int.reduceLE, Int.reduceLT, Int.reduceNeg, Nat.reduceAdd, Nat.reduceEqDiff, Nat.reduceLT, Nat.reduceLeDiff, Nat.reduceMul, Nat.reduceSub, reduceCtorEq, ↓reduceIte]
  refine walkG ?_
  refine VC.loop (ι := {i : Nat // 1 ≤ i ∧ i ≤ n}) (fun q => [(0, .c (.sl 1 (bytePV m))), (3, .c (.sl 1 (sizesL.map iPV))), (4, .c (.sl 1 (marksL.map iPV))), (5, .c (.v (.int .i64 (n : Int)))), (6, .c (.v (.int .i64 (cvS m n (q.1 - 1))))), (7, .c (.v (.int .i64 (q.1 : Int))))]) (fun _ => []) 4000 (fun q => n - q.1)
    ⟨1, Nat.le_refl _, hn1⟩ ?_ ?_
  · simp only [Weak, eq_self, used_is, sc_any, sc_c, sc_pp, sc_ref, sc_row, sc_agg, sc_fn, ScL, some_imp, List.forall_mem_map, go_sem, Int.reduceBEq, Int.reduceLE, Int.reduceLT, Int.reduceNeg, Nat.reduceAdd, Nat.reduceEqDiff, Nat.reduceLT, Nat.reduceLeDiff, Nat.reduceMul, Nat.reduceSub, reduceCtorEq, ↓reduceIte]
    try simp
  rintro ⟨i, hi1, hin⟩
  simp only []
  refine walkG ?_
  refine VC.cond (by rfl) (by trivial) (fun hc => ?_) (fun hc => ?_)
  · have hlt : i < n := by simp at hc; omega
    have hw : IntKind.i64.wrap ((i : Int) + 1) = (i : Int) + 1 := wrap64_id (by omega) (by omega)
    refine walkGF (hw) ?_
    refine VC.loop (ι := {q : Nat × Nat // i + 1 ≤ q.1 ∧ q.1 ≤ n ∧ q.2 = 64 ^ (q.1 - (i + 1))}) (fun q => [(0, .c (.sl 1 (bytePV m))), (3, .c (.sl 1 (sizesL.map iPV))), (4, .c (.sl 1 (marksL.map iPV))), (5, .c (.v (.int .i64 (n : Int)))), (6, .c (.v (.int .i64 (cvS m n (i - 1))))), (7, .c (.v (.int .i64 (i : Int)))), (8, .c (.v (.int .i64 (q.1.2 : Int)))), (9, .c (.v (.int .i64 (q.1.1 : Int))))]) (fun _ => []) 6000 (fun q => n - q.1.1)
      ⟨(i + 1, 1), Nat.le_refl _, hlt, by simp⟩ ?_ ?_
    · simp only [Weak, eq_self, used_is, sc_any, sc_c, sc_pp, sc_ref, sc_row, sc_agg, sc_fn, ScL, some_imp, List.forall_mem_map, go_sem, Int.reduceBEq, Int.reduceLE, Int.reduceLT, Int.reduceNeg, Nat.reduceAdd, Nat.reduceEqDiff, Nat.reduceLT, Nat.reduceLeDiff, Nat.reduceMul, Nat.reduceSub, reduceCtorEq, ↓reduceIte]
      try exact cI (by omega)
    rintro ⟨⟨k, p⟩, hk1, hk2, hp⟩
    simp only [] at hk1 hk2 hp ⊢
    have hpl : p ≤ 4096 := by
      rw [hp]
      calc 64 ^ (k - (i + 1)) ≤ 64 ^ 2 := Nat.pow_le_pow_right (by omega) (by omega)
        _ = 4096 := rfl
    refine walkG ?_
    refine VC.cond (by rfl) (by trivial) (fun hc2 => ?_) (fun hc2 => ?_)
    · have hlk : k < n := by simp at hc2; omega
      have hwk : IntKind.i64.wrap ((k : Int) + 1) = (k : Int) + 1 := wrap64_id (by omega) (by omega)
      have hwp : IntKind.i64.wrap ((p : Int) * 64) = (p : Int) * 64 := wrap64_id (by omega) (by omega)
      refine walkGF (And.intro hwk hwp) ?_
      refine .next ⟨(k + 1, p * 64), by simp only []; omega, by simp only []; omega, by simp only []; rw [hp, show k + 1 - (i + 1) = (k - (i + 1)) + 1 by omega, Nat.pow_succ]⟩ ?_ (by simp only []; omega)
      simp only [Weak, eq_self, used_is, sc_any, sc_c, sc_pp, sc_ref, sc_row, sc_agg, sc_fn, ScL, some_imp, List.forall_mem_map, go_sem, Int.reduceBEq, Int.reduceLE, Int.reduceLT, Int.reduceNeg, Nat.reduceAdd, Nat.reduceEqDiff, Nat.reduceLT, Nat.reduceLeDiff, Nat.reduceMul, Nat.reduceSub, reduceCtorEq, ↓reduceIte]
      exact ⟨cI (by omega), cI (by omega)⟩
    · have hke : k = n := by simp at hc2; omega
      subst hke
      have hpi := pv_at (l := m) (i := i) (by omega)
      have hbi : ((byteAt m i).toNat : Int) = (bN m i : Int) := rfl
      have hbil := bN_lt m i
      rw [hbi] at hpi
      have hwi : IntKind.i64.wrap (bN m i : Int) = (bN m i : Int) := wrap64_id (by omega) (by omega)
      have hw1 : IntKind.i64.wrap ((bN m i : Int) - 128) = (bN m i : Int) - 128 := wrap64_id (by omega) (by omega)
      have hcs : cvS m k i = cvS m k (i - 1) + ((bN m i : Int) - 128) * (p : Int) := by
        obtain ⟨j, rfl⟩ : ∃ j, i = j + 1 := ⟨i - 1, by omega⟩
        rw [cvS, hp, show j + 1 - 1 = j by omega, show k - 1 - (j + 1) = k - (j + 1 + 1) by omega]
      have hbd := cvS_le (l := m) hn1 (by omega) (i - 1) (by omega)
      have hbd2 := cvS_le (l := m) hn1 (by omega) i (by omega)
      rw [hcs] at hbd2
      have hw2 : IntKind.i64.wrap (((bN m i : Int) - 128) * (p : Int)) = ((bN m i : Int) - 128) * (p : Int) := wrap64_id (by omega) (by omega)
      have hw3 : IntKind.i64.wrap (cvS m k (i - 1) + ((bN m i : Int) - 128) * (p : Int)) = cvS m k (i - 1) + ((bN m i : Int) - 128) * (p : Int) := wrap64_id (by omega) (by omega)
      refine walkGF (And.intro hpi (And.intro hwi (And.intro hw1 (And.intro hw2 (And.intro hw3 hw))))) ?_
      refine .next ⟨i + 1, by omega, by omega⟩ ?_ (by simp only []; omega)
      simp only [hcs, Weak, eq_self, used_is, sc_any, sc_c, sc_pp, sc_ref, sc_row, sc_agg, sc_fn, ScL, some_imp, List.forall_mem_map, go_sem, Int.reduceBEq, Int.reduceLE, Int.reduceLT, Int.reduceNeg, Nat.reduceAdd, Nat.reduceEqDiff, Nat.reduceLT, Nat.reduceLeDiff, Nat.reduceMul, Nat.reduceSub, reduceCtorEq, ↓reduceIte]
      refine ⟨?_, cI (by omega)⟩
      rw [show i + 1 - 1 = i by omega, hcs]
  · have hie : i = n := by simp at hc; omega
    subst hie
    rw [cvS_end hn1 hn4.1]
    have hC := rchar_told (cvN m 0 i)
    by_cases hch : isChr (cvN m 0 i) = true
    rotate_left
    · have hch : isChr (cvN m 0 i) = false := by simpa using hch
      rw [hch] at hC
      have ht : wtest m 0 i = false := by rw [wtest, hch]; rfl
      have hw : IntKind.i64.wrap ((i : Int) + 1) = (i : Int) + 1 := wrap64_id (by omega) (by omega)
      refine walkG ?_
      refine walkC (hC) ?_
      refine walkBF (hw) ?_
      refine .next ⟨i + 1, by omega, by omega, notest hno ht⟩ ?_ (by simp only []; omega)
      simp only [Weak, eq_self, used_is, sc_any, sc_c, sc_pp, sc_ref, sc_row, sc_agg, sc_fn, ScL, some_imp, List.forall_mem_map, go_sem, Int.reduceBEq, Int.reduceLE, Int.reduceLT, Int.reduceNeg, Nat.reduceAdd, Nat.reduceEqDiff, Nat.reduceLT, Nat.reduceLeDiff, Nat.reduceMul, Nat.reduceSub, reduceCtorEq, ↓reduceIte]
      exact cI (by omega)
    · have hci := isChr_iff.1 hch
      rw [hch] at hC
      obtain ⟨c, hcc⟩ : ∃ c : Nat, cvN m 0 i = (c : Int) := ⟨(cvN m 0 i).toNat, by omega⟩
      have hw : IntKind.i64.wrap ((i : Int) + 1) = (i : Int) + 1 := wrap64_id (by omega) (by omega)
      have ht : wtest m 0 i = (((uenc c).length == i) && (uenc c).isPrefixOf m) := by rw [wtest, hch, hcc]; simp
      have hVn := fun h : wtest m 0 i = true => wtest_n (l := m) (p := 0) h
      rw [← hV, hcc] at hVn
      rw [hcc] at hC ⊢
      have hP := rput_told c (by omega)
      have hul := uenc_len c
      have hS := rstarts_told m (uenc c) hbig (by omega)
      have hpl : (bytePV (uenc c)).length = (uenc c).length := by simp [bytePV]
      obtain ⟨b, hb⟩ : ∃ b, b = (uenc c).isPrefixOf m := ⟨_, rfl⟩
      rw [← hb] at hS ht
      refine walkG ?_
      refine walkC (hC) ?_
      refine walkG ?_
      refine walkC (hP) ?_
      refine walkGF (hpl) ?_
      refine walkD (hP) ?_
      refine walkGF (hpl) ?_
      refine walkD (hS) ?_
      refine walkG ?_
      refine VC.cond (by rfl) (by trivial) (fun hc3 => ?_) (fun hc3 => ?_)
      · have ht1 : wtest m 0 i = true := by
          rw [ht]
          simp at hc3 ⊢
          exact ⟨by omega, hc3.2⟩
        obtain rfl : V = (c : Int) := hVn ht1
        refine walkG ?_
        refine ⟨by first | exact .inr rfl | exact .inl rfl, ?_⟩; rw [Tryz.results260]; simp only [resOk, resV, go_sem, Int.reduceBEq, Int.reduceLE, Int.reduceLT, Int.reduceNeg, Nat.reduceAdd, Nat.reduceEqDiff, Nat.reduceLT, Nat.reduceLeDiff, Nat.reduceMul, Nat.reduceSub, reduceCtorEq, ↓reduceIte]
        exact .c _
      · have ht1 : wtest m 0 i = false := by
          rw [ht]
          simp at hc3 ⊢
          intro h1
          exact hc3 (by omega)
        refine walkGF (hw) ?_
        refine .next ⟨i + 1, by omega, by omega, notest hno ht1⟩ ?_ (by simp only []; omega)
        simp only [Weak, eq_self, used_is, sc_any, sc_c, sc_pp, sc_ref, sc_row, sc_agg, sc_fn, ScL, some_imp, List.forall_mem_map, go_sem, Int.reduceBEq, Int.reduceLE, Int.reduceLT, Int.reduceNeg, Nat.reduceAdd, Nat.reduceEqDiff, Nat.reduceLT, Nat.reduceLeDiff, Nat.reduceMul, Nat.reduceSub, reduceCtorEq, ↓reduceIte]
        exact cI (by omega)
def begB (m : List UInt8) (j : Nat) : Bool := decide (0 ≤ wholeV (m ++ fillL j) 0) && decide (m.length < (uenc (wholeV (m ++ fillL j) 0).toNat).length)
set_option maxRecDepth 100000 in
set_option maxHeartbeats 3200000 in
theorem rbegun_told (m : List UInt8) (hbig : m.length ≤ 1000) : ∃ b, Told Tryz.prog 262 [.c (.sl 1 (bytePV m))] (.c (.v (.bool b))) := by
  have hlen : (bytePV m).length = m.length := by simp [bytePV]
  by_cases h0 : m.length = 0
  · refine ⟨true, ?_⟩
    have e0 : ((m.length : Int) == 0) = true := by rw [h0]; rfl
    refine VC.told ent_262 Tryz.func262 rfl Tryz.ntmps262 (by simp) (by first | rfl | simp [AV.pureB, AV.pureL, pureL_c, pures]) (by first | rfl | simp [AV.pureB, AV.pureL, pureL_c, pures]) fun hb => ?_
    clear hb
    refine walkBF (And.intro hlen e0) ?_
    refine ⟨by first | exact .inr rfl | exact .inl rfl, ?_⟩; rw [Tryz.results262]; simp only [resOk, resV, go_sem, Int.reduceBEq, Int.reduceLE, Int.reduceLT, Int.reduceNeg, Nat.reduceAdd, Nat.reduceEqDiff, Nat.reduceLT, Nat.reduceLeDiff, Nat.reduceMul, Nat.reduceSub, reduceCtorEq, ↓reduceIte]
    exact .c _
  have e0 : ((m.length : Int) == 0) = false := beq_eq_false_iff_ne.2 (by omega)
  obtain ⟨V, hV⟩ : ∃ V, V = (List.range 6).any (begB m) := ⟨_, rfl⟩
  refine ⟨V, ?_⟩
  refine VC.told ent_262 Tryz.func262 rfl Tryz.ntmps262 (by simp) (by first | rfl | simp [AV.pureB, AV.pureL, pureL_c, pures]) (by first | rfl | simp [AV.pureB, AV.pureL, pureL_c, pures]) fun hb => ?_
  clear hb
  refine walkBF (And.intro hlen e0) ?_
  refine VC.frz [32] [(0, .c (.sl 1 (bytePV m))), (3, .row 80 6), (4, .c (.v (.int .i64 0)))] [(40, ⟨true, 5, 1, [[.c (.v (.int .u8 191))], [.c (.v (.int .u8 191))], [.c (.v (.int .u8 191))]]⟩), (48, ⟨true, 5, 1, [[.c (.v (.int .u8 160))], [.c (.v (.int .u8 128))], [.c (.v (.int .u8 128))]]⟩), (56, ⟨true, 5, 1, [[.c (.v (.int .u8 144))], [.c (.v (.int .u8 128))], [.c (.v (.int .u8 128))]]⟩), (64, ⟨true, 5, 1, [[.c (.v (.int .u8 143))], [.c (.v (.int .u8 191))], [.c (.v (.int .u8 191))]]⟩), (72, ⟨true, 5, 1, [[.c (.v (.int .u8 159))], [.c (.v (.int .u8 191))], [.c (.v (.int .u8 191))]]⟩), (80, ⟨true, 40, 1, [[.c (.sl 1 (bytePV (fillL 0)))], [.row 40 3], [.row 48 3], [.row 56 3], [.row 64 3], [.row 72 3]]⟩)] 400 ?_ ?_
  · simp only [WeakF, used_is, sc_any, sc_c, sc_pp, sc_ref, sc_row, sc_agg, sc_fn, ScL, some_imp, List.forall_mem_map, go_sem, Int.reduceBEq, Int.reduceLE, Int.reduceLT, Int.reduceNeg, Nat.reduceAdd, Nat.reduceEqDiff, Nat.reduceLT, Nat.reduceLeDiff, Nat.reduceMul, Nat.reduceSub, reduceCtorEq, ↓reduceIte]
    exact ⟨⟨.same _, .same _, .same _⟩, .same _, .same _, .same _, .same _, .same _, .set (i := 0) (e' := [.c (.sl 1 (bytePV (fillL 0)))]) rfl (.cons (.row (B := ⟨true, 5, 1, [[.c (.v (.int .u8 128))], [.c (.v (.int .u8 128))], [.c (.v (.int .u8 128))]]⟩) (es := bytePV (fillL 0)) (by simp) rfl rfl rfl rfl) .nil) (by simp [AV.cellish])⟩
  refine VC.frz [40] [(0, .c (.sl 1 (bytePV m))), (3, .row 80 6), (4, .c (.v (.int .i64 0)))] [(48, ⟨true, 5, 1, [[.c (.v (.int .u8 160))], [.c (.v (.int .u8 128))], [.c (.v (.int .u8 128))]]⟩), (56, ⟨true, 5, 1, [[.c (.v (.int .u8 144))], [.c (.v (.int .u8 128))], [.c (.v (.int .u8 128))]]⟩), (64, ⟨true, 5, 1, [[.c (.v (.int .u8 143))], [.c (.v (.int .u8 191))], [.c (.v (.int .u8 191))]]⟩), (72, ⟨true, 5, 1, [[.c (.v (.int .u8 159))], [.c (.v (.int .u8 191))], [.c (.v (.int .u8 191))]]⟩), (80, ⟨true, 40, 1, [[.c (.sl 1 (bytePV (fillL 0)))], [.c (.sl 1 (bytePV (fillL 1)))], [.row 48 3], [.row 56 3], [.row 64 3], [.row 72 3]]⟩)] 400 ?_ ?_
  · simp only [WeakF, used_is, sc_any, sc_c, sc_pp, sc_ref, sc_row, sc_agg, sc_fn, ScL, some_imp, List.forall_mem_map, go_sem, Int.reduceBEq, Int.reduceLE, Int.reduceLT, Int.reduceNeg, Nat.reduceAdd, Nat.reduceEqDiff, Nat.reduceLT, Nat.reduceLeDiff, Nat.reduceMul, Nat.reduceSub, reduceCtorEq, ↓reduceIte]
    exact ⟨⟨.same _, .same _, .same _⟩, .same _, .same _, .same _, .same _, .set (i := 1) (e' := [.c (.sl 1 (bytePV (fillL 1)))]) rfl (.cons (.row (B := ⟨true, 5, 1, [[.c (.v (.int .u8 191))], [.c (.v (.int .u8 191))], [.c (.v (.int .u8 191))]]⟩) (es := bytePV (fillL 1)) (by simp) rfl rfl rfl rfl) .nil) (by simp [AV.cellish])⟩
  refine VC.frz [48] [(0, .c (.sl 1 (bytePV m))), (3, .row 80 6), (4, .c (.v (.int .i64 0)))] [(56, ⟨true, 5, 1, [[.c (.v (.int .u8 144))], [.c (.v (.int .u8 128))], [.c (.v (.int .u8 128))]]⟩), (64, ⟨true, 5, 1, [[.c (.v (.int .u8 143))], [.c (.v (.int .u8 191))], [.c (.v (.int .u8 191))]]⟩), (72, ⟨true, 5, 1, [[.c (.v (.int .u8 159))], [.c (.v (.int .u8 191))], [.c (.v (.int .u8 191))]]⟩), (80, ⟨true, 40, 1, [[.c (.sl 1 (bytePV (fillL 0)))], [.c (.sl 1 (bytePV (fillL 1)))], [.c (.sl 1 (bytePV (fillL 2)))], [.row 56 3], [.row 64 3], [.row 72 3]]⟩)] 400 ?_ ?_
  · simp only [WeakF, used_is, sc_any, sc_c, sc_pp, sc_ref, sc_row, sc_agg, sc_fn, ScL, some_imp, List.forall_mem_map, go_sem, Int.reduceBEq, Int.reduceLE, Int.reduceLT, Int.reduceNeg, Nat.reduceAdd, Nat.reduceEqDiff, Nat.reduceLT, Nat.reduceLeDiff, Nat.reduceMul, Nat.reduceSub, reduceCtorEq, ↓reduceIte]
    exact ⟨⟨.same _, .same _, .same _⟩, .same _, .same _, .same _, .set (i := 2) (e' := [.c (.sl 1 (bytePV (fillL 2)))]) rfl (.cons (.row (B := ⟨true, 5, 1, [[.c (.v (.int .u8 160))], [.c (.v (.int .u8 128))], [.c (.v (.int .u8 128))]]⟩) (es := bytePV (fillL 2)) (by simp) rfl rfl rfl rfl) .nil) (by simp [AV.cellish])⟩
  refine VC.frz [56] [(0, .c (.sl 1 (bytePV m))), (3, .row 80 6), (4, .c (.v (.int .i64 0)))] [(64, ⟨true, 5, 1, [[.c (.v (.int .u8 143))], [.c (.v (.int .u8 191))], [.c (.v (.int .u8 191))]]⟩), (72, ⟨true, 5, 1, [[.c (.v (.int .u8 159))], [.c (.v (.int .u8 191))], [.c (.v (.int .u8 191))]]⟩), (80, ⟨true, 40, 1, [[.c (.sl 1 (bytePV (fillL 0)))], [.c (.sl 1 (bytePV (fillL 1)))], [.c (.sl 1 (bytePV (fillL 2)))], [.c (.sl 1 (bytePV (fillL 3)))], [.row 64 3], [.row 72 3]]⟩)] 400 ?_ ?_
  · simp only [WeakF, used_is, sc_any, sc_c, sc_pp, sc_ref, sc_row, sc_agg, sc_fn, ScL, some_imp, List.forall_mem_map, go_sem, Int.reduceBEq, Int.reduceLE, Int.reduceLT, Int.reduceNeg, Nat.reduceAdd, Nat.reduceEqDiff, Nat.reduceLT, Nat.reduceLeDiff, Nat.reduceMul, Nat.reduceSub, reduceCtorEq, ↓reduceIte]
    exact ⟨⟨.same _, .same _, .same _⟩, .same _, .same _, .set (i := 3) (e' := [.c (.sl 1 (bytePV (fillL 3)))]) rfl (.cons (.row (B := ⟨true, 5, 1, [[.c (.v (.int .u8 144))], [.c (.v (.int .u8 128))], [.c (.v (.int .u8 128))]]⟩) (es := bytePV (fillL 3)) (by simp) rfl rfl rfl rfl) .nil) (by simp [AV.cellish])⟩
  refine VC.frz [64] [(0, .c (.sl 1 (bytePV m))), (3, .row 80 6), (4, .c (.v (.int .i64 0)))] [(72, ⟨true, 5, 1, [[.c (.v (.int .u8 159))], [.c (.v (.int .u8 191))], [.c (.v (.int .u8 191))]]⟩), (80, ⟨true, 40, 1, [[.c (.sl 1 (bytePV (fillL 0)))], [.c (.sl 1 (bytePV (fillL 1)))], [.c (.sl 1 (bytePV (fillL 2)))], [.c (.sl 1 (bytePV (fillL 3)))], [.c (.sl 1 (bytePV (fillL 4)))], [.row 72 3]]⟩)] 400 ?_ ?_
  · simp only [WeakF, used_is, sc_any, sc_c, sc_pp, sc_ref, sc_row, sc_agg, sc_fn, ScL, some_imp, List.forall_mem_map, go_sem, Int.reduceBEq, Int.reduceLE, Int.reduceLT, Int.reduceNeg, Nat.reduceAdd, Nat.reduceEqDiff, Nat.reduceLT, Nat.reduceLeDiff, Nat.reduceMul, Nat.reduceSub, reduceCtorEq, ↓reduceIte]
    exact ⟨⟨.same _, .same _, .same _⟩, .same _, .set (i := 4) (e' := [.c (.sl 1 (bytePV (fillL 4)))]) rfl (.cons (.row (B := ⟨true, 5, 1, [[.c (.v (.int .u8 143))], [.c (.v (.int .u8 191))], [.c (.v (.int .u8 191))]]⟩) (es := bytePV (fillL 4)) (by simp) rfl rfl rfl rfl) .nil) (by simp [AV.cellish])⟩
  refine VC.frz [72] [(0, .c (.sl 1 (bytePV m))), (3, .row 80 6), (4, .c (.v (.int .i64 0)))] [(80, ⟨true, 40, 1, [[.c (.sl 1 (bytePV (fillL 0)))], [.c (.sl 1 (bytePV (fillL 1)))], [.c (.sl 1 (bytePV (fillL 2)))], [.c (.sl 1 (bytePV (fillL 3)))], [.c (.sl 1 (bytePV (fillL 4)))], [.c (.sl 1 (bytePV (fillL 5)))]]⟩)] 400 ?_ ?_
  · simp only [WeakF, used_is, sc_any, sc_c, sc_pp, sc_ref, sc_row, sc_agg, sc_fn, ScL, some_imp, List.forall_mem_map, go_sem, Int.reduceBEq, Int.reduceLE, Int.reduceLT, Int.reduceNeg, Nat.reduceAdd, Nat.reduceEqDiff, Nat.reduceLT, Nat.reduceLeDiff, Nat.reduceMul, Nat.reduceSub, reduceCtorEq, ↓reduceIte]
    exact ⟨⟨.same _, .same _, .same _⟩, .set (i := 5) (e' := [.c (.sl 1 (bytePV (fillL 5)))]) rfl (.cons (.row (B := ⟨true, 5, 1, [[.c (.v (.int .u8 159))], [.c (.v (.int .u8 191))], [.c (.v (.int .u8 191))]]⟩) (es := bytePV (fillL 5)) (by simp) rfl rfl rfl rfl) .nil) (by simp [AV.cellish])⟩
  refine VC.frz [80] [(0, .c (.sl 1 (bytePV m))), (3, .c (.sl 1 ((List.range 6).map fun j => [PV.sl 1 (bytePV (fillL j))]))), (4, .c (.v (.int .i64 0)))] [] 400 ?_ ?_
  · simp only [WeakF, used_is, sc_any, sc_c, sc_pp, sc_ref, sc_row, sc_agg, sc_fn, ScL, some_imp, List.forall_mem_map, go_sem, Int.reduceBEq, Int.reduceLE, Int.reduceLT, Int.reduceNeg, Nat.reduceAdd, Nat.reduceEqDiff, Nat.reduceLT, Nat.reduceLeDiff, Nat.reduceMul, Nat.reduceSub, reduceCtorEq, ↓reduceIte]
    exact ⟨.same _, .row (B := ⟨true, 40, 1, [[.c (.sl 1 (bytePV (fillL 0)))], [.c (.sl 1 (bytePV (fillL 1)))], [.c (.sl 1 (bytePV (fillL 2)))], [.c (.sl 1 (bytePV (fillL 3)))], [.c (.sl 1 (bytePV (fillL 4)))], [.c (.sl 1 (bytePV (fillL 5)))]]⟩) (es := (List.range 6).map fun j => [PV.sl 1 (bytePV (fillL j))]) (by simp) rfl rfl rfl rfl, .same _⟩
  have hFx : ∀ i, i < 6 → ((List.range 6).map fun j => [PV.sl 1 (bytePV (fillL j))])[i]? = some [PV.sl 1 (bytePV (fillL i))] := fun i hlt => by rw [List.getElem?_map, List.getElem?_range hlt]; rfl
  have hrl : ((List.range 6).map fun j => [PV.sl 1 (bytePV (fillL j))]).length = 6 := rfl
  generalize ((List.range 6).map fun j => [PV.sl 1 (bytePV (fillL j))]) = F at hFx hrl ⊢
  refine VC.loop (ι := {i : Nat // i ≤ 6 ∧ ∀ j, j < i → begB m j = false}) (fun q => [(0, .c (.sl 1 (bytePV m))), (3, .c (.sl 1 F)), (4, .c (.v (.int .i64 (q.1 : Int))))]) (fun _ => []) 800 (fun q => 6 - q.1)
    ⟨0, by omega, fun j h => by omega⟩ ?_ ?_
  · simp only [Weak, eq_self, used_is, sc_any, sc_c, sc_pp, sc_ref, sc_row, sc_agg, sc_fn, ScL, some_imp, List.forall_mem_map, go_sem, Int.reduceBEq, Int.reduceLE, Int.reduceLT, Int.reduceNeg, Nat.reduceAdd, Nat.reduceEqDiff, Nat.reduceLT, Nat.reduceLeDiff, Nat.reduceMul, Nat.reduceSub, reduceCtorEq, ↓reduceIte]
  rintro ⟨i, hi, hno⟩
  simp only []
  refine walkGF (hrl) ?_
  refine VC.cond (by rfl) (by trivial) (fun hc => ?_) (fun hc => ?_)
  · have hlt : i < 6 := by simp at hc; omega
    have hw : IntKind.i64.wrap ((i : Int) + 1) = (i : Int) + 1 := wrap64_id (by omega) (by omega)
    have hx : F[i]? = some [PV.sl 1 (bytePV (fillL i))] := hFx i hlt
    have hfl : (bytePV (fillL i)).length = 3 := by simp [bytePV, fillL_len]
    have hW := rwhole_told (m ++ fillL i) (by simp [fillL_len]; omega)
    have hB : begB m i = (decide (0 ≤ wholeV (m ++ fillL i) 0) && decide (m.length < (uenc (wholeV (m ++ fillL i) 0).toNat).length)) := rfl
    have hch := fun h : 0 ≤ wholeV (m ++ fillL i) 0 => isChr_iff.1 (wholeV_len h).2.1
    obtain ⟨z, hz⟩ : ∃ z, z = wholeV (m ++ fillL i) 0 := ⟨_, rfl⟩
    rw [← hz] at hW hB hch
    (repeat (first | refine pass ?_ | refine VC.region (by rfl) (by rfl) ?_ | (refine AO.step fun K hK => ?_; simp only [hrl, hx, hfl, hlen, List.length_map, List.length_append, go_sem, Int.reduceBEq, Int.reduceLE, Int.reduceLT, Int.reduceNeg, Nat.reduceAdd, Nat.reduceEqDiff, Nat.reduceLT, Nat.reduceLeDiff, Nat.reduceMul, Nat.reduceSub, reduceCtorEq, ↓reduceIte]; (first | refine gsel_skip ?_ | refine gsel_go ?_ | skip); (first | refine hK _ _ _ ?_ | refine ⟨by first | omega | exact ⟨_, rfl, rfl⟩ | exact fun _ => ⟨_, rfl, rfl⟩ | (intro h; simp only [hrl, hx, hfl, hlen, List.length_map, List.length_append, h, true_and]; omega) | (clear hK; intro h; simp_all <;> omega), hK _ _ _ ?_⟩); clear hK K) | refine VC.draw mixP (by rfl) (by rfl) ?_ | refine ⟨okd_of (by kernel_rfl), ?_⟩ | refine BQ.other (by decide) ?_ | refine VC.seq ?_ | refine AO.nil ?_ | refine VC.block ?_))
    (refine AO.step fun K hK => ?_; simp only [go_sem, Int.reduceBEq, Int.reduceLE, Int.reduceLT, Int.reduceNeg, Nat.reduceAdd, Nat.reduceEqDiff, Nat.reduceLT, Nat.reduceLeDiff, Nat.reduceMul, Nat.reduceSub, reduceCtorEq, ↓reduceIte]; (first | refine gsel_go ?_ | skip))
    refine .inr (.inl ⟨.c (.v (.int .i64 z)), [.c (.sl 1 (bytePV (m ++ fillL i)))], [832], ⟨by simp [AV.pureL, AV.pureB], rfl, fun k x z h5 h6 => ?_, rfl, hW⟩, hK _ _ _ ?_⟩)
    · match k with
      | 0 =>
        obtain rfl := Option.some.inj h5
        obtain rfl := Option.some.inj h6
        exact View.row (B := ⟨true, 5, 1, (bytePV m).map (fun e => e.map AV.c) ++ (bytePV (fillL i)).map fun e => e.map AV.c⟩) (es := bytePV (m ++ fillL i)) rfl rfl (by simp [Blkd.len, bytePV, fillL_len]) (by simp [bytePV])
      | k + 1 => simp at h5
    clear hK K
    by_cases hz0 : 0 ≤ z
    · obtain ⟨c, rfl⟩ : ∃ c : Nat, z = (c : Int) := ⟨z.toNat, by omega⟩
      have hP := rput_told c (by have := hch hz0; omega)
      have e1 : decide ((c : Int) ≥ 0) = true := by simp
      have hul : (bytePV (uenc c)).length = (uenc c).length := by simp [bytePV]
      rw [Int.toNat_natCast] at hB
      refine walkGF (e1) ?_
      refine walkC (hP) ?_
      refine walkGF (And.intro hul hlen) ?_
      refine VC.cond (by rfl) (by trivial) (fun hc2 => ?_) (fun hc2 => ?_)
      · have hf : V = true := by
          have : begB m i = true := by rw [hB]; simp at hc2 ⊢; omega
          rw [hV, List.any_eq_true]
          exact ⟨i, List.mem_range.2 hlt, this⟩
        subst hf
        refine walkG ?_
        refine ⟨by first | exact .inr rfl | exact .inl rfl, ?_⟩; rw [Tryz.results262]; simp only [resOk, resV, go_sem, Int.reduceBEq, Int.reduceLE, Int.reduceLT, Int.reduceNeg, Nat.reduceAdd, Nat.reduceEqDiff, Nat.reduceLT, Nat.reduceLeDiff, Nat.reduceMul, Nat.reduceSub, reduceCtorEq, ↓reduceIte]
        exact .c _
      · have : begB m i = false := by rw [hB]; simp at hc2 ⊢; omega
        refine walkGF (hw) ?_
        refine .next ⟨i + 1, by omega, fun j hj => ?_⟩ ?_ (by simp only []; omega)
        · by_cases hji : j < i
          · exact hno j hji
          · obtain rfl : j = i := by omega
            exact this
        simp only [Weak, eq_self, used_is, sc_any, sc_c, sc_pp, sc_ref, sc_row, sc_agg, sc_fn, ScL, some_imp, List.forall_mem_map, go_sem, Int.reduceBEq, Int.reduceLE, Int.reduceLT, Int.reduceNeg, Nat.reduceAdd, Nat.reduceEqDiff, Nat.reduceLT, Nat.reduceLeDiff, Nat.reduceMul, Nat.reduceSub, reduceCtorEq, ↓reduceIte]
        exact cI (by omega)
    · have e1 : decide (z ≥ 0) = false := by simp; omega
      have : begB m i = false := by rw [hB]; simp; omega
      refine walkBF (And.intro e1 hw) ?_
      refine .next ⟨i + 1, by omega, fun j hj => ?_⟩ ?_ (by simp only []; omega)
      · by_cases hji : j < i
        · exact hno j hji
        · obtain rfl : j = i := by omega
          exact this
      simp only [Weak, eq_self, used_is, sc_any, sc_c, sc_pp, sc_ref, sc_row, sc_agg, sc_fn, ScL, some_imp, List.forall_mem_map, go_sem, Int.reduceBEq, Int.reduceLE, Int.reduceLT, Int.reduceNeg, Nat.reduceAdd, Nat.reduceEqDiff, Nat.reduceLT, Nat.reduceLeDiff, Nat.reduceMul, Nat.reduceSub, reduceCtorEq, ↓reduceIte]
      exact cI (by omega)
  · have hf : V = false := by
      rw [hV, List.any_eq_false]
      intro j hj
      have := List.mem_range.1 hj
      rw [hno j (by simp at hc; omega)]
      simp
    subst hf
    refine walkG ?_
    refine ⟨by first | exact .inr rfl | exact .inl rfl, ?_⟩; rw [Tryz.results262]; simp only [resOk, resV, go_sem, Int.reduceBEq, Int.reduceLE, Int.reduceLT, Int.reduceNeg, Nat.reduceAdd, Nat.reduceEqDiff, Nat.reduceLT, Nat.reduceLeDiff, Nat.reduceMul, Nat.reduceSub, reduceCtorEq, ↓reduceIte]
    exact .c _
set_option maxRecDepth 100000 in
set_option maxHeartbeats 1600000 in
theorem rtake3_told (l : List UInt8) (p : Nat) (hp : p ≤ l.length) (hbig : l.length ≤ 1000000) : ∃ v nx e : Int, Told Tryz.prog 216 [.c (.sl 1 (bytePV l)), .c (.v (.int .i64 (p : Int)))] (.tup [.c (.v (.int .i64 v)), .c (.v (.int .i64 nx)), .c (.v (.int .i64 e))]) ∧
    (uerr l p = 0 → e = 0 ∧ nx = (p : Int) + (ulen l p : Int)) ∧ (uerr l p ≠ 0 → e ≠ 0) := by
  have hlen : (bytePV l).length = l.length := by simp [bytePV]
  have hdr : ((bytePV l).take l.length).drop p = bytePV (l.drop p) := by rw [← hlen, List.take_length]; simp [bytePV, List.map_drop]
  have hW := rwhole_told (l.drop p) (by simp; omega)
  rw [wholeV_drop] at hW
  have e1 : decide ((p : Int) < 0) = false := by simp
  have e2 : decide ((p : Int) > (l.length : Int)) = false := by simp; omega
  obtain ⟨z, hz⟩ : ∃ z, z = wholeV l p := ⟨_, rfl⟩
  rw [← hz] at hW
  have hdl : (bytePV (l.drop p)).length = l.length - p := by simp [bytePV]
  by_cases hz0 : 0 ≤ z
  · obtain ⟨u1, u2, u3⟩ := wholeV_len (l := l) (p := p) (by omega)
    have hci := isChr_iff.1 u2
    obtain ⟨c, rfl⟩ : ∃ c : Nat, z = (c : Int) := ⟨z.toNat, by omega⟩
    rw [← hz] at u2 u3 hci
    rw [Int.toNat_natCast] at u3
    have hP := rput_told c (by omega)
    have e3 : decide ((c : Int) ≥ 0) = true := by simp
    have hul : (bytePV (uenc c)).length = (uenc c).length := by simp [bytePV]
    have hlb := uenc_len c
    have hw : IntKind.i64.wrap ((p : Int) + ((uenc c).length : Int)) = (p : Int) + ((uenc c).length : Int) := wrap64_id (by omega) (by omega)
    refine ⟨(c : Int), (p : Int) + ((uenc c).length : Int), 0, ?_, fun _ => ⟨rfl, by rw [u3]⟩, fun h => absurd u1 h⟩
    refine VC.told ent_216 Tryz.func216 rfl Tryz.ntmps216 (by simp) (by first | rfl | simp [AV.pureB, AV.pureL, pureL_c, pures]) (by first | rfl | simp [AV.pureB, AV.pureL, pureL_c, pures]) fun hb => ?_
    clear hb
    refine walkBF (And.intro hlen (And.intro e1 (And.intro e2 hdr))) ?_
    refine walkC (hW) ?_
    refine walkBF (e3) ?_
    refine walkC (hP) ?_
    refine walkGF (And.intro hul hw) ?_
    refine ⟨by first | exact .inr rfl | exact .inl rfl, ?_⟩; rw [Tryz.results216]; simp only [resOk, resV, go_sem, Int.reduceBEq, Int.reduceLE, Int.reduceLT, Int.reduceNeg, Nat.reduceAdd, Nat.reduceEqDiff, Nat.reduceLT, Nat.reduceLeDiff, Nat.reduceMul, Nat.reduceSub, reduceCtorEq, ↓reduceIte]
    exact ⟨.c _, .c _, .c _⟩
  · have hu : uerr l p ≠ 0 := by
      intro h
      have hf := uerr_form h
      have := wtest_n (form_test hf)
      have h2 := (isChr_iff (c := cvN l p (ulen l p))).1 (by
        have ht := form_test hf
        unfold wtest at ht
        simp only [Bool.and_eq_true] at ht
        exact ht.1)
      omega
    have e3 : decide (z ≥ 0) = false := by simp; omega
    have hws : IntKind.i64.wrap ((l.length : Int) - (p : Int)) = (l.length : Int) - (p : Int) := wrap64_id (by omega) (by omega)
    by_cases h4 : l.length - p < 4
    · have e4 : decide ((l.length : Int) - (p : Int) < 4) = true := by simp; omega
      obtain ⟨b, hB⟩ := rbegun_told (l.drop p) (by simp; omega)
      cases b with
      | true =>
        refine ⟨0, (p : Int), 10, ?_, fun h => absurd h hu, fun _ => by decide⟩
        refine VC.told ent_216 Tryz.func216 rfl Tryz.ntmps216 (by simp) (by first | rfl | simp [AV.pureB, AV.pureL, pureL_c, pures]) (by first | rfl | simp [AV.pureB, AV.pureL, pureL_c, pures]) fun hb => ?_
        clear hb
        refine walkBF (And.intro hlen (And.intro e1 (And.intro e2 hdr))) ?_
        refine walkC (hW) ?_
        refine walkBF (And.intro e3 (And.intro hws (And.intro e4 (And.intro hlen hdr)))) ?_
        refine walkC (hB) ?_
        refine walkB ?_
        refine ⟨by first | exact .inr rfl | exact .inl rfl, ?_⟩; rw [Tryz.results216]; simp only [resOk, resV, go_sem, Int.reduceBEq, Int.reduceLE, Int.reduceLT, Int.reduceNeg, Nat.reduceAdd, Nat.reduceEqDiff, Nat.reduceLT, Nat.reduceLeDiff, Nat.reduceMul, Nat.reduceSub, reduceCtorEq, ↓reduceIte]
        exact ⟨.c _, .c _, .c _⟩
      | false =>
        refine ⟨0, (p : Int), 11, ?_, fun h => absurd h hu, fun _ => by decide⟩
        refine VC.told ent_216 Tryz.func216 rfl Tryz.ntmps216 (by simp) (by first | rfl | simp [AV.pureB, AV.pureL, pureL_c, pures]) (by first | rfl | simp [AV.pureB, AV.pureL, pureL_c, pures]) fun hb => ?_
        clear hb
        refine walkBF (And.intro hlen (And.intro e1 (And.intro e2 hdr))) ?_
        refine walkC (hW) ?_
        refine walkBF (And.intro e3 (And.intro hws (And.intro e4 (And.intro hlen hdr)))) ?_
        refine walkC (hB) ?_
        refine walkB ?_
        refine ⟨by first | exact .inr rfl | exact .inl rfl, ?_⟩; rw [Tryz.results216]; simp only [resOk, resV, go_sem, Int.reduceBEq, Int.reduceLE, Int.reduceLT, Int.reduceNeg, Nat.reduceAdd, Nat.reduceEqDiff, Nat.reduceLT, Nat.reduceLeDiff, Nat.reduceMul, Nat.reduceSub, reduceCtorEq, ↓reduceIte]
        exact ⟨.c _, .c _, .c _⟩
    · have e4 : decide ((l.length : Int) - (p : Int) < 4) = false := by simp; omega
      refine ⟨0, (p : Int), 11, ?_, fun h => absurd h hu, fun _ => by decide⟩
      refine VC.told ent_216 Tryz.func216 rfl Tryz.ntmps216 (by simp) (by first | rfl | simp [AV.pureB, AV.pureL, pureL_c, pures]) (by first | rfl | simp [AV.pureB, AV.pureL, pureL_c, pures]) fun hb => ?_
      clear hb
      refine walkBF (And.intro hlen (And.intro e1 (And.intro e2 hdr))) ?_
      refine walkC (hW) ?_
      refine walkBF (And.intro e3 (And.intro hws (And.intro e4 hlen))) ?_
      refine ⟨by first | exact .inr rfl | exact .inl rfl, ?_⟩; rw [Tryz.results216]; simp only [resOk, resV, go_sem, Int.reduceBEq, Int.reduceLE, Int.reduceLT, Int.reduceNeg, Nat.reduceAdd, Nat.reduceEqDiff, Nat.reduceLT, Nat.reduceLeDiff, Nat.reduceMul, Nat.reduceSub, reduceCtorEq, ↓reduceIte]
      exact ⟨.c _, .c _, .c _⟩
set_option maxRecDepth 100000 in
set_option maxHeartbeats 1600000 in
theorem rcount3_told (l : List UInt8) (hbig : l.length ≤ 1000000) : ∃ z : Int, Told Tryz.prog 259 [.c (.sl 1 (bytePV l))] (.c (.v (.int .i64 z))) ∧ (decide (z ≥ 0) = isRight l) := by
  have hlen : (bytePV l).length = l.length := by simp [bytePV]
  refine ⟨if (uCnt l 0 0).2 = 0 then ((uCnt l 0 0).1 : Int) else -1, ?_, ?_⟩
  rotate_left
  · unfold isRight
    split
    · simp_all
    · simp_all
  obtain ⟨V, hV⟩ : ∃ V, V = uCnt l 0 0 := ⟨_, rfl⟩
  rw [← hV]
  refine VC.told ent_259 Tryz.func259 rfl Tryz.ntmps259 (by simp) (by first | rfl | simp [AV.pureB, AV.pureL, pureL_c, pures]) (by first | rfl | simp [AV.pureB, AV.pureL, pureL_c, pures]) fun hb => ?_
  clear hb
  refine walkG ?_
  refine VC.loop (ι := {q : Nat × Nat // q.1 ≤ l.length ∧ q.2 ≤ q.1 ∧ uCnt l q.1 q.2 = V}) (fun q => [(0, .c (.sl 1 (bytePV l))), (3, .c (.v (.int .i64 (q.1.2 : Int)))), (4, .c (.v (.int .i64 (q.1.1 : Int))))]) (fun _ => []) 800 (fun q => l.length - q.1.1)
    ⟨(0, 0), Nat.zero_le _, Nat.le_refl _, hV.symm⟩ ?_ ?_
  · simp only [Weak, eq_self, used_is, sc_any, sc_c, sc_pp, sc_ref, sc_row, sc_agg, sc_fn, ScL, some_imp, List.forall_mem_map, go_sem, Int.reduceBEq, Int.reduceLE, Int.reduceLT, Int.reduceNeg, Nat.reduceAdd, Nat.reduceEqDiff, Nat.reduceLT, Nat.reduceLeDiff, Nat.reduceMul, Nat.reduceSub, reduceCtorEq, ↓reduceIte]
  rintro ⟨⟨p, k⟩, hp, hk, hu⟩
  simp only [] at hp hk hu ⊢
  refine walkGF (hlen) ?_
  refine VC.cond (by rfl) (by trivial) (fun hc => ?_) (fun hc => ?_)
  · have hlt : p < l.length := by simp at hc; omega
    obtain ⟨v, nx, e, hT, h1, h2⟩ := rtake3_told l p hp hbig
    by_cases he : uerr l p = 0
    · obtain ⟨rfl, rfl⟩ := h1 he
      have hub := ulen_bound he
      have hw : IntKind.i64.wrap ((k : Int) + 1) = (k : Int) + 1 := wrap64_id (by omega) (by omega)
      rw [uCnt_next hlt he] at hu
      refine walkG ?_
      refine walkC (hT) ?_
      refine walkBF (hw) ?_
      refine .next ⟨(p + ulen l p, k + 1), hub.2, by simp only []; omega, hu⟩ ?_ (by simp only []; omega)
      simp only [Weak, eq_self, used_is, sc_any, sc_c, sc_pp, sc_ref, sc_row, sc_agg, sc_fn, ScL, some_imp, List.forall_mem_map, go_sem, Int.reduceBEq, Int.reduceLE, Int.reduceLT, Int.reduceNeg, Nat.reduceAdd, Nat.reduceEqDiff, Nat.reduceLT, Nat.reduceLeDiff, Nat.reduceMul, Nat.reduceSub, reduceCtorEq, ↓reduceIte]
      exact ⟨cI (by omega), cI (by omega)⟩
    · have hne := h2 he
      rw [uCnt_bad hlt he] at hu
      subst hu
      have e5 : (e != 0) = true := by simpa using hne
      refine walkG ?_
      refine walkC (hT) ?_
      refine walkBF (e5) ?_
      refine ⟨by first | exact .inr rfl | exact .inl rfl, ?_⟩; rw [Tryz.results259]; simp only [resOk, resV, go_sem, Int.reduceBEq, Int.reduceLE, Int.reduceLT, Int.reduceNeg, Nat.reduceAdd, Nat.reduceEqDiff, Nat.reduceLT, Nat.reduceLeDiff, Nat.reduceMul, Nat.reduceSub, reduceCtorEq, ↓reduceIte]
      exact .c _
  · have hpe : p = l.length := by simp at hc; omega
    rw [uCnt_end (by omega)] at hu
    subst hu
    refine walkG ?_
    refine ⟨by first | exact .inr rfl | exact .inl rfl, ?_⟩; rw [Tryz.results259]; simp only [resOk, resV, go_sem, Int.reduceBEq, Int.reduceLE, Int.reduceLT, Int.reduceNeg, Nat.reduceAdd, Nat.reduceEqDiff, Nat.reduceLT, Nat.reduceLeDiff, Nat.reduceMul, Nat.reduceSub, reduceCtorEq, ↓reduceIte]
    exact .c _

set_option maxRecDepth 100000 in
set_option maxHeartbeats 400000 in
theorem rtextr_told (s : List UInt8) (hs : s.length ≤ 1000000) : Told Tryz.prog 213 [.c (.v (.string (str s)))] (.c (.v (.bool (isRight s)))) := by
  obtain ⟨Z, hC, hd⟩ := rcount3_told s hs
  have hsz : (str s).size = s.length := str_size s
  have hdl : (str s).data.toList = s := by simp [str]
  refine VC.told ent_213 Tryz.func213 rfl Tryz.ntmps213 (by simp) (by first | rfl | simp [AV.pureB, AV.pureL, pureL_c, pures]) (by first | rfl | simp [AV.pureB, AV.pureL, pureL_c, pures]) fun hb => ?_
  clear hb
  refine walkGF (And.intro hsz hdl) ?_
  refine walkCF (And.intro hsz hdl) (hC) ?_
  refine walkGF (hd) ?_
  refine ⟨by first | exact .inr rfl | exact .inl rfl, ?_⟩; rw [Tryz.results213]; simp only [resOk, resV, go_sem, Int.reduceBEq, Int.reduceLE, Int.reduceLT, Int.reduceNeg, Nat.reduceAdd, Nat.reduceEqDiff, Nat.reduceLT, Nat.reduceLeDiff, Nat.reduceMul, Nat.reduceSub, reduceCtorEq, ↓reduceIte]
  exact .c _

theorem takeN {α : Type} {l : List α} {i : Nat} {x : α} (h : l[i]? = some x) : l.take (i + 1) = l.take i ++ [x] := by
  rw [List.take_add_one, h]
  rfl
theorem rshapes_all : ∀ xs : List JT, rshapes xs = xs.all rshape
  | [] => by rw [rshapes]; rfl
  | x :: xs => by rw [rshapes, rshapes_all xs]; rfl
set_option maxRecDepth 100000 in
set_option maxHeartbeats 1600000 in
theorem rshape_told : ∀ (m : Nat) (t : JT), SizeOf.sizeOf t ≤ m → t.sm 1000000 → Told Tryz.prog 127 [t.av] (.c (.v (.bool (rshape t)))) := by
  intro m
  induction m with
  | zero =>
    intro t ht
    cases t
    simp at ht
  | succ m ih =>
  intro t ht hsm
  cases t with
  | mk k n s ks xs =>
  have hx : ∀ x ∈ xs, Told Tryz.prog 127 [x.av] (.c (.v (.bool (rshape x)))) := fun x hxm => ih x (by have := List.sizeOf_lt_of_mem hxm; simp at ht; omega) (smL_mem hsm.2.2.2.2 x hxm)
  obtain ⟨hsl, hkl, hks, hxl, _⟩ := hsm
  clear ih ht
  obtain ⟨V, hV⟩ : ∃ V, V = rshape (.mk k n s ks xs) := ⟨_, rfl⟩
  rw [← hV]
  rw [rshape] at hV
  have hT := rtextr_told s hsl
  simp only [JT.av]
  refine VC.told ent_127 Tryz.func127 rfl Tryz.ntmps127 (by simp) (by simp [AV.pureB, AV.pureL, cells_mk]) (by simp [AV.pureB, AV.pureL]) fun hb => ?_
  clear hb
  (iterate 18 (first | refine pass ?_ | refine VC.region (by rfl) (by rfl) ?_ | (refine AO.step fun K hK => ?_; simp only [cells_mk, List.length_map, go_sem, Int.reduceBEq, Int.reduceLE, Int.reduceLT, Int.reduceNeg, Nat.reduceAdd, Nat.reduceEqDiff, Nat.reduceLT, Nat.reduceLeDiff, Nat.reduceMul, Nat.reduceSub, reduceCtorEq, ↓reduceIte]; (first | refine gsel_skip ?_ | refine gsel_go ?_ | skip); (first | refine hK _ _ _ ?_ | refine ⟨by first | omega | exact ⟨_, rfl, rfl⟩ | exact fun _ => ⟨_, rfl, rfl⟩ | (intro h; simp only [cells_mk, List.length_map, h, true_and]; omega) | (clear hK; intro h; simp_all <;> omega), hK _ _ _ ?_⟩); clear hK K) | refine VC.draw mixP (by rfl) (by rfl) ?_ | refine ⟨okd_of (by kernel_rfl), ?_⟩ | refine BQ.other (by decide) ?_ | refine VC.seq ?_ | refine AO.nil ?_ | refine VC.block ?_))
  obtain ⟨b1, hb1⟩ : ∃ b : Bool, b = (decide (k < 1) || decide (k > 6)) := ⟨_, rfl⟩
  rw [← hb1]; replace hb1 := Lib.hid hb1
  (iterate 15 (first | refine pass ?_ | refine VC.region (by rfl) (by rfl) ?_ | (refine AO.step fun K hK => ?_; simp only [cells_mk, List.length_map, go_sem, Int.reduceBEq, Int.reduceLE, Int.reduceLT, Int.reduceNeg, Nat.reduceAdd, Nat.reduceEqDiff, Nat.reduceLT, Nat.reduceLeDiff, Nat.reduceMul, Nat.reduceSub, reduceCtorEq, ↓reduceIte]; (first | refine gsel_skip ?_ | refine gsel_go ?_ | skip); (first | refine hK _ _ _ ?_ | refine ⟨by first | omega | exact ⟨_, rfl, rfl⟩ | exact fun _ => ⟨_, rfl, rfl⟩ | (intro h; simp only [cells_mk, List.length_map, h, true_and]; omega) | (clear hK; intro h; simp_all <;> omega), hK _ _ _ ?_⟩); clear hK K) | refine VC.draw mixP (by rfl) (by rfl) ?_ | refine ⟨okd_of (by kernel_rfl), ?_⟩ | refine BQ.other (by decide) ?_ | refine VC.seq ?_ | refine AO.nil ?_ | refine VC.block ?_))
  obtain ⟨b2, hb2⟩ : ∃ b : Bool, b = (b1 || k != 2 && k != 3 && n != 0) := ⟨_, rfl⟩
  rw [← hb2]; replace hb2 := Lib.hid hb2
  (iterate 15 (first | refine pass ?_ | refine VC.region (by rfl) (by rfl) ?_ | (refine AO.step fun K hK => ?_; simp only [cells_mk, List.length_map, go_sem, Int.reduceBEq, Int.reduceLE, Int.reduceLT, Int.reduceNeg, Nat.reduceAdd, Nat.reduceEqDiff, Nat.reduceLT, Nat.reduceLeDiff, Nat.reduceMul, Nat.reduceSub, reduceCtorEq, ↓reduceIte]; (first | refine gsel_skip ?_ | refine gsel_go ?_ | skip); (first | refine hK _ _ _ ?_ | refine ⟨by first | omega | exact ⟨_, rfl, rfl⟩ | exact fun _ => ⟨_, rfl, rfl⟩ | (intro h; simp only [cells_mk, List.length_map, h, true_and]; omega) | (clear hK; intro h; simp_all <;> omega), hK _ _ _ ?_⟩); clear hK K) | refine VC.draw mixP (by rfl) (by rfl) ?_ | refine ⟨okd_of (by kernel_rfl), ?_⟩ | refine BQ.other (by decide) ?_ | refine VC.seq ?_ | refine AO.nil ?_ | refine VC.block ?_))
  obtain ⟨b3, hb3⟩ : ∃ b : Bool, b = (b2 || k == 2 && n != 0 && n != 1) := ⟨_, rfl⟩
  rw [← hb3]; replace hb3 := Lib.hid hb3
  have hE : (⟨#[]⟩ : ByteArray).toList = [] := str_toList []
  (iterate 10 (first | refine pass ?_ | refine VC.region (by rfl) (by rfl) ?_ | (refine AO.step fun K hK => ?_; simp only [cells_mk, List.length_map, str_toList, hE, go_sem, Int.reduceBEq, Int.reduceLE, Int.reduceLT, Int.reduceNeg, Nat.reduceAdd, Nat.reduceEqDiff, Nat.reduceLT, Nat.reduceLeDiff, Nat.reduceMul, Nat.reduceSub, reduceCtorEq, ↓reduceIte]; (first | refine gsel_skip ?_ | refine gsel_go ?_ | skip); (first | refine hK _ _ _ ?_ | refine ⟨by first | omega | exact ⟨_, rfl, rfl⟩ | exact fun _ => ⟨_, rfl, rfl⟩ | (intro h; simp only [cells_mk, List.length_map, str_toList, hE, h, true_and]; omega) | (clear hK; intro h; simp_all <;> omega), hK _ _ _ ?_⟩); clear hK K) | refine VC.draw mixP (by rfl) (by rfl) ?_ | refine ⟨okd_of (by kernel_rfl), ?_⟩ | refine BQ.other (by decide) ?_ | refine VC.seq ?_ | refine AO.nil ?_ | refine VC.block ?_))
  obtain ⟨b4, hb4⟩ : ∃ b : Bool, b = (b3 || k != 4 && !s == []) := ⟨_, rfl⟩
  rw [← hb4]; replace hb4 := Lib.hid hb4
  refine walkGF (@cells_mk) ?_
  refine walkDF (@cells_mk) (hT) ?_
  (iterate 3 (first | refine pass ?_ | refine VC.region (by rfl) (by rfl) ?_ | (refine AO.step fun K hK => ?_; simp only [cells_mk, List.length_map, go_sem, Int.reduceBEq, Int.reduceLE, Int.reduceLT, Int.reduceNeg, Nat.reduceAdd, Nat.reduceEqDiff, Nat.reduceLT, Nat.reduceLeDiff, Nat.reduceMul, Nat.reduceSub, reduceCtorEq, ↓reduceIte]; (first | refine gsel_skip ?_ | refine gsel_go ?_ | skip); (first | refine hK _ _ _ ?_ | refine ⟨by first | omega | exact ⟨_, rfl, rfl⟩ | exact fun _ => ⟨_, rfl, rfl⟩ | (intro h; simp only [cells_mk, List.length_map, h, true_and]; omega) | (clear hK; intro h; simp_all <;> omega), hK _ _ _ ?_⟩); clear hK K) | refine VC.draw mixP (by rfl) (by rfl) ?_ | refine ⟨okd_of (by kernel_rfl), ?_⟩ | refine BQ.other (by decide) ?_ | refine VC.seq ?_ | refine AO.nil ?_ | refine VC.block ?_))
  obtain ⟨b5, hb5⟩ : ∃ b : Bool, b = (b4 || !isRight s) := ⟨_, rfl⟩
  rw [← hb5]; replace hb5 := Lib.hid hb5
  (iterate 11 (first | refine pass ?_ | refine VC.region (by rfl) (by rfl) ?_ | (refine AO.step fun K hK => ?_; simp only [cells_mk, List.length_map, go_sem, Int.reduceBEq, Int.reduceLE, Int.reduceLT, Int.reduceNeg, Nat.reduceAdd, Nat.reduceEqDiff, Nat.reduceLT, Nat.reduceLeDiff, Nat.reduceMul, Nat.reduceSub, reduceCtorEq, ↓reduceIte]; (first | refine gsel_skip ?_ | refine gsel_go ?_ | skip); (first | refine hK _ _ _ ?_ | refine ⟨by first | omega | exact ⟨_, rfl, rfl⟩ | exact fun _ => ⟨_, rfl, rfl⟩ | (intro h; simp only [cells_mk, List.length_map, h, true_and]; omega) | (clear hK; intro h; simp_all <;> omega), hK _ _ _ ?_⟩); clear hK K) | refine VC.draw mixP (by rfl) (by rfl) ?_ | refine ⟨okd_of (by kernel_rfl), ?_⟩ | refine BQ.other (by decide) ?_ | refine VC.seq ?_ | refine AO.nil ?_ | refine VC.block ?_))
  obtain ⟨b6, hb6⟩ : ∃ b : Bool, b = (b5 || decide (k < 5) && decide ((xs.length : Int) > 0)) := ⟨_, rfl⟩
  rw [← hb6]; replace hb6 := Lib.hid hb6
  (iterate 11 (first | refine pass ?_ | refine VC.region (by rfl) (by rfl) ?_ | (refine AO.step fun K hK => ?_; simp only [cells_mk, List.length_map, go_sem, Int.reduceBEq, Int.reduceLE, Int.reduceLT, Int.reduceNeg, Nat.reduceAdd, Nat.reduceEqDiff, Nat.reduceLT, Nat.reduceLeDiff, Nat.reduceMul, Nat.reduceSub, reduceCtorEq, ↓reduceIte]; (first | refine gsel_skip ?_ | refine gsel_go ?_ | skip); (first | refine hK _ _ _ ?_ | refine ⟨by first | omega | exact ⟨_, rfl, rfl⟩ | exact fun _ => ⟨_, rfl, rfl⟩ | (intro h; simp only [cells_mk, List.length_map, h, true_and]; omega) | (clear hK; intro h; simp_all <;> omega), hK _ _ _ ?_⟩); clear hK K) | refine VC.draw mixP (by rfl) (by rfl) ?_ | refine ⟨okd_of (by kernel_rfl), ?_⟩ | refine BQ.other (by decide) ?_ | refine VC.seq ?_ | refine AO.nil ?_ | refine VC.block ?_))
  obtain ⟨b7, hb7⟩ : ∃ b : Bool, b = (b6 || k != 6 && decide ((ks.length : Int) > 0)) := ⟨_, rfl⟩
  rw [← hb7]; replace hb7 := Lib.hid hb7
  (iterate 13 (first | refine pass ?_ | refine VC.region (by rfl) (by rfl) ?_ | (refine AO.step fun K hK => ?_; simp only [cells_mk, List.length_map, go_sem, Int.reduceBEq, Int.reduceLE, Int.reduceLT, Int.reduceNeg, Nat.reduceAdd, Nat.reduceEqDiff, Nat.reduceLT, Nat.reduceLeDiff, Nat.reduceMul, Nat.reduceSub, reduceCtorEq, ↓reduceIte]; (first | refine gsel_skip ?_ | refine gsel_go ?_ | skip); (first | refine hK _ _ _ ?_ | refine ⟨by first | omega | exact ⟨_, rfl, rfl⟩ | exact fun _ => ⟨_, rfl, rfl⟩ | (intro h; simp only [cells_mk, List.length_map, h, true_and]; omega) | (clear hK; intro h; simp_all <;> omega), hK _ _ _ ?_⟩); clear hK K) | refine VC.draw mixP (by rfl) (by rfl) ?_ | refine ⟨okd_of (by kernel_rfl), ?_⟩ | refine BQ.other (by decide) ?_ | refine VC.seq ?_ | refine AO.nil ?_ | refine VC.block ?_))
  obtain ⟨b8, hb8⟩ : ∃ b : Bool, b = (b7 || k == 6 && (ks.length : Int) != (xs.length : Int)) := ⟨_, rfl⟩
  rw [← hb8]; replace hb8 := Lib.hid hb8
  have hF : rfail (.mk k n s ks xs) = b8 := by
    rw [hb8.out, hb7.out, hb6.out, hb5.out, hb4.out, hb3.out, hb2.out, hb1.out, rfail]
    have e1 : ∀ a b : Int, decide (a ≠ b) = (a != b) := fun a b => by by_cases h : a = b <;> simp [h]
    have e2 : ∀ a b : Int, decide (a = b) = (a == b) := fun a b => by by_cases h : a = b <;> simp [h]
    have e3 : s.isEmpty = (s == []) := by cases s <;> rfl
    have e4 : (!xs.isEmpty) = decide ((xs.length : Int) > 0) := by cases xs <;> simp <;> omega
    have e5 : (!ks.isEmpty) = decide ((ks.length : Int) > 0) := by cases ks <;> simp <;> omega
    have e6 : decide (ks.length ≠ xs.length) = ((ks.length : Int) != (xs.length : Int)) := by
      by_cases h : ks.length = xs.length
      · simp [h]
      · have : ¬ (ks.length : Int) = (xs.length : Int) := by omega
        simp [h, this]
    simp only [e1, e2, e3, e4, e5, e6]
  refine walkGF (@cells_mk) ?_
  refine VC.cond (by rfl) (by trivial) (fun hc => ?_) (fun hc => ?_)
  · have hf : V = false := by rw [hV, hF, hc]; simp
    subst hf
    refine walkBF (@cells_mk) ?_
    refine ⟨by first | exact .inr rfl | exact .inl rfl, ?_⟩; rw [Tryz.results127]; simp only [resOk, resV, go_sem, Int.reduceBEq, Int.reduceLE, Int.reduceLT, Int.reduceNeg, Nat.reduceAdd, Nat.reduceEqDiff, Nat.reduceLT, Nat.reduceLeDiff, Nat.reduceMul, Nat.reduceSub, reduceCtorEq, ↓reduceIte]
    exact .c _
  have hv : V = ((ks.all isRight && decide ks.Nodup) && rshapes xs) := by rw [hV, hF, hc]; simp
  clear hV hF hb1 hb2 hb3 hb4 hb5 hb6 hb7 hb8 hT
  refine walkGF (@cells_mk) ?_
  refine VC.loop (ι := {i : Nat // i ≤ ks.length ∧ (∀ y ∈ ks.take i, isRight y = true) ∧ (ks.take i).Nodup})
    (fun q => [(1, .ref 0 1 0 0), (3, .c (.v (.int .i64 (q.1 : Int))))]) (fun q => [(0, ⟨false, 36, 5, [(JT.mk k n s ks xs).cells.map .c]⟩)]) 2000 (fun q => ks.length - q.1) ⟨0, Nat.zero_le _, by simp, by simp⟩ ?_ ?_
  · simp only [cells_mk, Weak, eq_self, used_is, sc_any, sc_c, sc_pp, sc_ref, sc_row, sc_agg, sc_fn, ScL, some_imp, List.forall_mem_map, go_sem, Int.reduceBEq, Int.reduceLE, Int.reduceLT, Int.reduceNeg, Nat.reduceAdd, Nat.reduceEqDiff, Nat.reduceLT, Nat.reduceLeDiff, Nat.reduceMul, Nat.reduceSub, reduceCtorEq, ↓reduceIte]
  · rintro ⟨i, hi, hr, hd⟩
    simp only []
    refine walkGF (@cells_mk) ?_
    refine VC.cond (by rfl) (by trivial) (fun hc2 => ?_) (fun hc2 => ?_)
    · have hlt : i < ks.length := by simp at hc2; omega
      obtain ⟨y, hy⟩ : ∃ y, ks[i]? = some y := ⟨ks[i], List.getElem?_eq_getElem hlt⟩
      have hw : IntKind.i64.wrap ((i : Int) + 1) = (i : Int) + 1 := wrap64_id (by omega) (by omega)
      have hT := rtextr_told y (hks y (List.mem_of_getElem? hy))
      (repeat (first | refine pass ?_ | refine VC.region (by rfl) (by rfl) ?_ | (refine AO.step fun K hK => ?_; simp only [cells_mk, List.length_map, List.getElem?_map, hy, sPV, len_cells, take_cells, take_cellsC, go_sem, Int.reduceBEq, Int.reduceLE, Int.reduceLT, Int.reduceNeg, Nat.reduceAdd, Nat.reduceEqDiff, Nat.reduceLT, Nat.reduceLeDiff, Nat.reduceMul, Nat.reduceSub, reduceCtorEq, ↓reduceIte]; (first | refine gsel_skip ?_ | refine gsel_go ?_ | skip); (first | refine hK _ _ _ ?_ | refine ⟨by first | omega | exact ⟨_, rfl, rfl⟩ | exact fun _ => ⟨_, rfl, rfl⟩ | (intro h; simp only [cells_mk, List.length_map, List.getElem?_map, hy, sPV, len_cells, take_cells, take_cellsC, h, true_and]; omega) | (clear hK; intro h; simp_all <;> omega), hK _ _ _ ?_⟩); clear hK K) | refine VC.draw mixP (by rfl) (by rfl) ?_ | refine ⟨okd_of (by kernel_rfl), ?_⟩ | refine BQ.other (by decide) ?_ | refine VC.seq ?_ | refine AO.nil ?_ | refine VC.block ?_))
      refine walkCF (@cells_mk) (hT) ?_
      refine walkGF (@cells_mk) ?_
      refine VC.cond (by rfl) (by trivial) (fun hc3 => ?_) (fun hc3 => ?_)
      · have hf : V = false := by
          rw [hv]
          have : ks.all isRight = false := by
            rw [List.all_eq_false]
            exact ⟨y, List.mem_of_getElem? hy, by simpa using hc3⟩
          rw [this]
          rfl
        subst hf
        refine walkBF (@cells_mk) ?_
        refine ⟨by first | exact .inr rfl | exact .inl rfl, ?_⟩; rw [Tryz.results127]; simp only [resOk, resV, go_sem, Int.reduceBEq, Int.reduceLE, Int.reduceLT, Int.reduceNeg, Nat.reduceAdd, Nat.reduceEqDiff, Nat.reduceLT, Nat.reduceLeDiff, Nat.reduceMul, Nat.reduceSub, reduceCtorEq, ↓reduceIte]
        exact .c _
      refine walkGF (@cells_mk) ?_
      refine VC.loop (ι := {j : Nat // j ≤ i ∧ y ∉ ks.take j})
        (fun q => [(1, .ref 0 1 0 0), (3, .c (.v (.int .i64 (i : Int)))), (4, .c (.v (.int .i64 (q.1 : Int))))]) (fun q => [(0, ⟨false, 36, 5, [(JT.mk k n s ks xs).cells.map .c]⟩)]) 2000 (fun q => i - q.1) ⟨0, Nat.zero_le _, by simp⟩ ?_ ?_
      · simp only [cells_mk, Weak, eq_self, used_is, sc_any, sc_c, sc_pp, sc_ref, sc_row, sc_agg, sc_fn, ScL, some_imp, List.forall_mem_map, go_sem, Int.reduceBEq, Int.reduceLE, Int.reduceLT, Int.reduceNeg, Nat.reduceAdd, Nat.reduceEqDiff, Nat.reduceLT, Nat.reduceLeDiff, Nat.reduceMul, Nat.reduceSub, reduceCtorEq, ↓reduceIte]
      · rintro ⟨j, hj, hn⟩
        simp only []
        refine walkGF (@cells_mk) ?_
        refine VC.cond (by rfl) (by trivial) (fun hc4 => ?_) (fun hc4 => ?_)
        · have hjt : j < i := by simp at hc4; omega
          obtain ⟨z, hz⟩ : ∃ z, ks[j]? = some z := ⟨ks[j], List.getElem?_eq_getElem (by omega)⟩
          have hwj : IntKind.i64.wrap ((j : Int) + 1) = (j : Int) + 1 := wrap64_id (by omega) (by omega)
          (repeat (first | refine pass ?_ | refine VC.region (by rfl) (by rfl) ?_ | (refine AO.step fun K hK => ?_; simp only [cells_mk, List.length_map, List.getElem?_map, hy, hz, sPV, len_cells, take_cells, take_cellsC, str_toList, go_sem, Int.reduceBEq, Int.reduceLE, Int.reduceLT, Int.reduceNeg, Nat.reduceAdd, Nat.reduceEqDiff, Nat.reduceLT, Nat.reduceLeDiff, Nat.reduceMul, Nat.reduceSub, reduceCtorEq, ↓reduceIte]; (first | refine gsel_skip ?_ | refine gsel_go ?_ | skip); (first | refine hK _ _ _ ?_ | refine ⟨by first | omega | exact ⟨_, rfl, rfl⟩ | exact fun _ => ⟨_, rfl, rfl⟩ | (intro h; simp only [cells_mk, List.length_map, List.getElem?_map, hy, hz, sPV, len_cells, take_cells, take_cellsC, str_toList, h, true_and]; omega) | (clear hK; intro h; simp_all <;> omega), hK _ _ _ ?_⟩); clear hK K) | refine VC.draw mixP (by rfl) (by rfl) ?_ | refine ⟨okd_of (by kernel_rfl), ?_⟩ | refine BQ.other (by decide) ?_ | refine VC.seq ?_ | refine AO.nil ?_ | refine VC.block ?_))
          refine VC.cond (by rfl) (by trivial) (fun hc5 => ?_) (fun hc5 => ?_)
          · have hf : V = false := by
              rw [hv]
              have : decide ks.Nodup = false := by
                rw [decide_eq_false_iff_not]
                intro hnd
                have hzy : z = y := by simpa using hc5
                subst hzy
                exact absurd ((List.getElem?_inj (by omega) hnd).1 (hz.trans hy.symm)) (by omega)
              rw [this]
              simp
            subst hf
            refine walkBF (@cells_mk) ?_
            refine ⟨by first | exact .inr rfl | exact .inl rfl, ?_⟩; rw [Tryz.results127]; simp only [resOk, resV, go_sem, Int.reduceBEq, Int.reduceLE, Int.reduceLT, Int.reduceNeg, Nat.reduceAdd, Nat.reduceEqDiff, Nat.reduceLT, Nat.reduceLeDiff, Nat.reduceMul, Nat.reduceSub, reduceCtorEq, ↓reduceIte]
            exact .c _
          refine walkGF (hwj) ?_
          refine .next ⟨j + 1, by omega, ?_⟩ ?_ (by simp only []; omega)
          · rw [takeN hz]
            have hzy : z ≠ y := by simpa using hc5
            simp [hn, Ne.symm hzy]
          simp only [cells_mk, Weak, eq_self, used_is, sc_any, sc_c, sc_pp, sc_ref, sc_row, sc_agg, sc_fn, ScL, some_imp, List.forall_mem_map, go_sem, Int.reduceBEq, Int.reduceLE, Int.reduceLT, Int.reduceNeg, Nat.reduceAdd, Nat.reduceEqDiff, Nat.reduceLT, Nat.reduceLeDiff, Nat.reduceMul, Nat.reduceSub, reduceCtorEq, ↓reduceIte]
          try exact cI (by omega)
        · have hji : j = i := by simp at hc4; omega
          refine walkGF (hw) ?_
          refine .next ⟨i + 1, by omega, ?_, ?_⟩ ?_ (by simp only []; omega)
          · rw [takeN hy]
            intro u hu
            rcases List.mem_append.1 hu with h | h
            · exact hr u h
            · obtain rfl := List.mem_singleton.1 h
              simpa using hc3
          · rw [takeN hy, List.nodup_append]
            refine ⟨hd, by simp, ?_⟩
            intro a ha b hb
            obtain rfl := List.mem_singleton.1 hb
            rintro rfl
            exact hn (hji ▸ ha)
          simp only [cells_mk, Weak, eq_self, used_is, sc_any, sc_c, sc_pp, sc_ref, sc_row, sc_agg, sc_fn, ScL, some_imp, List.forall_mem_map, go_sem, Int.reduceBEq, Int.reduceLE, Int.reduceLT, Int.reduceNeg, Nat.reduceAdd, Nat.reduceEqDiff, Nat.reduceLT, Nat.reduceLeDiff, Nat.reduceMul, Nat.reduceSub, reduceCtorEq, ↓reduceIte]
          try exact cI (by omega)
    · have hie : i = ks.length := by simp at hc2; omega
      subst hie
      rw [List.take_length] at hr hd
      have hv : V = rshapes xs := by
        rw [hv, List.all_eq_true.2 hr]
        simp [hd]
      refine walkGF (@cells_mk) ?_
      refine VC.loop (ι := {i : Nat // i ≤ xs.length ∧ (∀ y ∈ xs.take i, rshape y = true)})
        (fun q => [(1, .ref 0 1 0 0), (5, .c (.v (.int .i64 (q.1 : Int))))]) (fun q => [(0, ⟨false, 36, 5, [(JT.mk k n s ks xs).cells.map .c]⟩)]) 2000 (fun q => xs.length - q.1) ⟨0, Nat.zero_le _, by simp⟩ ?_ ?_
      · simp only [cells_mk, Weak, eq_self, used_is, sc_any, sc_c, sc_pp, sc_ref, sc_row, sc_agg, sc_fn, ScL, some_imp, List.forall_mem_map, go_sem, Int.reduceBEq, Int.reduceLE, Int.reduceLT, Int.reduceNeg, Nat.reduceAdd, Nat.reduceEqDiff, Nat.reduceLT, Nat.reduceLeDiff, Nat.reduceMul, Nat.reduceSub, reduceCtorEq, ↓reduceIte]
      · rintro ⟨i, hi, hr⟩
        simp only []
        refine walkGF (@cells_mk) ?_
        refine VC.cond (by rfl) (by trivial) (fun hc3 => ?_) (fun hc3 => ?_)
        · have hlt : i < xs.length := by simp at hc3; omega
          obtain ⟨y, hy⟩ : ∃ y, xs[i]? = some y := ⟨xs[i], List.getElem?_eq_getElem hlt⟩
          have hw : IntKind.i64.wrap ((i : Int) + 1) = (i : Int) + 1 := wrap64_id (by omega) (by omega)
          have hyc : (xs.map JT.cells)[i]? = some y.cells := by rw [List.getElem?_map, hy]; rfl
          have hT := hx y (List.mem_of_getElem? hy)
          simp only [JT.av] at hT
          refine walkGF (And.intro @cells_mk (And.intro hyc (And.intro @len_cells (And.intro @take_cells @take_cellsC)))) ?_
          refine walkCF (And.intro @len_cells (And.intro @take_cells (And.intro @take_cellsC @pureL_c))) (hT) ?_
          refine walkGF (@cells_mk) ?_
          refine VC.cond (by rfl) (by trivial) (fun hc5 => ?_) (fun hc5 => ?_)
          · have hf : V = false := by
              rw [hv, rshapes_all, List.all_eq_false]
              exact ⟨y, List.mem_of_getElem? hy, by simpa using hc5⟩
            subst hf
            refine walkBF (@cells_mk) ?_
            refine ⟨by first | exact .inr rfl | exact .inl rfl, ?_⟩; rw [Tryz.results127]; simp only [resOk, resV, go_sem, Int.reduceBEq, Int.reduceLE, Int.reduceLT, Int.reduceNeg, Nat.reduceAdd, Nat.reduceEqDiff, Nat.reduceLT, Nat.reduceLeDiff, Nat.reduceMul, Nat.reduceSub, reduceCtorEq, ↓reduceIte]
            exact .c _
          refine walkGF (hw) ?_
          refine .next ⟨i + 1, by omega, ?_⟩ ?_ (by simp only []; omega)
          · rw [takeN hy]
            intro u hu
            rcases List.mem_append.1 hu with h | h
            · exact hr u h
            · obtain rfl := List.mem_singleton.1 h
              simpa using hc5
          simp only [cells_mk, Weak, eq_self, used_is, sc_any, sc_c, sc_pp, sc_ref, sc_row, sc_agg, sc_fn, ScL, some_imp, List.forall_mem_map, go_sem, Int.reduceBEq, Int.reduceLE, Int.reduceLT, Int.reduceNeg, Nat.reduceAdd, Nat.reduceEqDiff, Nat.reduceLT, Nat.reduceLeDiff, Nat.reduceMul, Nat.reduceSub, reduceCtorEq, ↓reduceIte]
          try exact cI (by omega)
        · have hie : i = xs.length := by simp at hc3; omega
          subst hie
          rw [List.take_length] at hr
          have hf : V = true := by
            rw [hv, rshapes_all, List.all_eq_true.2 hr]
          subst hf
          refine walkGF (@cells_mk) ?_
          refine ⟨by first | exact .inr rfl | exact .inl rfl, ?_⟩; rw [Tryz.results127]; simp only [resOk, resV, go_sem, Int.reduceBEq, Int.reduceLE, Int.reduceLT, Int.reduceNeg, Nat.reduceAdd, Nat.reduceEqDiff, Nat.reduceLT, Nat.reduceLeDiff, Nat.reduceMul, Nat.reduceSub, reduceCtorEq, ↓reduceIte]
          exact .c _

set_option maxRecDepth 100000 in
set_option maxHeartbeats 400000 in
theorem rdeep_told : ∀ (m : Nat) (t : JT), SizeOf.sizeOf t ≤ m → tdeep t ≤ 1000 → Told Tryz.prog 87 [t.av] (.c (.v (.int .i64 (tdeep t)))) := by
  intro m
  induction m with
  | zero => intro t ht; cases t; simp at ht
  | succ m ih =>
  intro t ht hd
  cases t with
  | mk k n s ks xs =>
  refine VC.told ent_87 Tryz.func87 rfl Tryz.ntmps87 (by simp) rfl rfl fun hb => ?_
  simp only [JT.av, cells_mk, List.map_cons, List.map_nil, abd_agg, abd_c, pbd_v, pbd_sl, List.mem_cons, List.not_mem_nil, or_false, forall_eq_or_imp, forall_eq, true_and, List.length_map] at hb ⊢
  have hxl := hb.1.1
  clear hb
  refine walkG ?_
  refine VC.cond (by rfl) (by trivial) (fun hc => ?_) (fun hc => ?_)
  · have hk : ¬ (k = 5 ∨ k = 6) := by
      simp at hc
      omega
    have hdd : tdeep (.mk k n s ks xs) = 0 := by simp [tdeep, hk]
    rw [hdd]
    refine walkG ?_
    refine ⟨.inr rfl, ?_⟩
    rw [Tryz.results87]
    simp only [resOk, resV, go_sem, Int.reduceBEq, Int.reduceLE, Int.reduceLT, Int.reduceNeg, Nat.reduceAdd, Nat.reduceEqDiff, Nat.reduceLT, Nat.reduceLeDiff, Nat.reduceMul, Nat.reduceSub, reduceCtorEq, ↓reduceIte]
    exact .c _
  · have hk : k = 5 ∨ k = 6 := by
      simp at hc
      omega
    have hdd : tdeep (.mk k n s ks xs) = tdeeps 1 xs := by simp [tdeep, hk]
    rw [hdd] at hd ⊢
    clear hc
    refine walkG ?_
    refine VC.loop (ι := {i : Nat // i ≤ xs.length}) (fun i => [(1, .ref 0 1 0 0), (3, .c (.v (.int .i64 (tdeeps 1 (xs.take i.1))))), (4, .c (.v (.int .i64 i.1)))])
      (fun _ => [(0, ⟨false, 36, 5, [(JT.mk k n s ks xs).cells.map .c]⟩)]) 8 (fun i => xs.length - i.1) ⟨0, Nat.zero_le _⟩ ?_ ?_
    · simp only [List.take_zero, tdeeps, cells_mk, Weak, eq_self, used_is, sc_any, sc_c, sc_pp, sc_ref, sc_row, sc_agg, sc_fn, ScL, some_imp, List.forall_mem_map, go_sem, Int.reduceBEq, Int.reduceLE, Int.reduceLT, Int.reduceNeg, Nat.reduceAdd, Nat.reduceEqDiff, Nat.reduceLT, Nat.reduceLeDiff, Nat.reduceMul, Nat.reduceSub, reduceCtorEq, ↓reduceIte]
      all_goals rfl
    rintro ⟨i, hi⟩
    refine walkGF (@cells_mk) ?_
    refine VC.cond (by rfl) (by trivial) (fun hc => ?_) (fun hc => ?_)
    · simp only [decide_eq_true_eq] at hc
      have hlt : i < xs.length := by omega
      obtain ⟨x, hx⟩ : ∃ x, xs[i]? = some x := ⟨xs[i], List.getElem?_eq_getElem hlt⟩
      have hxm := List.mem_of_getElem? hx
      have hle := (tdeeps_le xs 1).2 x hxm
      have hcall := ih x (by
        have h1 := List.sizeOf_lt_of_mem hxm
        simp at ht
        omega) (by omega)
      have hmm : tdeeps 1 (xs.take (i + 1)) = max (tdeeps 1 (xs.take i)) (1 + tdeep x) := by
        rw [← tdeeps_snoc, List.take_add_one, hx]
        rfl
      have hw : IntKind.i64.wrap ((tdeep x : Int) + 1) = (tdeep x : Int) + 1 := wrap64_id (by omega) (by omega)
      have hw2 : IntKind.i64.wrap ((i : Int) + 1) = (i : Int) + 1 := wrap64_id (by omega) (by omega)
      (repeat (first | refine pass ?_ | refine VC.region (by rfl) (by rfl) ?_ | (refine AO.step fun K hK => ?_; simp only [cells_mk, List.getElem?_map, hx, len_cells, take_cells, take_cellsC, go_sem, Int.reduceBEq, Int.reduceLE, Int.reduceLT, Int.reduceNeg, Nat.reduceAdd, Nat.reduceEqDiff, Nat.reduceLT, Nat.reduceLeDiff, Nat.reduceMul, Nat.reduceSub, reduceCtorEq, ↓reduceIte]; (first | refine gsel_skip ?_ | refine gsel_go ?_ | skip); (first | refine hK _ _ _ ?_ | refine ⟨by first | omega | exact ⟨_, rfl, rfl⟩ | exact fun _ => ⟨_, rfl, rfl⟩ | (intro h; simp only [cells_mk, List.getElem?_map, hx, len_cells, take_cells, take_cellsC, h, true_and]; omega) | (clear hK; intro h; simp_all <;> omega), hK _ _ _ ?_⟩); clear hK K) | refine VC.draw mixP (by rfl) (by rfl) ?_ | refine ⟨okd_of (by kernel_rfl), ?_⟩ | refine BQ.other (by decide) ?_ | refine VC.seq ?_ | refine AO.nil ?_ | refine VC.block ?_))
      (refine AO.step fun K hK => ?_; simp only [go_sem, Int.reduceBEq, Int.reduceLE, Int.reduceLT, Int.reduceNeg, Nat.reduceAdd, Nat.reduceEqDiff, Nat.reduceLT, Nat.reduceLeDiff, Nat.reduceMul, Nat.reduceSub, reduceCtorEq, ↓reduceIte, pureL_c]; (first | refine gsel_go ?_ | skip))
      refine .inl ⟨_, hcall, hK _ _ _ ?_⟩
      clear hK K
      refine walkGF (And.intro hw hw2) ?_
      refine VC.cond (by rfl) (by trivial) (fun hc2 => ?_) (fun hc2 => ?_)
      · simp only [decide_eq_true_eq] at hc2
        refine walkGF (hw2) ?_
        refine .next ⟨i + 1, by omega⟩ ?_ (by simp only []; omega)
        simp only [hmm, cells_mk, Weak, eq_self, used_is, sc_any, sc_c, sc_pp, sc_ref, sc_row, sc_agg, sc_fn, ScL, some_imp, List.forall_mem_map, go_sem, Int.reduceBEq, Int.reduceLE, Int.reduceLT, Int.reduceNeg, Nat.reduceAdd, Nat.reduceEqDiff, Nat.reduceLT, Nat.reduceLeDiff, Nat.reduceMul, Nat.reduceSub, reduceCtorEq, ↓reduceIte]
        exact ⟨cI (by omega), cI (by omega)⟩
      · simp only [decide_eq_false_iff_not] at hc2
        refine walkGF (hw2) ?_
        refine .next ⟨i + 1, by omega⟩ ?_ (by simp only []; omega)
        simp only [hmm, cells_mk, Weak, eq_self, used_is, sc_any, sc_c, sc_pp, sc_ref, sc_row, sc_agg, sc_fn, ScL, some_imp, List.forall_mem_map, go_sem, Int.reduceBEq, Int.reduceLE, Int.reduceLT, Int.reduceNeg, Nat.reduceAdd, Nat.reduceEqDiff, Nat.reduceLT, Nat.reduceLeDiff, Nat.reduceMul, Nat.reduceSub, reduceCtorEq, ↓reduceIte]
        exact ⟨cI (by omega), cI (by omega)⟩
    · simp only [decide_eq_false_iff_not] at hc
      obtain rfl : i = xs.length := by omega
      refine walkG ?_
      refine ⟨.inr rfl, ?_⟩
      rw [Tryz.results87]
      simp only [resOk, resV, go_sem, Int.reduceBEq, Int.reduceLE, Int.reduceLT, Int.reduceNeg, Nat.reduceAdd, Nat.reduceEqDiff, Nat.reduceLT, Nat.reduceLeDiff, Nat.reduceMul, Nat.reduceSub, reduceCtorEq, ↓reduceIte]
      rw [List.take_length]
      exact .c _

set_option maxRecDepth 100000 in
set_option maxHeartbeats 800000 in
theorem rright_told (t : JT) (h1 : t.sm 1000000) (h2 : tdeep t ≤ 1000) : Told Tryz.prog 79 [t.av] (.c (.v (.bool (jR t)))) := by
  have hS := rshape_told _ t (Nat.le_refl _) h1
  have hD := rdeep_told _ t (Nat.le_refl _) h2
  have hV : jR t = (decide ((tdeep t : Int) ≤ 32) && rshape t) := by
    rw [jR_shape]
    congr 1
    by_cases h : tdeep t ≤ 32
    · simp [h]; omega
    · simp [h]; omega
  obtain ⟨V, hVV⟩ : ∃ V, V = jR t := ⟨_, rfl⟩
  rw [← hVV] at hV ⊢
  refine VC.told ent_79 Tryz.func79 rfl Tryz.ntmps79 (by simp) (by simp [AV.pureB, AV.pureL, JT.av, pureL_c]) rfl fun hb => ?_
  clear hb
  refine walkGF (And.intro @JT.av_eq (And.intro @len_cells (And.intro @take_cells @take_cellsC))) ?_
  refine walkCF (And.intro @JT.av_eq (And.intro @len_cells (And.intro @take_cells (And.intro @take_cellsC @pureL_c)))) (hD) ?_
  refine walkGF (And.intro @JT.av_eq (And.intro @len_cells (And.intro @take_cells @take_cellsC))) ?_
  refine walkDF (And.intro @JT.av_eq (And.intro @len_cells (And.intro @take_cells (And.intro @take_cellsC @pureL_c)))) (hS) ?_
  refine walkG ?_
  refine ⟨by first | exact .inr rfl | exact .inl rfl, ?_⟩; rw [Tryz.results79]; simp only [resOk, resV, go_sem, Int.reduceBEq, Int.reduceLE, Int.reduceLT, Int.reduceNeg, Nat.reduceAdd, Nat.reduceEqDiff, Nat.reduceLT, Nat.reduceLeDiff, Nat.reduceMul, Nat.reduceSub, reduceCtorEq, ↓reduceIte]
  rw [hV]
  exact .c _
end
end Go.Proofs.YtkaogeogjjcdhaaGreatDoor
