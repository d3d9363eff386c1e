/- Texts that lead to the law DfltFields, joined. -/
import Derived.Test.YtllnlmchjljhlaaGreatDoorPkDfltFieldsA
import Derived.Test.YtllnlmchjljhlaaGreatDoorPkDfltFieldsXAbB
import Derived.Scope
import Derived.Test.YtllnlmchjljhlaaGreatDoorPkDfltFieldsXTy
import Derived.RangeFuncNested
import Derived.RangeFuncBound
import Derived.RangeFuncCalls
import Derived.RangeFuncLeaves
import Derived.RangeFuncBox
import Derived.Shelf.Abstract
import Derived.Shelf.RegionOpen
import Derived.WalkKit
import Derived.OwnWalkIn
import Derived.TacticsInMore
import Derived.LoopNIn
import Derived.LoopIn
import Derived.Maps.AppendAt
import Derived.Sort.EveryDepth
import Derived.Test.YtllnlmchjljhlaaGreatDoorPkDfltFieldsXShelf
import Derived.Sort.OwnSorted
namespace Go.Proofs.YtllnlmchjljhlaaGreatDoor
open Go.RowKit
set_option linter.unusedVariables false
set_option linter.unusedSimpArgs false
section
attribute [local go_sem] opx opE ev okx gcond bnd okO AV.get AV.okb cAV upd_at putd_some putd_none wrs_nil wrs_cons look_nil look_cons st argT_at bpick_and bpick_or bpick_true bpick_false binV binI binS binVOk binOk isShift binSOk unV unVOk loadV loadP cellsA zeroA Blkd.len setE grown moreA moreR moreOk eqRes pv fillA fillE putSeg AV.cellish AV.pureL AV.pureB lentL_is ex_some AV.ren AV.renL renL_c Blkd.ren rho wrM renN lentOk rhoE keepM endOk tyA_2 tyA_3 tyA_4 tyA_5 tyA_6 tyA_7 tyA_8 tyA_9 tyA_10 tyA_11 tyA_12 tyA_13 tyA_14 tyA_15 tyA_16 tyA_17 tyA_18 tyA_19 tyA_21 tyA_22 tyA_23 tyA_24 tyA_29 tyA_30 tyA_31 tyA_32 tyA_33 tyA_34 tyA_35 tyA_36 tyA_37 tyA_38 tyA_39 tyA_40 tyA_41 tyA_42 tyA_43 tyA_49 tyA_85 tyA_89 tyA_99 tyA_100 tyA_101 tyA_105 tyA_106 tyA_107 tyA_108 tyA_109 tyA_111 tyA_112 tyA_113 tyA_114 tyA_123 tyA_126 tyA_127 tyA_128 tyA_129 tyA_130 tyA_153 tyA_163 tyA_164 tyA_165 tyA_179 tyA_185 tyA_191 tyA_192 tyA_193 tyA_194 tyA_195 tyA_196 tyA_209 tyA_213 tyA_214 tyA_215 tyA_241 tyA_248 tyA_274 tyA_275 tyA_276 tyA_292 tyA_294 tyA_302 tyA_307 tyA_315 tyA_319 tyA_321 tyA_324 tyA_325 tyA_326 tyA_327 tyA_328 tyA_329 tyA_330 tyA_332 tyA_333 Option.map_some Option.map_none Option.getD_some Option.getD_none Option.bind_some Option.bind_none List.getElem?_cons_zero List.getElem?_cons_succ List.getElem?_nil List.getElem?_toArray List.length_cons List.length_nil List.length_map List.forall_mem_map List.map_cons List.map_nil List.drop_zero List.drop_succ_cons List.drop_nil List.take_zero List.take_succ_cons List.take_nil List.mem_cons List.not_mem_nil or_false forall_eq_or_imp forall_eq List.set_cons_zero List.set_cons_succ List.cons_append List.nil_append List.append_nil List.foldl_cons List.foldl_nil List.replicate_succ List.replicate_zero List.all_cons List.all_nil if_true if_false Bool.false_eq_true ne_eq not_false_eq_true not_true_eq_false true_and and_true and_self true_implies imp_self implies_true forall_const beq_self_eq_true Bool.and_true Bool.true_and Bool.and_false Bool.false_and Bool.or_true Bool.true_or Bool.or_false Bool.false_or Bool.not_true Bool.not_false Bool.not_eq_eq_eq_not intKindOf Value.oneCell' Int.toNat_natCast beq_true beq_false Bool.not_eq_true false_implies false_or true_or or_true Nat.zero_add Nat.add_zero decide_true decide_false Int.cast_ofNat_Int Int.toNat_zero Int.toNat_one eq_self

def sizesL : List Int := [0, 64, 4096, 262144]
def marksL : List Int := [0, 192, 224, 240]
def cvS (l : List UInt8) (n : Nat) : Nat → Int
  | 0 => if n = 1 then (bN l 0 : Int) else if n = 2 then ((bN l 0 : Int) - 192) * 64 else if n = 3 then ((bN l 0 : Int) - 224) * 4096 else ((bN l 0 : Int) - 240) * 262144
  | i + 1 => cvS l n i + ((bN l (i + 1) : Int) - 128) * ((64 ^ (n - 1 - (i + 1)) : Nat) : Int)
theorem cvS_end {l : List UInt8} {n : Nat} (h1 : 1 ≤ n) (h4 : n ≤ 4) : cvS l n (n - 1) = cvN l 0 n := by
  rcases (by omega : n = 1 ∨ n = 2 ∨ n = 3 ∨ n = 4) with rfl | rfl | rfl | rfl <;> simp [cvS, cvN]
theorem cvS_le {l : List UInt8} {n : Nat} (h1 : 1 ≤ n) (h4 : n ≤ 4) : ∀ i, i < n → -100000000 * ((i : Int) + 1) ≤ cvS l n i ∧ cvS l n i ≤ 100000000 * ((i : Int) + 1)
  | 0, _ => by
    have := bN_lt l 0
    unfold cvS
    split
    · omega
    · split
      · omega
      · split <;> omega
  | i + 1, h => by
    obtain ⟨a, b⟩ := cvS_le (l := l) h1 h4 i (by omega)
    have := bN_lt l (i + 1)
    have hp : 64 ^ (n - 1 - (i + 1)) ≤ 4096 := by
      have : n - 1 - (i + 1) ≤ 2 := by omega
      calc 64 ^ (n - 1 - (i + 1)) ≤ 64 ^ 2 := Nat.pow_le_pow_right (by omega) this
        _ = 4096 := rfl
    rw [cvS]
    generalize 64 ^ (n - 1 - (i + 1)) = p at hp ⊢
    have h1 : ((bN l (i + 1) : Int) - 128) * (p : Int) ≤ 128 * 4096 := by
      by_cases hs : (bN l (i + 1) : Int) - 128 ≤ 0
      · have := Int.mul_nonpos_of_nonpos_of_nonneg hs (by omega : (0 : Int) ≤ p)
        omega
      · exact Int.mul_le_mul (by omega) (by omega) (by omega) (by omega)
    have h2 : -(128 * 4096) ≤ ((bN l (i + 1) : Int) - 128) * (p : Int) := by
      have : (128 - (bN l (i + 1) : Int)) * (p : Int) ≤ 128 * 4096 := by
        by_cases hs : 128 - (bN l (i + 1) : Int) ≤ 0
        · have := Int.mul_nonpos_of_nonpos_of_nonneg hs (by omega : (0 : Int) ≤ p)
          omega
        · exact Int.mul_le_mul (by omega) (by omega) (by omega) (by omega)
      have e : (128 - (bN l (i + 1) : Int)) * (p : Int) = -(((bN l (i + 1) : Int) - 128) * (p : Int)) := by rw [← Int.neg_mul]; congr 1; omega
      omega
    have e : ((i + 1 : Nat) : Int) = (i : Int) + 1 := by omega
    rw [e]
    constructor <;> omega
set_option maxRecDepth 100000 in
set_option maxHeartbeats 3200000 in
theorem rwhole_told (m : List UInt8) (hbig : m.length ≤ 1000000) : Told Tryz.prog 236 [.c (.sl 1 (bytePV m))] (.c (.v (.int .i64 (wholeV m 0)))) := by
  have hlen : (bytePV m).length = m.length := by simp [bytePV]
  obtain ⟨V, hV⟩ : ∃ V, V = wholeV m 0 := ⟨_, rfl⟩
  rw [← hV]
  refine VC.told ent_236 Tryz.func236 rfl Tryz.ntmps236 (by simp) (by first | rfl | simp [AV.pureB, AV.pureL, pureL_c, pures]) (by first | rfl | simp [AV.pureB, AV.pureL, pureL_c, pures]) fun hb => ?_
  clear hb
  (refine VC.seq ?_; (first | refine VC.region (by rfl) (by rfl) ?_ | refine VC.draw mixP (by rfl) (by rfl) ?_); (repeat (refine AO.step fun K hK => ?_; simp only [go_sem, Int.reduceBEq, Int.reduceLE, Int.reduceLT, Int.reduceNeg, Nat.reduceAdd, Nat.reduceEqDiff, Nat.reduceLT, Nat.reduceLeDiff, Nat.reduceMul, Nat.reduceSub, reduceCtorEq, ↓reduceIte]; (first | refine gsel_skip ?_ | refine gsel_go ?_ | skip); (first | refine hK _ _ _ ?_ | refine ⟨by first | omega | exact ⟨_, rfl, rfl⟩ | exact fun _ => ⟨_, rfl, rfl⟩ | (intro h; simp only [h, true_and]; omega) | (clear hK; intro h; simp_all <;> omega), hK _ _ _ ?_⟩); clear hK K)); refine AO.nil ?_; first | refine SQ.normal ?_ | refine ⟨okd_of (by kernel_rfl), SQ.normal ?_⟩)
  (refine VC.seq ?_; (first | refine VC.region (by rfl) (by rfl) ?_ | refine VC.draw mixP (by rfl) (by rfl) ?_); (repeat (refine AO.step fun K hK => ?_; simp only [go_sem, Int.reduceBEq, Int.reduceLE, Int.reduceLT, Int.reduceNeg, Nat.reduceAdd, Nat.reduceEqDiff, Nat.reduceLT, Nat.reduceLeDiff, Nat.reduceMul, Nat.reduceSub, reduceCtorEq, ↓reduceIte]; (first | refine gsel_skip ?_ | refine gsel_go ?_ | skip); (first | refine hK _ _ _ ?_ | refine ⟨by first | omega | exact ⟨_, rfl, rfl⟩ | exact fun _ => ⟨_, rfl, rfl⟩ | (intro h; simp only [h, true_and]; omega) | (clear hK; intro h; simp_all <;> omega), hK _ _ _ ?_⟩); clear hK K)); refine AO.nil ?_; first | refine SQ.normal ?_ | refine ⟨okd_of (by kernel_rfl), SQ.normal ?_⟩)
  (refine VC.seq ?_; (first | refine VC.region (by rfl) (by rfl) ?_ | refine VC.draw mixP (by rfl) (by rfl) ?_); (repeat (refine AO.step fun K hK => ?_; simp only [go_sem, Int.reduceBEq, Int.reduceLE, Int.reduceLT, Int.reduceNeg, Nat.reduceAdd, Nat.reduceEqDiff, Nat.reduceLT, Nat.reduceLeDiff, Nat.reduceMul, Nat.reduceSub, reduceCtorEq, ↓reduceIte]; (first | refine gsel_skip ?_ | refine gsel_go ?_ | skip); (first | refine hK _ _ _ ?_ | refine ⟨by first | omega | exact ⟨_, rfl, rfl⟩ | exact fun _ => ⟨_, rfl, rfl⟩ | (intro h; simp only [h, true_and]; omega) | (clear hK; intro h; simp_all <;> omega), hK _ _ _ ?_⟩); clear hK K)); refine AO.nil ?_; first | refine SQ.normal ?_ | refine ⟨okd_of (by kernel_rfl), SQ.normal ?_⟩)
  refine VC.frz [8, 24] [(0, .c (.sl 1 (bytePV m))), (3, .c (.sl 1 (sizesL.map iPV))), (4, .c (.sl 1 (marksL.map iPV)))] [] 400 ?_ ?_
  · simp only [WeakF, used_is, sc_any, sc_c, sc_pp, sc_ref, sc_row, sc_agg, sc_fn, ScL, some_imp, List.forall_mem_map, go_sem, Int.reduceBEq, Int.reduceLE, Int.reduceLT, Int.reduceNeg, Nat.reduceAdd, Nat.reduceEqDiff, Nat.reduceLT, Nat.reduceLeDiff, Nat.reduceMul, Nat.reduceSub, reduceCtorEq, ↓reduceIte]
    exact ⟨.same _, .row (B := ⟨true, 2, 1, [[.c (.v (.int .i64 0))], [.c (.v (.int .i64 64))], [.c (.v (.int .i64 4096))], [.c (.v (.int .i64 262144))]]⟩) (es := sizesL.map iPV) (by simp) rfl rfl rfl rfl,
      .row (B := ⟨true, 2, 1, [[.c (.v (.int .i64 0))], [.c (.v (.int .i64 192))], [.c (.v (.int .i64 224))], [.c (.v (.int .i64 240))]]⟩) (es := marksL.map iPV) (by simp) rfl rfl rfl rfl⟩
  refine walkG ?_
  refine VC.loop (ι := {n : Nat // 1 ≤ n ∧ n ≤ 5 ∧ ∀ k, 1 ≤ k → k < n → wtest m 0 k = false}) (fun q => [(0, .c (.sl 1 (bytePV m))), (3, .c (.sl 1 (sizesL.map iPV))), (4, .c (.sl 1 (marksL.map iPV))), (5, .c (.v (.int .i64 (q.1 : Int))))]) (fun _ => []) 800 (fun q => 5 - q.1)
    ⟨1, by omega, by omega, fun k h1 h2 => by omega⟩ ?_ ?_
  · simp only [Weak, eq_self, used_is, sc_any, sc_c, sc_pp, sc_ref, sc_row, sc_agg, sc_fn, ScL, some_imp, List.forall_mem_map, go_sem, Int.reduceBEq, Int.reduceLE, Int.reduceLT, Int.reduceNeg, Nat.reduceAdd, Nat.reduceEqDiff, Nat.reduceLT, Nat.reduceLeDiff, Nat.reduceMul, Nat.reduceSub, reduceCtorEq, ↓reduceIte]
  rintro ⟨n, hn1, hn5, hno⟩
  simp only []
  refine walkGF (hlen) ?_
  refine VC.cond (by rfl) (by trivial) (fun hc => ?_) (fun hc => ?_)
  rotate_left
  · have hf : V = -1 := by
      have hend : n = 5 ∨ m.length < n := by
        simp at hc
        omega
      have hall : ∀ k, 1 ≤ k → k ≤ 4 → wtest m 0 k = false := fun k h1 h2 => by
        by_cases hk : k < n
        · exact hno k h1 hk
        · rcases wtest_long (l := m) (p := 0) (n := k) (by omega) with h | h
          · exact h
          · omega
      rw [hV]
      exact wtest_none (hall 1 (by omega) (by omega)) (hall 2 (by omega) (by omega)) (hall 3 (by omega) (by omega)) (hall 4 (by omega) (by omega))
    subst hf
    refine walkG ?_
    refine ⟨by first | exact .inr rfl | exact .inl rfl, ?_⟩; rw [Tryz.results236]; simp only [resOk, resV, go_sem, simprocAttr]
    exact .c _
  have hn4 : n ≤ 4 ∧ n ≤ m.length := by
    simp at hc
    omega
  clear hc
  have hp0 := pv_at (l := m) (i := 0) (by omega)
  have hb0 : ((byteAt m 0).toNat : Int) = (bN m 0 : Int) := rfl
  have hbl := bN_lt m 0
  rw [hb0] at hp0
  refine walkGF (hp0) ?_
  refine VC.meet [(0, .c (.sl 1 (bytePV m))), (3, .c (.sl 1 (sizesL.map iPV))), (4, .c (.sl 1 (marksL.map iPV))), (5, .c (.v (.int .i64 (n : Int)))), (6, .c (.v (.int .i64 (cvS m n 0))))] [] 2000 ?_ ?_
  · have hwb : IntKind.i64.wrap (bN m 0 : Int) = (bN m 0 : Int) := wrap64_id (by omega) (by omega)
    by_cases hn : n = 1
    · subst hn
      have hcv : cvS m 1 0 = (bN m 0 : Int) := by simp [cvS]
      rw [hcv]
      refine walkBF (hwb) ?_
      refine .normal ?_
      simp only [hwb, Weak, eq_self, used_is, sc_any, sc_c, sc_pp, sc_ref, sc_row, sc_agg, sc_fn, ScL, some_imp, List.forall_mem_map, go_sem, Int.reduceBEq, Int.reduceLE, Int.reduceLT, Int.reduceNeg, Nat.reduceAdd, Nat.reduceEqDiff, Nat.reduceLT, Nat.reduceLeDiff, Nat.reduceMul, Nat.reduceSub, reduceCtorEq, ↓reduceIte]
    · obtain ⟨mk, sz, hmk, hsz, hcv, hb1, hb2⟩ : ∃ mk sz : Int, (marksL.map iPV)[n - 1]? = some (iPV mk) ∧ (sizesL.map iPV)[n - 1]? = some (iPV sz) ∧ cvS m n 0 = ((bN m 0 : Int) - mk) * sz ∧ (0 ≤ mk ∧ mk ≤ 1000) ∧ (-1000000000 ≤ ((bN m 0 : Int) - mk) * sz ∧ ((bN m 0 : Int) - mk) * sz ≤ 1000000000) := by
        rcases (by omega : n = 2 ∨ n = 3 ∨ n = 4) with rfl | rfl | rfl
        · exact ⟨192, 64, rfl, rfl, by simp [cvS], by omega, by omega⟩
        · exact ⟨224, 4096, rfl, rfl, by simp [cvS], by omega, by omega⟩
        · exact ⟨240, 262144, rfl, rfl, by simp [cvS], by omega, by omega⟩
      rw [hcv]
      have hw1 : IntKind.i64.wrap ((n : Int) - 1) = ((n - 1 : Nat) : Int) := by rw [wrap64_id (by omega) (by omega)]; omega
      have hw2 : IntKind.i64.wrap ((bN m 0 : Int) - mk) = (bN m 0 : Int) - mk := wrap64_id (by omega) (by omega)
      have hw3 : IntKind.i64.wrap (((bN m 0 : Int) - mk) * sz) = ((bN m 0 : Int) - mk) * sz := wrap64_id (by omega) (by omega)
      have hml : (marksL.map iPV).length = 4 := rfl
      have hsl : (sizesL.map iPV).length = 4 := rfl
      refine VC.cond (by rfl) (by trivial) (fun hc4 => ?_) (fun hc4 => ?_)
      rotate_left
      · exact absurd hc4 (by simp; omega)
      refine walkGF (And.intro hp0 (And.intro hw1 (And.intro hmk (And.intro hsz (And.intro @iPV_eq (And.intro hwb (And.intro hw2 (And.intro hw3 (And.intro hml hsl))))))))) ?_
      refine .normal ?_
      simp only [hw3, Weak, eq_self, used_is, sc_any, sc_c, sc_pp, sc_ref, sc_row, sc_agg, sc_fn, ScL, some_imp, List.forall_mem_map, go_sem, Int.reduceBEq, Int.reduceLE, Int.reduceLT, Int.reduceNeg, Nat.reduceAdd, Nat.reduceEqDiff, Nat.reduceLT, Nat.reduceLeDiff, Nat.reduceMul, Nat.reduceSub, reduceCtorEq, ↓reduceIte]
  refine walkG ?_
  refine VC.loop (ι := {i : Nat // 1 ≤ i ∧ i ≤ n}) (fun q => [(0, .c (.sl 1 (bytePV m))), (3, .c (.sl 1 (sizesL.map iPV))), (4, .c (.sl 1 (marksL.map iPV))), (5, .c (.v (.int .i64 (n : Int)))), (6, .c (.v (.int .i64 (cvS m n (q.1 - 1))))), (7, .c (.v (.int .i64 (q.1 : Int))))]) (fun _ => []) 4000 (fun q => n - q.1)
    ⟨1, Nat.le_refl _, hn1⟩ ?_ ?_
  · simp only [Weak, eq_self, used_is, sc_any, sc_c, sc_pp, sc_ref, sc_row, sc_agg, sc_fn, ScL, some_imp, List.forall_mem_map, go_sem, Int.reduceBEq, Int.reduceLE, Int.reduceLT, Int.reduceNeg, Nat.reduceAdd, Nat.reduceEqDiff, Nat.reduceLT, Nat.reduceLeDiff, Nat.reduceMul, Nat.reduceSub, reduceCtorEq, ↓reduceIte]
    try simp
  rintro ⟨i, hi1, hin⟩
  simp only []
  refine walkG ?_
  refine VC.cond (by rfl) (by trivial) (fun hc => ?_) (fun hc => ?_)
  · have hlt : i < n := by simp at hc; omega
    have hw : IntKind.i64.wrap ((i : Int) + 1) = (i : Int) + 1 := wrap64_id (by omega) (by omega)
    refine walkGF (hw) ?_
    refine VC.loop (ι := {q : Nat × Nat // i + 1 ≤ q.1 ∧ q.1 ≤ n ∧ q.2 = 64 ^ (q.1 - (i + 1))}) (fun q => [(0, .c (.sl 1 (bytePV m))), (3, .c (.sl 1 (sizesL.map iPV))), (4, .c (.sl 1 (marksL.map iPV))), (5, .c (.v (.int .i64 (n : Int)))), (6, .c (.v (.int .i64 (cvS m n (i - 1))))), (7, .c (.v (.int .i64 (i : Int)))), (8, .c (.v (.int .i64 (q.1.2 : Int)))), (9, .c (.v (.int .i64 (q.1.1 : Int))))]) (fun _ => []) 6000 (fun q => n - q.1.1)
      ⟨(i + 1, 1), Nat.le_refl _, hlt, by simp⟩ ?_ ?_
    · simp only [Weak, eq_self, used_is, sc_any, sc_c, sc_pp, sc_ref, sc_row, sc_agg, sc_fn, ScL, some_imp, List.forall_mem_map, go_sem, Int.reduceBEq, Int.reduceLE, Int.reduceLT, Int.reduceNeg, Nat.reduceAdd, Nat.reduceEqDiff, Nat.reduceLT, Nat.reduceLeDiff, Nat.reduceMul, Nat.reduceSub, reduceCtorEq, ↓reduceIte]
      try exact cI (by omega)
    rintro ⟨⟨k, p⟩, hk1, hk2, hp⟩
    simp only [] at hk1 hk2 hp ⊢
    have hpl : p ≤ 4096 := by
      rw [hp]
      calc 64 ^ (k - (i + 1)) ≤ 64 ^ 2 := Nat.pow_le_pow_right (by omega) (by omega)
        _ = 4096 := rfl
    refine walkG ?_
    refine VC.cond (by rfl) (by trivial) (fun hc2 => ?_) (fun hc2 => ?_)
    · have hlk : k < n := by simp at hc2; omega
      have hwk : IntKind.i64.wrap ((k : Int) + 1) = (k : Int) + 1 := wrap64_id (by omega) (by omega)
      have hwp : IntKind.i64.wrap ((p : Int) * 64) = (p : Int) * 64 := wrap64_id (by omega) (by omega)
      refine walkGF (And.intro hwk hwp) ?_
      refine .next ⟨(k + 1, p * 64), by simp only []; omega, by simp only []; omega, by simp only []; rw [hp, show k + 1 - (i + 1) = (k - (i + 1)) + 1 by omega, Nat.pow_succ]⟩ ?_ (by simp only []; omega)
      simp only [Weak, eq_self, used_is, sc_any, sc_c, sc_pp, sc_ref, sc_row, sc_agg, sc_fn, ScL, some_imp, List.forall_mem_map, go_sem, Int.reduceBEq, Int.reduceLE, Int.reduceLT, Int.reduceNeg, Nat.reduceAdd, Nat.reduceEqDiff, Nat.reduceLT, Nat.reduceLeDiff, Nat.reduceMul, Nat.reduceSub, reduceCtorEq, ↓reduceIte]
      exact ⟨cI (by omega), cI (by omega)⟩
    · have hke : k = n := by simp at hc2; omega
      subst hke
      have hpi := pv_at (l := m) (i := i) (by omega)
      have hbi : ((byteAt m i).toNat : Int) = (bN m i : Int) := rfl
      have hbil := bN_lt m i
      rw [hbi] at hpi
      have hwi : IntKind.i64.wrap (bN m i : Int) = (bN m i : Int) := wrap64_id (by omega) (by omega)
      have hw1 : IntKind.i64.wrap ((bN m i : Int) - 128) = (bN m i : Int) - 128 := wrap64_id (by omega) (by omega)
      have hcs : cvS m k i = cvS m k (i - 1) + ((bN m i : Int) - 128) * (p : Int) := by
        obtain ⟨j, rfl⟩ : ∃ j, i = j + 1 := ⟨i - 1, by omega⟩
        rw [cvS, hp, show j + 1 - 1 = j by omega, show k - 1 - (j + 1) = k - (j + 1 + 1) by omega]
      have hbd := cvS_le (l := m) hn1 (by omega) (i - 1) (by omega)
      have hbd2 := cvS_le (l := m) hn1 (by omega) i (by omega)
      rw [hcs] at hbd2
      have hw2 : IntKind.i64.wrap (((bN m i : Int) - 128) * (p : Int)) = ((bN m i : Int) - 128) * (p : Int) := wrap64_id (by omega) (by omega)
      have hw3 : IntKind.i64.wrap (cvS m k (i - 1) + ((bN m i : Int) - 128) * (p : Int)) = cvS m k (i - 1) + ((bN m i : Int) - 128) * (p : Int) := wrap64_id (by omega) (by omega)
      refine walkGF (And.intro hpi (And.intro hwi (And.intro hw1 (And.intro hw2 (And.intro hw3 hw))))) ?_
      refine .next ⟨i + 1, by omega, by omega⟩ ?_ (by simp only []; omega)
      simp only [hcs, Weak, eq_self, used_is, sc_any, sc_c, sc_pp, sc_ref, sc_row, sc_agg, sc_fn, ScL, some_imp, List.forall_mem_map, go_sem, Int.reduceBEq, Int.reduceLE, Int.reduceLT, Int.reduceNeg, Nat.reduceAdd, Nat.reduceEqDiff, Nat.reduceLT, Nat.reduceLeDiff, Nat.reduceMul, Nat.reduceSub, reduceCtorEq, ↓reduceIte]
      refine ⟨?_, cI (by omega)⟩
      rw [show i + 1 - 1 = i by omega, hcs]
  · have hie : i = n := by simp at hc; omega
    subst hie
    rw [cvS_end hn1 hn4.1]
    have hC := rchar_told (cvN m 0 i)
    by_cases hch : isChr (cvN m 0 i) = true
    rotate_left
    · have hch : isChr (cvN m 0 i) = false := by simpa using hch
      rw [hch] at hC
      have ht : wtest m 0 i = false := by rw [wtest, hch]; rfl
      have hw : IntKind.i64.wrap ((i : Int) + 1) = (i : Int) + 1 := wrap64_id (by omega) (by omega)
      refine walkG ?_
      refine walkC (hC) ?_
      refine walkBF (hw) ?_
      refine .next ⟨i + 1, by omega, by omega, notest hno ht⟩ ?_ (by simp only []; omega)
      simp only [Weak, eq_self, used_is, sc_any, sc_c, sc_pp, sc_ref, sc_row, sc_agg, sc_fn, ScL, some_imp, List.forall_mem_map, go_sem, Int.reduceBEq, Int.reduceLE, Int.reduceLT, Int.reduceNeg, Nat.reduceAdd, Nat.reduceEqDiff, Nat.reduceLT, Nat.reduceLeDiff, Nat.reduceMul, Nat.reduceSub, reduceCtorEq, ↓reduceIte]
      exact cI (by omega)
    · have hci := isChr_iff.1 hch
      rw [hch] at hC
      obtain ⟨c, hcc⟩ : ∃ c : Nat, cvN m 0 i = (c : Int) := ⟨(cvN m 0 i).toNat, by omega⟩
      have hw : IntKind.i64.wrap ((i : Int) + 1) = (i : Int) + 1 := wrap64_id (by omega) (by omega)
      have ht : wtest m 0 i = (((uenc c).length == i) && (uenc c).isPrefixOf m) := by rw [wtest, hch, hcc]; simp
      have hVn := fun h : wtest m 0 i = true => wtest_n (l := m) (p := 0) h
      rw [← hV, hcc] at hVn
      rw [hcc] at hC ⊢
      have hP := rput_told c (by omega)
      have hul := uenc_len c
      have hS := rstarts_told m (uenc c) hbig (by omega)
      have hpl : (bytePV (uenc c)).length = (uenc c).length := by simp [bytePV]
      obtain ⟨b, hb⟩ : ∃ b, b = (uenc c).isPrefixOf m := ⟨_, rfl⟩
      rw [← hb] at hS ht
      refine walkG ?_
      refine walkC (hC) ?_
      refine walkG ?_
      refine walkC (hP) ?_
      refine walkGF (hpl) ?_
      refine walkD (hP) ?_
      refine walkGF (hpl) ?_
      refine walkD (hS) ?_
      refine walkG ?_
      refine VC.cond (by rfl) (by trivial) (fun hc3 => ?_) (fun hc3 => ?_)
      · have ht1 : wtest m 0 i = true := by
          rw [ht]
          simp at hc3 ⊢
          exact ⟨by omega, hc3.2⟩
        obtain rfl : V = (c : Int) := hVn ht1
        refine walkG ?_
        refine ⟨by first | exact .inr rfl | exact .inl rfl, ?_⟩; rw [Tryz.results236]; simp only [resOk, resV, go_sem, simprocAttr]
        exact .c _
      · have ht1 : wtest m 0 i = false := by
          rw [ht]
          simp at hc3 ⊢
          intro h1
          exact hc3 (by omega)
        refine walkGF (hw) ?_
        refine .next ⟨i + 1, by omega, by omega, notest hno ht1⟩ ?_ (by simp only []; omega)
        simp only [Weak, eq_self, used_is, sc_any, sc_c, sc_pp, sc_ref, sc_row, sc_agg, sc_fn, ScL, some_imp, List.forall_mem_map, go_sem, Int.reduceBEq, Int.reduceLE, Int.reduceLT, Int.reduceNeg, Nat.reduceAdd, Nat.reduceEqDiff, Nat.reduceLT, Nat.reduceLeDiff, Nat.reduceMul, Nat.reduceSub, reduceCtorEq, ↓reduceIte]
        exact cI (by omega)
def begB (m : List UInt8) (j : Nat) : Bool := decide (0 ≤ wholeV (m ++ fillL j) 0) && decide (m.length < (uenc (wholeV (m ++ fillL j) 0).toNat).length)
set_option maxRecDepth 100000 in
set_option maxHeartbeats 3200000 in
theorem rbegun_told (m : List UInt8) (hbig : m.length ≤ 1000) : ∃ b, Told Tryz.prog 238 [.c (.sl 1 (bytePV m))] (.c (.v (.bool b))) := by
  have hlen : (bytePV m).length = m.length := by simp [bytePV]
  by_cases h0 : m.length = 0
  · refine ⟨true, ?_⟩
    have e0 : ((m.length : Int) == 0) = true := by rw [h0]; rfl
    refine VC.told ent_238 Tryz.func238 rfl Tryz.ntmps238 (by simp) (by first | rfl | simp [AV.pureB, AV.pureL, pureL_c, pures]) (by first | rfl | simp [AV.pureB, AV.pureL, pureL_c, pures]) fun hb => ?_
    clear hb
    refine walkBF (And.intro hlen e0) ?_
    refine ⟨by first | exact .inr rfl | exact .inl rfl, ?_⟩; rw [Tryz.results238]; simp only [resOk, resV, go_sem, simprocAttr]
    exact .c _
  have e0 : ((m.length : Int) == 0) = false := beq_eq_false_iff_ne.2 (by omega)
  obtain ⟨V, hV⟩ : ∃ V, V = (List.range 6).any (begB m) := ⟨_, rfl⟩
  refine ⟨V, ?_⟩
  refine VC.told ent_238 Tryz.func238 rfl Tryz.ntmps238 (by simp) (by first | rfl | simp [AV.pureB, AV.pureL, pureL_c, pures]) (by first | rfl | simp [AV.pureB, AV.pureL, pureL_c, pures]) fun hb => ?_
  clear hb
  refine walkBF (And.intro hlen e0) ?_
  refine VC.frz [32] [(0, .c (.sl 1 (bytePV m))), (3, .row 80 6), (4, .c (.v (.int .i64 0)))] [(40, ⟨true, 5, 1, [[.c (.v (.int .u8 191))], [.c (.v (.int .u8 191))], [.c (.v (.int .u8 191))]]⟩), (48, ⟨true, 5, 1, [[.c (.v (.int .u8 160))], [.c (.v (.int .u8 128))], [.c (.v (.int .u8 128))]]⟩), (56, ⟨true, 5, 1, [[.c (.v (.int .u8 144))], [.c (.v (.int .u8 128))], [.c (.v (.int .u8 128))]]⟩), (64, ⟨true, 5, 1, [[.c (.v (.int .u8 143))], [.c (.v (.int .u8 191))], [.c (.v (.int .u8 191))]]⟩), (72, ⟨true, 5, 1, [[.c (.v (.int .u8 159))], [.c (.v (.int .u8 191))], [.c (.v (.int .u8 191))]]⟩), (80, ⟨true, 40, 1, [[.c (.sl 1 (bytePV (fillL 0)))], [.row 40 3], [.row 48 3], [.row 56 3], [.row 64 3], [.row 72 3]]⟩)] 400 ?_ ?_
  · simp only [WeakF, used_is, sc_any, sc_c, sc_pp, sc_ref, sc_row, sc_agg, sc_fn, ScL, some_imp, List.forall_mem_map, go_sem, Int.reduceBEq, Int.reduceLE, Int.reduceLT, Int.reduceNeg, Nat.reduceAdd, Nat.reduceEqDiff, Nat.reduceLT, Nat.reduceLeDiff, Nat.reduceMul, Nat.reduceSub, reduceCtorEq, ↓reduceIte]
    exact ⟨⟨.same _, .same _, .same _⟩, .same _, .same _, .same _, .same _, .same _, .set (i := 0) (e' := [.c (.sl 1 (bytePV (fillL 0)))]) rfl (.cons (.row (B := ⟨true, 5, 1, [[.c (.v (.int .u8 128))], [.c (.v (.int .u8 128))], [.c (.v (.int .u8 128))]]⟩) (es := bytePV (fillL 0)) (by simp) rfl rfl rfl rfl) .nil) (by simp [AV.cellish])⟩
  refine VC.frz [40] [(0, .c (.sl 1 (bytePV m))), (3, .row 80 6), (4, .c (.v (.int .i64 0)))] [(48, ⟨true, 5, 1, [[.c (.v (.int .u8 160))], [.c (.v (.int .u8 128))], [.c (.v (.int .u8 128))]]⟩), (56, ⟨true, 5, 1, [[.c (.v (.int .u8 144))], [.c (.v (.int .u8 128))], [.c (.v (.int .u8 128))]]⟩), (64, ⟨true, 5, 1, [[.c (.v (.int .u8 143))], [.c (.v (.int .u8 191))], [.c (.v (.int .u8 191))]]⟩), (72, ⟨true, 5, 1, [[.c (.v (.int .u8 159))], [.c (.v (.int .u8 191))], [.c (.v (.int .u8 191))]]⟩), (80, ⟨true, 40, 1, [[.c (.sl 1 (bytePV (fillL 0)))], [.c (.sl 1 (bytePV (fillL 1)))], [.row 48 3], [.row 56 3], [.row 64 3], [.row 72 3]]⟩)] 400 ?_ ?_
  · simp only [WeakF, used_is, sc_any, sc_c, sc_pp, sc_ref, sc_row, sc_agg, sc_fn, ScL, some_imp, List.forall_mem_map, go_sem, Int.reduceBEq, Int.reduceLE, Int.reduceLT, Int.reduceNeg, Nat.reduceAdd, Nat.reduceEqDiff, Nat.reduceLT, Nat.reduceLeDiff, Nat.reduceMul, Nat.reduceSub, reduceCtorEq, ↓reduceIte]
    exact ⟨⟨.same _, .same _, .same _⟩, .same _, .same _, .same _, .same _, .set (i := 1) (e' := [.c (.sl 1 (bytePV (fillL 1)))]) rfl (.cons (.row (B := ⟨true, 5, 1, [[.c (.v (.int .u8 191))], [.c (.v (.int .u8 191))], [.c (.v (.int .u8 191))]]⟩) (es := bytePV (fillL 1)) (by simp) rfl rfl rfl rfl) .nil) (by simp [AV.cellish])⟩
  refine VC.frz [48] [(0, .c (.sl 1 (bytePV m))), (3, .row 80 6), (4, .c (.v (.int .i64 0)))] [(56, ⟨true, 5, 1, [[.c (.v (.int .u8 144))], [.c (.v (.int .u8 128))], [.c (.v (.int .u8 128))]]⟩), (64, ⟨true, 5, 1, [[.c (.v (.int .u8 143))], [.c (.v (.int .u8 191))], [.c (.v (.int .u8 191))]]⟩), (72, ⟨true, 5, 1, [[.c (.v (.int .u8 159))], [.c (.v (.int .u8 191))], [.c (.v (.int .u8 191))]]⟩), (80, ⟨true, 40, 1, [[.c (.sl 1 (bytePV (fillL 0)))], [.c (.sl 1 (bytePV (fillL 1)))], [.c (.sl 1 (bytePV (fillL 2)))], [.row 56 3], [.row 64 3], [.row 72 3]]⟩)] 400 ?_ ?_
  · simp only [WeakF, used_is, sc_any, sc_c, sc_pp, sc_ref, sc_row, sc_agg, sc_fn, ScL, some_imp, List.forall_mem_map, go_sem, Int.reduceBEq, Int.reduceLE, Int.reduceLT, Int.reduceNeg, Nat.reduceAdd, Nat.reduceEqDiff, Nat.reduceLT, Nat.reduceLeDiff, Nat.reduceMul, Nat.reduceSub, reduceCtorEq, ↓reduceIte]
    exact ⟨⟨.same _, .same _, .same _⟩, .same _, .same _, .same _, .set (i := 2) (e' := [.c (.sl 1 (bytePV (fillL 2)))]) rfl (.cons (.row (B := ⟨true, 5, 1, [[.c (.v (.int .u8 160))], [.c (.v (.int .u8 128))], [.c (.v (.int .u8 128))]]⟩) (es := bytePV (fillL 2)) (by simp) rfl rfl rfl rfl) .nil) (by simp [AV.cellish])⟩
  refine VC.frz [56] [(0, .c (.sl 1 (bytePV m))), (3, .row 80 6), (4, .c (.v (.int .i64 0)))] [(64, ⟨true, 5, 1, [[.c (.v (.int .u8 143))], [.c (.v (.int .u8 191))], [.c (.v (.int .u8 191))]]⟩), (72, ⟨true, 5, 1, [[.c (.v (.int .u8 159))], [.c (.v (.int .u8 191))], [.c (.v (.int .u8 191))]]⟩), (80, ⟨true, 40, 1, [[.c (.sl 1 (bytePV (fillL 0)))], [.c (.sl 1 (bytePV (fillL 1)))], [.c (.sl 1 (bytePV (fillL 2)))], [.c (.sl 1 (bytePV (fillL 3)))], [.row 64 3], [.row 72 3]]⟩)] 400 ?_ ?_
  · simp only [WeakF, used_is, sc_any, sc_c, sc_pp, sc_ref, sc_row, sc_agg, sc_fn, ScL, some_imp, List.forall_mem_map, go_sem, Int.reduceBEq, Int.reduceLE, Int.reduceLT, Int.reduceNeg, Nat.reduceAdd, Nat.reduceEqDiff, Nat.reduceLT, Nat.reduceLeDiff, Nat.reduceMul, Nat.reduceSub, reduceCtorEq, ↓reduceIte]
    exact ⟨⟨.same _, .same _, .same _⟩, .same _, .same _, .set (i := 3) (e' := [.c (.sl 1 (bytePV (fillL 3)))]) rfl (.cons (.row (B := ⟨true, 5, 1, [[.c (.v (.int .u8 144))], [.c (.v (.int .u8 128))], [.c (.v (.int .u8 128))]]⟩) (es := bytePV (fillL 3)) (by simp) rfl rfl rfl rfl) .nil) (by simp [AV.cellish])⟩
  refine VC.frz [64] [(0, .c (.sl 1 (bytePV m))), (3, .row 80 6), (4, .c (.v (.int .i64 0)))] [(72, ⟨true, 5, 1, [[.c (.v (.int .u8 159))], [.c (.v (.int .u8 191))], [.c (.v (.int .u8 191))]]⟩), (80, ⟨true, 40, 1, [[.c (.sl 1 (bytePV (fillL 0)))], [.c (.sl 1 (bytePV (fillL 1)))], [.c (.sl 1 (bytePV (fillL 2)))], [.c (.sl 1 (bytePV (fillL 3)))], [.c (.sl 1 (bytePV (fillL 4)))], [.row 72 3]]⟩)] 400 ?_ ?_
  · simp only [WeakF, used_is, sc_any, sc_c, sc_pp, sc_ref, sc_row, sc_agg, sc_fn, ScL, some_imp, List.forall_mem_map, go_sem, Int.reduceBEq, Int.reduceLE, Int.reduceLT, Int.reduceNeg, Nat.reduceAdd, Nat.reduceEqDiff, Nat.reduceLT, Nat.reduceLeDiff, Nat.reduceMul, Nat.reduceSub, reduceCtorEq, ↓reduceIte]
    exact ⟨⟨.same _, .same _, .same _⟩, .same _, .set (i := 4) (e' := [.c (.sl 1 (bytePV (fillL 4)))]) rfl (.cons (.row (B := ⟨true, 5, 1, [[.c (.v (.int .u8 143))], [.c (.v (.int .u8 191))], [.c (.v (.int .u8 191))]]⟩) (es := bytePV (fillL 4)) (by simp) rfl rfl rfl rfl) .nil) (by simp [AV.cellish])⟩
  refine VC.frz [72] [(0, .c (.sl 1 (bytePV m))), (3, .row 80 6), (4, .c (.v (.int .i64 0)))] [(80, ⟨true, 40, 1, [[.c (.sl 1 (bytePV (fillL 0)))], [.c (.sl 1 (bytePV (fillL 1)))], [.c (.sl 1 (bytePV (fillL 2)))], [.c (.sl 1 (bytePV (fillL 3)))], [.c (.sl 1 (bytePV (fillL 4)))], [.c (.sl 1 (bytePV (fillL 5)))]]⟩)] 400 ?_ ?_
  · simp only [WeakF, used_is, sc_any, sc_c, sc_pp, sc_ref, sc_row, sc_agg, sc_fn, ScL, some_imp, List.forall_mem_map, go_sem, Int.reduceBEq, Int.reduceLE, Int.reduceLT, Int.reduceNeg, Nat.reduceAdd, Nat.reduceEqDiff, Nat.reduceLT, Nat.reduceLeDiff, Nat.reduceMul, Nat.reduceSub, reduceCtorEq, ↓reduceIte]
    exact ⟨⟨.same _, .same _, .same _⟩, .set (i := 5) (e' := [.c (.sl 1 (bytePV (fillL 5)))]) rfl (.cons (.row (B := ⟨true, 5, 1, [[.c (.v (.int .u8 159))], [.c (.v (.int .u8 191))], [.c (.v (.int .u8 191))]]⟩) (es := bytePV (fillL 5)) (by simp) rfl rfl rfl rfl) .nil) (by simp [AV.cellish])⟩
  refine VC.frz [80] [(0, .c (.sl 1 (bytePV m))), (3, .c (.sl 1 ((List.range 6).map fun j => [PV.sl 1 (bytePV (fillL j))]))), (4, .c (.v (.int .i64 0)))] [] 400 ?_ ?_
  · simp only [WeakF, used_is, sc_any, sc_c, sc_pp, sc_ref, sc_row, sc_agg, sc_fn, ScL, some_imp, List.forall_mem_map, go_sem, Int.reduceBEq, Int.reduceLE, Int.reduceLT, Int.reduceNeg, Nat.reduceAdd, Nat.reduceEqDiff, Nat.reduceLT, Nat.reduceLeDiff, Nat.reduceMul, Nat.reduceSub, reduceCtorEq, ↓reduceIte]
    exact ⟨.same _, .row (B := ⟨true, 40, 1, [[.c (.sl 1 (bytePV (fillL 0)))], [.c (.sl 1 (bytePV (fillL 1)))], [.c (.sl 1 (bytePV (fillL 2)))], [.c (.sl 1 (bytePV (fillL 3)))], [.c (.sl 1 (bytePV (fillL 4)))], [.c (.sl 1 (bytePV (fillL 5)))]]⟩) (es := (List.range 6).map fun j => [PV.sl 1 (bytePV (fillL j))]) (by simp) rfl rfl rfl rfl, .same _⟩
  have hFx : ∀ i, i < 6 → ((List.range 6).map fun j => [PV.sl 1 (bytePV (fillL j))])[i]? = some [PV.sl 1 (bytePV (fillL i))] := fun i hlt => by rw [List.getElem?_map, List.getElem?_range hlt]; rfl
  have hrl : ((List.range 6).map fun j => [PV.sl 1 (bytePV (fillL j))]).length = 6 := rfl
  generalize ((List.range 6).map fun j => [PV.sl 1 (bytePV (fillL j))]) = F at hFx hrl ⊢
  refine VC.loop (ι := {i : Nat // i ≤ 6 ∧ ∀ j, j < i → begB m j = false}) (fun q => [(0, .c (.sl 1 (bytePV m))), (3, .c (.sl 1 F)), (4, .c (.v (.int .i64 (q.1 : Int))))]) (fun _ => []) 800 (fun q => 6 - q.1)
    ⟨0, by omega, fun j h => by omega⟩ ?_ ?_
  · simp only [Weak, eq_self, used_is, sc_any, sc_c, sc_pp, sc_ref, sc_row, sc_agg, sc_fn, ScL, some_imp, List.forall_mem_map, go_sem, Int.reduceBEq, Int.reduceLE, Int.reduceLT, Int.reduceNeg, Nat.reduceAdd, Nat.reduceEqDiff, Nat.reduceLT, Nat.reduceLeDiff, Nat.reduceMul, Nat.reduceSub, reduceCtorEq, ↓reduceIte]
  rintro ⟨i, hi, hno⟩
  simp only []
  refine walkGF (hrl) ?_
  refine VC.cond (by rfl) (by trivial) (fun hc => ?_) (fun hc => ?_)
  · have hlt : i < 6 := by simp at hc; omega
    have hw : IntKind.i64.wrap ((i : Int) + 1) = (i : Int) + 1 := wrap64_id (by omega) (by omega)
    have hx : F[i]? = some [PV.sl 1 (bytePV (fillL i))] := hFx i hlt
    have hfl : (bytePV (fillL i)).length = 3 := by simp [bytePV, fillL_len]
    have hW := rwhole_told (m ++ fillL i) (by simp [fillL_len]; omega)
    have hB : begB m i = (decide (0 ≤ wholeV (m ++ fillL i) 0) && decide (m.length < (uenc (wholeV (m ++ fillL i) 0).toNat).length)) := rfl
    have hch := fun h : 0 ≤ wholeV (m ++ fillL i) 0 => isChr_iff.1 (wholeV_len h).2.1
    obtain ⟨z, hz⟩ : ∃ z, z = wholeV (m ++ fillL i) 0 := ⟨_, rfl⟩
    rw [← hz] at hW hB hch
    (repeat (first | refine pass ?_ | refine VC.region (by rfl) (by rfl) ?_ | (refine AO.step fun K hK => ?_; simp only [hrl, hx, hfl, hlen, List.length_map, List.length_append, go_sem, Int.reduceBEq, Int.reduceLE, Int.reduceLT, Int.reduceNeg, Nat.reduceAdd, Nat.reduceEqDiff, Nat.reduceLT, Nat.reduceLeDiff, Nat.reduceMul, Nat.reduceSub, reduceCtorEq, ↓reduceIte]; (first | refine gsel_skip ?_ | refine gsel_go ?_ | skip); (first | refine hK _ _ _ ?_ | refine ⟨by first | omega | exact ⟨_, rfl, rfl⟩ | exact fun _ => ⟨_, rfl, rfl⟩ | (intro h; simp only [hrl, hx, hfl, hlen, List.length_map, List.length_append, h, true_and]; omega) | (clear hK; intro h; simp_all <;> omega), hK _ _ _ ?_⟩); clear hK K) | refine VC.draw mixP (by rfl) (by rfl) ?_ | refine ⟨okd_of (by kernel_rfl), ?_⟩ | refine BQ.other (by decide) ?_ | refine VC.seq ?_ | refine AO.nil ?_ | refine VC.block ?_))
    (refine AO.step fun K hK => ?_; simp only [go_sem, Int.reduceBEq, Int.reduceLE, Int.reduceLT, Int.reduceNeg, Nat.reduceAdd, Nat.reduceEqDiff, Nat.reduceLT, Nat.reduceLeDiff, Nat.reduceMul, Nat.reduceSub, reduceCtorEq, ↓reduceIte]; (first | refine gsel_go ?_ | skip))
    refine .inr (.inl ⟨.c (.v (.int .i64 z)), [.c (.sl 1 (bytePV (m ++ fillL i)))], [832], ⟨by simp [AV.pureL, AV.pureB], rfl, fun k x z h5 h6 => ?_, rfl, hW⟩, hK _ _ _ ?_⟩)
    · match k with
      | 0 =>
        obtain rfl := Option.some.inj h5
        obtain rfl := Option.some.inj h6
        exact View.row (B := ⟨true, 5, 1, (bytePV m).map (fun e => e.map AV.c) ++ (bytePV (fillL i)).map fun e => e.map AV.c⟩) (es := bytePV (m ++ fillL i)) rfl rfl (by simp [Blkd.len, bytePV, fillL_len]) (by simp [bytePV])
      | k + 1 => simp at h5
    clear hK K
    by_cases hz0 : 0 ≤ z
    · obtain ⟨c, rfl⟩ : ∃ c : Nat, z = (c : Int) := ⟨z.toNat, by omega⟩
      have hP := rput_told c (by have := hch hz0; omega)
      have e1 : decide ((c : Int) ≥ 0) = true := by simp
      have hul : (bytePV (uenc c)).length = (uenc c).length := by simp [bytePV]
      rw [Int.toNat_natCast] at hB
      refine walkGF (e1) ?_
      refine walkC (hP) ?_
      refine walkGF (And.intro hul hlen) ?_
      refine VC.cond (by rfl) (by trivial) (fun hc2 => ?_) (fun hc2 => ?_)
      · have hf : V = true := by
          have : begB m i = true := by rw [hB]; simp at hc2 ⊢; omega
          rw [hV, List.any_eq_true]
          exact ⟨i, List.mem_range.2 hlt, this⟩
        subst hf
        refine walkG ?_
        refine ⟨by first | exact .inr rfl | exact .inl rfl, ?_⟩; rw [Tryz.results238]; simp only [resOk, resV, go_sem, simprocAttr]
        exact .c _
      · have : begB m i = false := by rw [hB]; simp at hc2 ⊢; omega
        refine walkGF (hw) ?_
        refine .next ⟨i + 1, by omega, fun j hj => ?_⟩ ?_ (by simp only []; omega)
        · by_cases hji : j < i
          · exact hno j hji
          · obtain rfl : j = i := by omega
            exact this
        simp only [Weak, eq_self, used_is, sc_any, sc_c, sc_pp, sc_ref, sc_row, sc_agg, sc_fn, ScL, some_imp, List.forall_mem_map, go_sem, Int.reduceBEq, Int.reduceLE, Int.reduceLT, Int.reduceNeg, Nat.reduceAdd, Nat.reduceEqDiff, Nat.reduceLT, Nat.reduceLeDiff, Nat.reduceMul, Nat.reduceSub, reduceCtorEq, ↓reduceIte]
        exact cI (by omega)
    · have e1 : decide (z ≥ 0) = false := by simp; omega
      have : begB m i = false := by rw [hB]; simp; omega
      refine walkBF (And.intro e1 hw) ?_
      refine .next ⟨i + 1, by omega, fun j hj => ?_⟩ ?_ (by simp only []; omega)
      · by_cases hji : j < i
        · exact hno j hji
        · obtain rfl : j = i := by omega
          exact this
      simp only [Weak, eq_self, used_is, sc_any, sc_c, sc_pp, sc_ref, sc_row, sc_agg, sc_fn, ScL, some_imp, List.forall_mem_map, go_sem, Int.reduceBEq, Int.reduceLE, Int.reduceLT, Int.reduceNeg, Nat.reduceAdd, Nat.reduceEqDiff, Nat.reduceLT, Nat.reduceLeDiff, Nat.reduceMul, Nat.reduceSub, reduceCtorEq, ↓reduceIte]
      exact cI (by omega)
  · have hf : V = false := by
      rw [hV, List.any_eq_false]
      intro j hj
      have := List.mem_range.1 hj
      rw [hno j (by simp at hc; omega)]
      simp
    subst hf
    refine walkG ?_
    refine ⟨by first | exact .inr rfl | exact .inl rfl, ?_⟩; rw [Tryz.results238]; simp only [resOk, resV, go_sem, simprocAttr]
    exact .c _
set_option maxRecDepth 100000 in
set_option maxHeartbeats 1600000 in
theorem rtake3_told (l : List UInt8) (p : Nat) (hp : p ≤ l.length) (hbig : l.length ≤ 1000000) : ∃ v nx e : Int, Told Tryz.prog 191 [.c (.sl 1 (bytePV l)), .c (.v (.int .i64 (p : Int)))] (.tup [.c (.v (.int .i64 v)), .c (.v (.int .i64 nx)), .c (.v (.int .i64 e))]) ∧
    (uerr l p = 0 → e = 0 ∧ nx = (p : Int) + (ulen l p : Int)) ∧ (uerr l p ≠ 0 → e ≠ 0) := by
  have hlen : (bytePV l).length = l.length := by simp [bytePV]
  have hdr : ((bytePV l).take l.length).drop p = bytePV (l.drop p) := by rw [← hlen, List.take_length]; simp [bytePV, List.map_drop]
  have hW := rwhole_told (l.drop p) (by simp; omega)
  rw [wholeV_drop] at hW
  have e1 : decide ((p : Int) < 0) = false := by simp
  have e2 : decide ((p : Int) > (l.length : Int)) = false := by simp; omega
  obtain ⟨z, hz⟩ : ∃ z, z = wholeV l p := ⟨_, rfl⟩
  rw [← hz] at hW
  have hdl : (bytePV (l.drop p)).length = l.length - p := by simp [bytePV]
  by_cases hz0 : 0 ≤ z
  · obtain ⟨u1, u2, u3⟩ := wholeV_len (l := l) (p := p) (by omega)
    have hci := isChr_iff.1 u2
    obtain ⟨c, rfl⟩ : ∃ c : Nat, z = (c : Int) := ⟨z.toNat, by omega⟩
    rw [← hz] at u2 u3 hci
    rw [Int.toNat_natCast] at u3
    have hP := rput_told c (by omega)
    have e3 : decide ((c : Int) ≥ 0) = true := by simp
    have hul : (bytePV (uenc c)).length = (uenc c).length := by simp [bytePV]
    have hlb := uenc_len c
    have hw : IntKind.i64.wrap ((p : Int) + ((uenc c).length : Int)) = (p : Int) + ((uenc c).length : Int) := wrap64_id (by omega) (by omega)
    refine ⟨(c : Int), (p : Int) + ((uenc c).length : Int), 0, ?_, fun _ => ⟨rfl, by rw [u3]⟩, fun h => absurd u1 h⟩
    refine VC.told ent_191 Tryz.func191 rfl Tryz.ntmps191 (by simp) (by first | rfl | simp [AV.pureB, AV.pureL, pureL_c, pures]) (by first | rfl | simp [AV.pureB, AV.pureL, pureL_c, pures]) fun hb => ?_
    clear hb
    refine walkBF (And.intro hlen (And.intro e1 (And.intro e2 hdr))) ?_
    refine walkC (hW) ?_
    refine walkBF (e3) ?_
    refine walkC (hP) ?_
    refine walkGF (And.intro hul hw) ?_
    refine ⟨by first | exact .inr rfl | exact .inl rfl, ?_⟩; rw [Tryz.results191]; simp only [resOk, resV, go_sem, simprocAttr]
    exact ⟨.c _, .c _, .c _⟩
  · have hu : uerr l p ≠ 0 := by
      intro h
      have hf := uerr_form h
      have := wtest_n (form_test hf)
      have h2 := (isChr_iff (c := cvN l p (ulen l p))).1 (by
        have ht := form_test hf
        unfold wtest at ht
        simp only [Bool.and_eq_true] at ht
        exact ht.1)
      omega
    have e3 : decide (z ≥ 0) = false := by simp; omega
    have hws : IntKind.i64.wrap ((l.length : Int) - (p : Int)) = (l.length : Int) - (p : Int) := wrap64_id (by omega) (by omega)
    by_cases h4 : l.length - p < 4
    · have e4 : decide ((l.length : Int) - (p : Int) < 4) = true := by simp; omega
      obtain ⟨b, hB⟩ := rbegun_told (l.drop p) (by simp; omega)
      cases b with
      | true =>
        refine ⟨0, (p : Int), 10, ?_, fun h => absurd h hu, fun _ => by decide⟩
        refine VC.told ent_191 Tryz.func191 rfl Tryz.ntmps191 (by simp) (by first | rfl | simp [AV.pureB, AV.pureL, pureL_c, pures]) (by first | rfl | simp [AV.pureB, AV.pureL, pureL_c, pures]) fun hb => ?_
        clear hb
        refine walkBF (And.intro hlen (And.intro e1 (And.intro e2 hdr))) ?_
        refine walkC (hW) ?_
        refine walkBF (And.intro e3 (And.intro hws (And.intro e4 (And.intro hlen hdr)))) ?_
        refine walkC (hB) ?_
        refine walkB ?_
        refine ⟨by first | exact .inr rfl | exact .inl rfl, ?_⟩; rw [Tryz.results191]; simp only [resOk, resV, go_sem, simprocAttr]
        exact ⟨.c _, .c _, .c _⟩
      | false =>
        refine ⟨0, (p : Int), 11, ?_, fun h => absurd h hu, fun _ => by decide⟩
        refine VC.told ent_191 Tryz.func191 rfl Tryz.ntmps191 (by simp) (by first | rfl | simp [AV.pureB, AV.pureL, pureL_c, pures]) (by first | rfl | simp [AV.pureB, AV.pureL, pureL_c, pures]) fun hb => ?_
        clear hb
        refine walkBF (And.intro hlen (And.intro e1 (And.intro e2 hdr))) ?_
        refine walkC (hW) ?_
        refine walkBF (And.intro e3 (And.intro hws (And.intro e4 (And.intro hlen hdr)))) ?_
        refine walkC (hB) ?_
        refine walkB ?_
        refine ⟨by first | exact .inr rfl | exact .inl rfl, ?_⟩; rw [Tryz.results191]; simp only [resOk, resV, go_sem, simprocAttr]
        exact ⟨.c _, .c _, .c _⟩
    · have e4 : decide ((l.length : Int) - (p : Int) < 4) = false := by simp; omega
      refine ⟨0, (p : Int), 11, ?_, fun h => absurd h hu, fun _ => by decide⟩
      refine VC.told ent_191 Tryz.func191 rfl Tryz.ntmps191 (by simp) (by first | rfl | simp [AV.pureB, AV.pureL, pureL_c, pures]) (by first | rfl | simp [AV.pureB, AV.pureL, pureL_c, pures]) fun hb => ?_
      clear hb
      refine walkBF (And.intro hlen (And.intro e1 (And.intro e2 hdr))) ?_
      refine walkC (hW) ?_
      refine walkBF (And.intro e3 (And.intro hws (And.intro e4 hlen))) ?_
      refine ⟨by first | exact .inr rfl | exact .inl rfl, ?_⟩; rw [Tryz.results191]; simp only [resOk, resV, go_sem, simprocAttr]
      exact ⟨.c _, .c _, .c _⟩
set_option maxRecDepth 100000 in
set_option maxHeartbeats 1600000 in
theorem rcount3_told (l : List UInt8) (hbig : l.length ≤ 1000000) : ∃ z : Int, Told Tryz.prog 235 [.c (.sl 1 (bytePV l))] (.c (.v (.int .i64 z))) ∧ (decide (z ≥ 0) = isRight l) := by
  have hlen : (bytePV l).length = l.length := by simp [bytePV]
  refine ⟨if (uCnt l 0 0).2 = 0 then ((uCnt l 0 0).1 : Int) else -1, ?_, ?_⟩
  rotate_left
  · unfold isRight
    split
    · simp_all
    · simp_all
  obtain ⟨V, hV⟩ : ∃ V, V = uCnt l 0 0 := ⟨_, rfl⟩
  rw [← hV]
  refine VC.told ent_235 Tryz.func235 rfl Tryz.ntmps235 (by simp) (by first | rfl | simp [AV.pureB, AV.pureL, pureL_c, pures]) (by first | rfl | simp [AV.pureB, AV.pureL, pureL_c, pures]) fun hb => ?_
  clear hb
  refine walkG ?_
  refine VC.loop (ι := {q : Nat × Nat // q.1 ≤ l.length ∧ q.2 ≤ q.1 ∧ uCnt l q.1 q.2 = V}) (fun q => [(0, .c (.sl 1 (bytePV l))), (3, .c (.v (.int .i64 (q.1.2 : Int)))), (4, .c (.v (.int .i64 (q.1.1 : Int))))]) (fun _ => []) 800 (fun q => l.length - q.1.1)
    ⟨(0, 0), Nat.zero_le _, Nat.le_refl _, hV.symm⟩ ?_ ?_
  · simp only [Weak, eq_self, used_is, sc_any, sc_c, sc_pp, sc_ref, sc_row, sc_agg, sc_fn, ScL, some_imp, List.forall_mem_map, go_sem, Int.reduceBEq, Int.reduceLE, Int.reduceLT, Int.reduceNeg, Nat.reduceAdd, Nat.reduceEqDiff, Nat.reduceLT, Nat.reduceLeDiff, Nat.reduceMul, Nat.reduceSub, reduceCtorEq, ↓reduceIte]
  rintro ⟨⟨p, k⟩, hp, hk, hu⟩
  simp only [] at hp hk hu ⊢
  refine walkGF (hlen) ?_
  refine VC.cond (by rfl) (by trivial) (fun hc => ?_) (fun hc => ?_)
  · have hlt : p < l.length := by simp at hc; omega
    obtain ⟨v, nx, e, hT, h1, h2⟩ := rtake3_told l p hp hbig
    by_cases he : uerr l p = 0
    · obtain ⟨rfl, rfl⟩ := h1 he
      have hub := ulen_bound he
      have hw : IntKind.i64.wrap ((k : Int) + 1) = (k : Int) + 1 := wrap64_id (by omega) (by omega)
      rw [uCnt_next hlt he] at hu
      refine walkG ?_
      refine walkC (hT) ?_
      refine walkBF (hw) ?_
      refine .next ⟨(p + ulen l p, k + 1), hub.2, by simp only []; omega, hu⟩ ?_ (by simp only []; omega)
      simp only [Weak, eq_self, used_is, sc_any, sc_c, sc_pp, sc_ref, sc_row, sc_agg, sc_fn, ScL, some_imp, List.forall_mem_map, go_sem, Int.reduceBEq, Int.reduceLE, Int.reduceLT, Int.reduceNeg, Nat.reduceAdd, Nat.reduceEqDiff, Nat.reduceLT, Nat.reduceLeDiff, Nat.reduceMul, Nat.reduceSub, reduceCtorEq, ↓reduceIte]
      exact ⟨cI (by omega), cI (by omega)⟩
    · have hne := h2 he
      rw [uCnt_bad hlt he] at hu
      subst hu
      have e5 : (e != 0) = true := by simpa using hne
      refine walkG ?_
      refine walkC (hT) ?_
      refine walkBF (e5) ?_
      refine ⟨by first | exact .inr rfl | exact .inl rfl, ?_⟩; rw [Tryz.results235]; simp only [resOk, resV, go_sem, simprocAttr]
      exact .c _
  · have hpe : p = l.length := by simp at hc; omega
    rw [uCnt_end (by omega)] at hu
    subst hu
    refine walkG ?_
    refine ⟨by first | exact .inr rfl | exact .inl rfl, ?_⟩; rw [Tryz.results235]; simp only [resOk, resV, go_sem, simprocAttr]
    exact .c _
section
section
variable {P : Program} {N : Nat} {Q : Exit → ASt → Prop}
inductive GQ (Q : Exit → ASt → Prop) : Exit → ASt → Prop
  | normal {σ : ASt} (h : Q .normal σ) : GQ Q .normal σ
  | ret {σ : ASt} (h : Q .ret σ) : GQ Q .ret σ
  | exit {σ : ASt} {id : Nat} (h : Q (.exit id) σ) : GQ Q (.exit id) σ
theorem VC.scope {σ : ASt} {c : Code} (h : VC P N c σ (GQ Q)) : VC P N (.scope c) σ Q := ⟨fun C a W r => by
  refine wp_scope_straight (wp_mono (h.out C a W r) ?_)
  rintro e a' W' ⟨σ', hq, hr⟩
  cases hq with
  | normal h => exact ⟨σ', h, hr⟩
  | ret h => exact ⟨σ', h, hr⟩
  | exit h => exact ⟨σ', h, hr⟩⟩
theorem VC.label {σ : ASt} {l : Nat} (h : Q .normal σ) : VC P N (.label l) σ Q := ⟨fun C a W r => wp_label ⟨σ, h, r⟩⟩
instance p17 {c : Code} {σ : ASt} : Pass (VC P N (.scope c) σ Q) (VC P N c σ (GQ Q)) := ⟨VC.scope⟩
instance p18 {l : Nat} {σ : ASt} : Pass (VC P N (.label l) σ Q) (Q .normal σ) := ⟨VC.label⟩
instance p19 {σ : ASt} : Pass (GQ Q .normal σ) (Q .normal σ) := ⟨.normal⟩
instance p20 {σ : ASt} : Pass (GQ Q .ret σ) (Q .ret σ) := ⟨.ret⟩
instance p21 {σ : ASt} {id : Nat} : Pass (GQ Q (.exit id) σ) (Q (.exit id) σ) := ⟨.exit⟩
end
end

inductive VT where
  | mk (k : Int) (n : Int) (b : Int) (s : List UInt8) (xs : List VT) (ks : List (List UInt8))
mutual
def VT.cells : VT → List PV
  | .mk k n b s xs ks => [.v (.int .i64 k), .v (.int .i64 n), .v (.int .u64 b), .sl 1 (bytePV s), .sl 6 (VT.cellsL xs), .sl 1 (ks.map sPV)]
def VT.cellsL : List VT → List (List PV)
  | [] => []
  | x :: xs => x.cells :: VT.cellsL xs
end
theorem vcellsL_map : ∀ (xs : List VT), VT.cellsL xs = xs.map VT.cells
  | [] => by simp [VT.cellsL]
  | x :: xs => by simp [VT.cellsL, vcellsL_map xs]
def VT.av (v : VT) : AV := .agg (v.cells.map .c)
theorem VT.av_eq (v : VT) : v.av = .agg (v.cells.map .c) := rfl
theorem vcells_mk (k n b : Int) (s : List UInt8) (xs : List VT) (ks : List (List UInt8)) : (VT.mk k n b s xs ks).cells = [.v (.int .i64 k), .v (.int .i64 n), .v (.int .u64 b), .sl 1 (bytePV s), .sl 6 (xs.map VT.cells), .sl 1 (ks.map sPV)] := by simp [VT.cells, vcellsL_map]
theorem len_vcells (v : VT) : v.cells.length = 6 := by cases v; simp [VT.cells]
theorem take_vcells (v : VT) : v.cells.take 6 = v.cells := List.take_of_length_le (by rw [len_vcells]; exact Nat.le_refl _)
theorem take_vcellsC (v : VT) : (v.cells.map AV.c).take 6 = v.cells.map .c := List.take_of_length_le (by rw [List.length_map, len_vcells]; exact Nat.le_refl _)
mutual
def VT.sm (N : Nat) : VT → Prop
  | .mk k n b s xs ks => (0 ≤ b ∧ b < 18446744073709551616) ∧ s.length ≤ N ∧ ks.length ≤ N ∧ (∀ y ∈ ks, y.length ≤ N) ∧ xs.length ≤ N ∧ VT.smL N xs
def VT.smL (N : Nat) : List VT → Prop
  | [] => True
  | x :: xs => x.sm N ∧ VT.smL N xs
end
theorem vsmL_mem {N : Nat} : ∀ {xs : List VT}, VT.smL N xs → ∀ x ∈ xs, x.sm N
  | x :: xs, h, y, hy => by
    rcases List.mem_cons.1 hy with rfl | hy
    · exact h.1
    · exact vsmL_mem h.2 y hy
mutual
theorem vsm_le {N M : Nat} (h : N ≤ M) : ∀ v : VT, v.sm N → v.sm M
  | .mk k n b s xs ks => fun ⟨h0, h1, h2, h3, h4, h5⟩ => ⟨h0, by omega, by omega, fun y hy => Nat.le_trans (h3 y hy) h, by omega, vsmL_le h xs h5⟩
theorem vsmL_le {N M : Nat} (h : N ≤ M) : ∀ xs : List VT, VT.smL N xs → VT.smL M xs
  | [] => fun _ => trivial
  | x :: xs => fun ⟨h1, h2⟩ => ⟨vsm_le h x h1, vsmL_le h xs h2⟩
end
mutual
def VT.inr : VT → Prop
  | .mk k n b s xs ks => (0 ≤ b ∧ b < 18446744073709551616) ∧ VT.inrL xs
def VT.inrL : List VT → Prop
  | [] => True
  | x :: xs => x.inr ∧ VT.inrL xs
end
/-! Which values are ones of a node. -/
def VT.kind : VT → Int | .mk k _ _ _ _ _ => k
def VT.int : VT → Int | .mk _ n _ _ _ _ => n
def VT.items : VT → List VT | .mk _ _ _ _ xs _ => xs
def vbare (k n b : Int) (s : List UInt8) (m : Nat) (ks : List (List UInt8)) : Bool :=
  ((k == 2 || k == 3 || k == 4 || k == 10 || k == 13) || n == 0) && (((k == 5 || k == 6) || b == 0) && (((k == 7 || k == 8 || k == 14) || s.isEmpty) && (((k == 9 || k == 11 || k == 12 || k == 13) || m == 0) && (k == 12 || ks.isEmpty))))
def keyM (y : List UInt8) : Bool := decide (y.length ≤ 20000) && isRight y
def headM (nd : NT) (k n b : Int) (s : List UInt8) (m : Nat) (ks : List (List UInt8)) : Bool :=
  (k == nd.kind && (vbare k n b s m ks && decide (s.length ≤ 20000))) && (
    if k = 2 then n == 0 || n == 1 else if k = 3 then decide (-2147483648 ≤ n) && decide (n ≤ 2147483647) else if k = 5 then decide (b < 4294967296) else if k = 8 then isRight s
    else if k = 14 then (s.length : Int) == nd.size else if k = 10 then decide (0 ≤ n) && decide (n < (nd.symbols.length : Int)) else if k = 9 then m == nd.fields.length && decide (m ≤ 300)
    else if k = 12 then (ks.length == m && ks.all keyM) && decide (m ≤ 300) else if k = 11 then decide (m ≤ 300) else if k = 13 then decide (0 ≤ n) && (decide (n < (nd.branches.length : Int)) && m == 1) else true)
def typeAt (nd : NT) (i : Nat) : Int := match nd.fields[i]? with | some f => f.type | none => -1
def branchAt (nd : NT) (i : Int) : Int := match nd.branches[i.toNat]? with | some k => k | none => -1
def itemAt (nd : NT) (n : Int) (i : Nat) : Int := if nd.kind = 9 then typeAt nd i else if nd.kind = 13 then branchAt nd n else nd.items
mutual
def isM (ns : List NT) : Int → VT → Bool
  | a, .mk k n b s xs ks => match ns[a.toNat]? with | none => false | some nd => headM nd k n b s xs.length ks && eachM ns (itemAt nd n) xs
def eachM (ns : List NT) : (Nat → Int) → List VT → Bool
  | _, [] => true
  | f, x :: xs => isM ns (f 0) x && eachM ns (fun i => f (i + 1)) xs
end
theorem eachM_iff (ns : List NT) : ∀ (f : Nat → Int) (xs : List VT), eachM ns f xs = true ↔ ∀ (i : Nat) (x : VT), xs[i]? = some x → isM ns (f i) x = true
  | f, [] => by simp [eachM]
  | f, x :: xs => by
    rw [eachM, Bool.and_eq_true, eachM_iff ns _ xs]
    constructor
    · rintro ⟨h1, h2⟩ i y hy
      match i with
      | 0 => obtain rfl := Option.some.inj hy; exact h1
      | i + 1 => exact h2 i y hy
    · intro h
      exact ⟨h 0 x rfl, fun i y hy => h (i + 1) y hy⟩
theorem isM_eq {ns : List NT} {a : Int} {nd : NT} (h : ns[a.toNat]? = some nd) (k n b : Int) (s : List UInt8) (xs : List VT) (ks : List (List UInt8)) : isM ns a (.mk k n b s xs ks) = (headM nd k n b s xs.length ks && eachM ns (itemAt nd n) xs) := by rw [isM, h]
noncomputable def conM (s : ST) (a : Int) (v : VT) (right : Bool) : Bool := decide (0 ≤ a) && (decide (a < (s.nodes.length : Int)) && (right && isM s.nodes a v))
mutual
def vdeep : VT → Nat
  | .mk k n b s xs ks => if k = 9 ∨ k = 11 ∨ k = 12 ∨ k = 13 then vdeeps 1 xs else 0
def vdeeps : Nat → List VT → Nat
  | n, [] => n
  | n, x :: xs => vdeeps (max n (1 + vdeep x)) xs
end

def idxP {α : Type} (p : α → Bool) (l : List α) : Int := match l.findIdx? p with | some i => (i : Int) | none => -1
theorem idxP_at {α : Type} {p : α → Bool} {l : List α} {i : Nat} {x : α} (h : l[i]? = some x) (hx : p x = true) (h0 : ∀ j y, j < i → l[j]? = some y → p y = false) : idxP p l = (i : Int) := by
  unfold idxP
  obtain ⟨hlt, he⟩ := List.getElem?_eq_some_iff.1 h
  have : l.findIdx? p = some i := by
    rw [List.findIdx?_eq_some_iff_getElem]
    refine ⟨hlt, by rw [he]; exact hx, fun j hj => ?_⟩
    have := h0 j _ hj (List.getElem?_eq_getElem (by omega))
    simp [this]
  rw [this]
theorem idxP_none {α : Type} {p : α → Bool} {l : List α} (h0 : ∀ j y, j < l.length → l[j]? = some y → p y = false) : idxP p l = -1 := by
  unfold idxP
  have : l.findIdx? p = none := by
    rw [List.findIdx?_eq_none_iff]
    intro x hx
    obtain ⟨j, hj, he⟩ := List.getElem_of_mem hx
    exact h0 j x hj (by rw [List.getElem?_eq_getElem hj, he])
  rw [this]
theorem idxP_any {α : Type} (p : α → Bool) (l : List α) : decide (idxP p l ≥ 0) = l.any p := by
  unfold idxP
  cases h : l.findIdx? p with
  | some i =>
    have := (List.findIdx?_eq_some_iff_getElem.1 h)
    obtain ⟨h1, h2, _⟩ := this
    have h3 : l.any p = true := List.any_eq_true.2 ⟨l[i], List.getElem_mem _, h2⟩
    rw [h3]
    simp
  | none =>
    rw [List.findIdx?_eq_none_iff] at h
    have h3 : l.any p = false := List.any_eq_false.2 fun x hx => by simpa using h x hx
    rw [h3]
    rfl
theorem sc_pureL {used : Nat → Prop} {h : Nat → Option Blkd} {l : List AV} (hp : AV.pureL l = true) : (∀ x ∈ l, Sc used h x) = True := eq_true fun x hx => (pure_ofL l hp x hx).sc
theorem pureL_app (l m : List AV) : AV.pureL (l ++ m) = (AV.pureL l && AV.pureL m) := by
  induction l with
  | nil => simp [AV.pureL]
  | cons x l ih => simp [AV.pureL, ih, Bool.and_assoc]

set_option maxRecDepth 100000 in
set_option maxHeartbeats 400000 in
theorem ixfS_told {g : FuncId} {fs cs : List AV} (hp : AV.pureL fs = true) (hp' : AV.pureL cs = true) (l : List (List UInt8)) (p : List UInt8 → Bool) (hk : ∀ x ∈ l, Told Tryz.prog g (fs ++ ([.c (.v (.string (str x)))] ++ cs)) (.c (.v (.bool (p x))))) :
    Told Tryz.prog 232 [.c (.sl 1 (l.map sPV)), .fn (.func g) fs cs] (.c (.v (.int .i64 (idxP p l)))) := by
  refine VC.told ent_232 Tryz.func232 rfl Tryz.ntmps232 (by simp) (by simp [AV.pureB, AV.pureL, hp, hp']) rfl fun hb => ?_
  simp only [List.mem_cons, List.not_mem_nil, or_false, forall_eq_or_imp, forall_eq, abd_c, pbd_sl, List.length_map] at hb
  have h1 := hb.1.1
  clear hb
  refine walkG ?_
  refine VC.loop (ι := {i : Nat // i ≤ l.length ∧ ∀ j x, j < i → l[j]? = some x → p x = false}) (fun i => [(0, .c (.sl 1 (l.map sPV))), (1, .fn (.func g) fs cs), (7, .c (.v (.int .i64 l.length))), (8, .c (.v (.int .i64 i.1)))]) (fun _ => []) 0 (fun i => l.length - i.1) ⟨0, Nat.zero_le _, by intro j x hj; omega⟩ ?_ ?_
  · simp only [sc_pureL hp, sc_pureL hp', Weak, eq_self, used_is, sc_any, sc_c, sc_pp, sc_ref, sc_row, sc_agg, sc_fn, ScL, some_imp, List.forall_mem_map, go_sem, Int.reduceBEq, Int.reduceLE, Int.reduceLT, Int.reduceNeg, Nat.reduceAdd, Nat.reduceEqDiff, Nat.reduceLT, Nat.reduceLeDiff, Nat.reduceMul, Nat.reduceSub, reduceCtorEq, ↓reduceIte]
    all_goals rfl
  rintro ⟨i, hi, ht⟩
  refine walkG ?_
  refine VC.cond (by rfl) (by trivial) (fun hc => ?_) (fun hc => ?_)
  · simp only [decide_eq_true_eq] at hc
    obtain ⟨x, hx⟩ : ∃ x, l[i]? = some x := ⟨l[i]'(by omega), List.getElem?_eq_getElem _⟩
    have hw : IntKind.i64.wrap ((i : Int) + 1) = (i : Int) + 1 := wrap64_id (by omega) (by omega)
    have hkx := hk x (List.mem_of_getElem? hx)
    (repeat (first | refine pass ?_ | refine VC.region (by rfl) (by rfl) ?_ | (refine AO.step fun K hK => ?_; simp only [List.getElem?_map, hx, sPV, go_sem, Int.reduceBEq, Int.reduceLE, Int.reduceLT, Int.reduceNeg, Nat.reduceAdd, Nat.reduceEqDiff, Nat.reduceLT, Nat.reduceLeDiff, Nat.reduceMul, Nat.reduceSub, reduceCtorEq, ↓reduceIte]; (first | refine gsel_skip ?_ | refine gsel_go ?_ | skip); (first | refine hK _ _ _ ?_ | refine ⟨by first | omega | exact ⟨_, rfl, rfl⟩ | exact fun _ => ⟨_, rfl, rfl⟩ | (intro h; simp only [List.getElem?_map, hx, sPV, h, true_and]; omega) | (clear hK; intro h; simp_all <;> omega), hK _ _ _ ?_⟩); clear hK K) | refine VC.draw mixP (by rfl) (by rfl) ?_ | refine ⟨okd_of (by kernel_rfl), ?_⟩ | refine BQ.other (by decide) ?_ | refine VC.seq ?_ | refine AO.nil ?_ | refine VC.block ?_))
    ((refine AO.step fun K hK => ?_; simp only [go_sem, Int.reduceBEq, Int.reduceLE, Int.reduceLT, Int.reduceNeg, Nat.reduceAdd, Nat.reduceEqDiff, Nat.reduceLT, Nat.reduceLeDiff, Nat.reduceMul, Nat.reduceSub, reduceCtorEq, ↓reduceIte, sPV, hp, hp', pureL_app, pureL_c, List.append_assoc]; (first | refine gsel_go ?_ | skip)); refine .inl ⟨_, hkx, hK _ _ _ ?_⟩; clear hK K)
    refine walkG ?_
    refine VC.cond (by rfl) (by trivial) (fun hpx => ?_) (fun hpx => ?_)
    · have hr := idxP_at hx hpx ht
      refine walkG ?_
      refine ⟨by first | exact .inr rfl | exact .inl rfl, ?_⟩; rw [Tryz.results232]; simp only [resOk, resV, go_sem, simprocAttr]
      rw [hr]
      exact .c _
    · refine walkGF (hw) ?_
      refine .next ⟨i + 1, by omega, fun j y hj hy => ?_⟩ ?_ (by simp only []; omega)
      · rcases Nat.lt_or_ge j i with h | h
        · exact ht j y h hy
        · obtain rfl : j = i := by omega
          rw [hx] at hy
          obtain rfl := Option.some.inj hy
          exact hpx
      simp only [sc_pureL hp, sc_pureL hp', Weak, eq_self, used_is, sc_any, sc_c, sc_pp, sc_ref, sc_row, sc_agg, sc_fn, ScL, some_imp, List.forall_mem_map, go_sem, Int.reduceBEq, Int.reduceLE, Int.reduceLT, Int.reduceNeg, Nat.reduceAdd, Nat.reduceEqDiff, Nat.reduceLT, Nat.reduceLeDiff, Nat.reduceMul, Nat.reduceSub, reduceCtorEq, ↓reduceIte]
      exact cI (by omega)
  · simp only [decide_eq_false_iff_not] at hc
    obtain rfl : i = l.length := by omega
    have hr := idxP_none ht
    refine walkG ?_
    refine ⟨by first | exact .inr rfl | exact .inl rfl, ?_⟩; rw [Tryz.results232]; simp only [resOk, resV, go_sem, simprocAttr]
    rw [hr]
    exact .c _
set_option maxRecDepth 100000 in
set_option maxHeartbeats 400000 in
theorem cnfS_told {g : FuncId} {fs cs : List AV} (hp : AV.pureL fs = true) (hp' : AV.pureL cs = true) (l : List (List UInt8)) (p : List UInt8 → Bool) (hk : ∀ x ∈ l, Told Tryz.prog g (fs ++ ([.c (.v (.string (str x)))] ++ cs)) (.c (.v (.bool (p x))))) :
    Told Tryz.prog 180 [.c (.sl 1 (l.map sPV)), .fn (.func g) fs cs] (.c (.v (.bool (l.any p)))) := by
  have hi := ixfS_told hp hp' l p hk
  refine VC.told ent_180 Tryz.func180 rfl Tryz.ntmps180 (by simp) (by simp [AV.pureB, AV.pureL, hp, hp']) rfl fun hb => ?_
  clear hb
  refine walkG ?_
  refine walkCF (And.intro hp hp') (hi) ?_
  refine walkG ?_
  refine ⟨by first | exact .inr rfl | exact .inl rfl, ?_⟩; rw [Tryz.results180]; simp only [resOk, resV, go_sem, simprocAttr]
  exact frz_c (by rw [idxP_any])
end
section
open Go.RowKit Go.Shelf
attribute [local go_sem] Oper.semAt_some
def upTo {α : Type} (f : Nat → α) (k : Nat) : List α := (List.range k).map f
theorem upTo_succ {α : Type} (f : Nat → α) (k : Nat) : upTo f (k + 1) = upTo f k ++ [f k] := by simp [upTo, List.range_succ]
theorem upTo_length {α : Type} (f : Nat → α) (k : Nat) : (upTo f k).length = k := by simp [upTo]
theorem upTo_all {α : Type} [Inhabited α] (zs : List α) (d : α) : upTo (fun j => zs[j]?.getD d) zs.length = zs := by
  apply List.ext_getElem
  · simp [upTo]
  · intro i h1 h2
    simp [upTo, h2]
set_option maxRecDepth 100000 in
set_option maxHeartbeats 2000000 in
theorem values1_in (F : Fence) (n : Nat) (h7 : F.fn 258) (hro : F.round = none) (hn : 1 ≤ n) (l Bs o n₀ b off len cap : Nat) (zs : List (List UInt8)) (hreach : len * 16 ≤ 140737488351232) (hb : b < n₀) (J Jx : List (List UInt8) → World → Prop)
    (hY : ∀ pre x W, J pre W → pre.length < len → YieldAt F (n - 1) Tryz.prog l #[.string (str x)] W fun e W' =>
      (e = .returned (.bool true) ∧ J (pre ++ [x]) W' ∧ Below n₀ W W') ∨ (e = .returned (.bool false) ∧ Jx (pre ++ [x]) W'))
    (W : World) (hBs : W.cell? ⟨Bs, o, none⟩ = some (.slice (some ⟨b, off, none⟩) len cap)) (hc : ∀ j, j < len → W.cell? ⟨b, off + j, none⟩ = some (.string (str (zs[j]?.getD [])))) (h0 : J [] W) :
    CallsIn F n Tryz.prog 258 #[.func (.yield l) #[] #[], .pointer (some ⟨Bs, o, none⟩)] W fun e W' => (∃ v, e = .returned v) ∧
      ((∃ ys, ys = upTo (fun j => zs[j]?.getD []) len ∧ J ys W') ∨ (∃ pre, (∃ k, k ≤ len ∧ pre = upTo (fun j => zs[j]?.getD []) k) ∧ Jx pre W')) := by
  refine callsIn_of_wp Tryz.func258 rfl h7 ?_ hro
  simp only [Tryz.ntmps258, List.size_toArray, List.length_cons, List.length_nil, Nat.reduceAdd, Nat.reduceSub, Array.replicate_succ, Array.replicate_zero, List.push_toArray, List.append_toArray, List.nil_append, List.cons_append]
  gi_wp2
  gi_loopw [7] (fun i wr => ∃ k : Nat, k ≤ len ∧ i = .int .i64 k ∧ J (upTo (fun j => zs[j]?.getD []) k) wr ∧ Below n₀ W wr)
    (fun i _ => len - (intOf i).toNat)
  case atStart => exact ⟨0, Nat.zero_le _, rfl, h0, Below.refl _ _⟩
  case round =>
    obtain ⟨k, hk, rfl, hJs, hnx⟩ := hrel
    have hcx : k < len → wr.cell? ⟨b, off + k, none⟩ = some (.string (str (zs[k]?.getD []))) := fun h => (hnx.cell (p := ⟨b, off + k, none⟩) hb).trans (hc k h)
    by_cases hlt : k < len
    · obtain ⟨fn, tmps, assign, body, hy, hR⟩ := hY _ (zs[k]?.getD []) wr hJs (by rw [upTo_length]; exact hlt)
      have hcx' := hcx hlt
      gi_wp2
      refine hR.mono ?_
      rintro e W3 (⟨rfl, hJ3, hk3⟩ | ⟨rfl, hJx3⟩)
      · gi_wp2
        go_roundw
        case rel => exact ⟨k + 1, by omega, by simp, by rw [upTo_succ]; exact hJ3, hnx.trans hk3⟩
        case measure => simp [intOf]; omega
      · gi_wp2
        refine bodyPost_ret (results_none rfl _ _ _) rfl ?_
        exact ⟨⟨_, rfl⟩, .inr ⟨_, ⟨k + 1, by omega, (upTo_succ _ _).symm⟩, hJx3⟩⟩
    · obtain rfl : k = len := by omega
      gi_wp2
      go_end0
      exact ⟨⟨_, rfl⟩, .inl ⟨_, rfl, hJs⟩⟩
set_option maxRecDepth 100000 in
set_option maxHeartbeats 1000000 in
theorem values1_nil_in (F : Fence) (n : Nat) (h7 : F.fn 258) (hro : F.round = none) (l Bs o : Nat) (J : List (List UInt8) → World → Prop) (W : World) (a : Option Addr) (c : Nat) (hBs : W.cell? ⟨Bs, o, none⟩ = some (.slice a 0 c)) (h0 : J [] W) :
    CallsIn F n Tryz.prog 258 #[.func (.yield l) #[] #[], .pointer (some ⟨Bs, o, none⟩)] W fun e W' => (∃ v, e = .returned v) ∧ J [] W' := by
  refine callsIn_of_wp Tryz.func258 rfl h7 ?_ hro
  simp only [Tryz.ntmps258, List.size_toArray, List.length_cons, List.length_nil, Nat.reduceAdd, Nat.reduceSub, Array.replicate_succ, Array.replicate_zero, List.push_toArray, List.append_toArray, List.nil_append, List.cons_append]
  gi_wp2
  gi_loopw [7] (fun i wr => i = .int .i64 0 ∧ J [] wr) (fun _ _ => 0)
  case atStart => exact ⟨rfl, h0⟩
  case round =>
    obtain ⟨rfl, hJs⟩ := hrel
    gi_wp2
    go_end0
    exact ⟨⟨_, rfl⟩, hJs⟩
theorem upTo_take (zs : List (List UInt8)) {k : Nat} (hk : k ≤ zs.length) : upTo (fun j => zs[j]?.getD []) k = zs.take k := by
  apply List.ext_getElem
  · simp [upTo, hk]
  · intro i h1 h2
    have : i < zs.length := by simp [upTo] at h1; omega
    simp [upTo, this]
def Strs (n₀ : Nat) (W : World) (sv : Value) (zs : List (List UInt8)) : Prop :=
  ∃ a cap, sv = .slice a zs.length cap ∧ (zs ≠ [] → ∃ b off, a = some ⟨b, off, none⟩ ∧ b < n₀ ∧ ∀ j, j < zs.length → W.cell? ⟨b, off + j, none⟩ = some (.string (str (zs[j]?.getD []))))
theorem Strs.below {n₀ : Nat} {A B : World} (h : Below n₀ A B) {sv : Value} {zs : List (List UInt8)} : Strs n₀ A sv zs → Strs n₀ B sv zs
  | ⟨a, cap, e, hc⟩ => ⟨a, cap, e, fun hn => by
    obtain ⟨b, off, h1, h2, h3⟩ := hc hn
    exact ⟨b, off, h1, h2, fun j hj => (h.cell (p := ⟨b, off + j, none⟩) h2).trans (h3 j hj)⟩⟩
theorem values_stops (F : Fence) (n : Nat) (h7 : F.fn 258) (hro : F.round = none) (hn : 1 ≤ n) (Bs o n₀ : Nat) (sv : Value) (zs : List (List UInt8)) (hreach : zs.length * 16 ≤ 140737488351232) (w : World) (hBs : Bs < w.heap.size) (hn₀ : n₀ ≤ w.heap.size)
    (hc : w.cell? ⟨Bs, o, none⟩ = some sv) (hI : Strs n₀ w sv zs) :
    SeqStopsK F n Tryz.prog 258 #[.pointer (some ⟨Bs, o, none⟩)] (fun x : List UInt8 => #[Value.string (str x)]) (Below n₀) (fun ys => ys = zs) (fun pre => pre <+: zs) zs.length w := fun l J Jx W hW _ _ hY h0 => by
  have hc' := (hW.cell (p := ⟨Bs, o, none⟩) hBs).trans hc
  obtain ⟨a, cap, rfl, hcs⟩ := hI.below (hW.mono hn₀)
  by_cases hz : zs = []
  · subst hz
    exact (values1_nil_in F n h7 hro l Bs o J W a cap hc' h0).mono fun e W' ⟨he, hj⟩ => ⟨he, .inl ⟨_, rfl, hj⟩⟩
  · obtain ⟨b, off, rfl, hb, hcs⟩ := hcs hz
    refine (values1_in F n h7 hro hn l Bs o n₀ b off zs.length cap zs hreach hb J Jx hY W hc' hcs h0).mono ?_
    rintro e W' ⟨he, ⟨ys, rfl, hj⟩ | ⟨pre, ⟨k, hk, rfl⟩, hj⟩⟩
    · exact ⟨he, .inl ⟨_, upTo_all zs _, hj⟩⟩
    · exact ⟨he, .inr ⟨_, by rw [upTo_take zs hk]; exact List.take_prefix _ _, hj⟩⟩
def sV (s : List UInt8) : Value := .string (str s)
theorem sinfo : (Tryz.prog.info? 9).map (fun i => (i.zero, i.size, i.bytes)) = some (some (.string ⟨#[]⟩), 1, 16) := by kernel_rfl
set_option maxRecDepth 100000 in
set_option maxHeartbeats 2000000 in
theorem appendSeq_in (F : Fence) (n : Nat) (h3 : F.fn 276) (h7 : F.fn 258) (hro : F.round = none) (hn : 3 ≤ n) (Bs o : Nat) (sv : Value) (zs : List (List UInt8)) (hlen : zs.length ≤ maxLen) (hbytes : zs.length * 16 ≤ 140737488351232) (w : World) (hBs : Bs < w.heap.size)
    (hc : w.cell? ⟨Bs, o, none⟩ = some sv) (hI : Strs w.heap.size w sv zs) :
    CallsIn F n Tryz.prog 276 #[.slice none 0 0, .func (.func 258) #[] #[.pointer (some ⟨Bs, o, none⟩)]] w fun e W' => ∃ v, e = .returned v ∧ W'.ownsRow w.heap.size 9 1 v zs.length (zs.map sV) ∧ Below w.heap.size w W' := by
  have h1 : 1 ≤ n := by omega
  obtain ⟨i0, hi, hz0, hz1, hz2⟩ := info_parts sinfo
  refine callsIn_of_wp_marks Tryz.func276 rfl h3 ?_ hro
  simp only [Tryz.ntmps276, List.size_toArray, List.length_cons, List.length_nil, Nat.reduceAdd, Nat.reduceSub, Array.replicate_succ, Array.replicate_zero, List.push_toArray, List.append_toArray, List.nil_append, List.cons_append]
  gi_wp2
  have bO := Boxed.new w 29 (.slice none 0 0)
  have hB0 : Below w.heap.size w (w.alloc (.cells #[.slice none 0 0] 29)) := (Below.refl _ w).alloc (Nat.le_refl _) _
  refine wpIn_rangeFunc_ownG hro h1 (gf := 258) (lb := #[.pointer (some ⟨Bs, o, none⟩)]) rfl h7 (enters_of Tryz.func258 (by kernel_rfl) rfl)
    (values_stops F (n - 1) h7 hro (by omega) Bs o w.heap.size sv zs hbytes _ (by simp; omega) (by simp) ((hB0.cell (p := ⟨Bs, o, none⟩) hBs).trans hc) (hI.below hB0)) belowK_t (belowK_b (by simp)) (Below.refl _ _) (fun _ => rfl)
    (fun pre W => (∃ v, Boxed W w.heap.size 29 v ∧ W.ownsRow w.heap.size 9 1 v pre.length (pre.map sV) ∧ (v = .slice none 0 0 ↔ pre = [])) ∧ Below w.heap.size w W)
    (fun _ _ _ => False)
    (OwnFrom.and (Own.from (holdsRow_own w.heap.size w.heap.size 29 9 1 (fun pre => pre.length) (fun pre => pre.map sV) (fun pre v => v = .slice none 0 0 ↔ pre = [])) _) (ownFrom_below (Nat.le_refl _) (by simp)))
    (fun _ _ _ _ _ hs _ _ => hs)
    ⟨⟨_, bO, World.ownsRow_nil _ _ _ _, by simp⟩, hB0⟩
    (fun x => { tmps := #[.slice none 0 0, .func (.func 258) #[] #[.pointer (some ⟨Bs, o, none⟩)], .pointer (some ⟨w.heap.size, 0, none⟩), undef, .slice none 0 0, .string (str x), .func (.func 258) #[] #[.pointer (some ⟨Bs, o, none⟩)], .string (str x), undef, undef, undef, undef, undef], defers := [] }) ?assign ?body ?done ?stop
  case assign =>
    intro l x W K hK
    gi_wp2
    exact hK
  case body =>
    rintro l pre x W ⟨⟨v, hv, hrow, hnil⟩, hB⟩ hlt
    have hc := hv.cell
    gi_wp2_with (gi_at_builtin; refine wpListIn_append_own _ rfl _ _ 29 rfl w.heap.size 9 i0 (.string ⟨#[]⟩) 1 16 Tryz.underlying29 hi hz0 hz1 hz2 rfl (by decide) _ _ _ rfl (hrow.alloc _) ⟨W.heap.size, 0, none⟩ 1 1 [.string (str x)] rfl rfl (cell_one_new _ _ _) (by simp [Value.oneCell']) (by omega) (by omega) (by have := hB.size; simp; omega) ?_; intro v' w1 hown' hgrow _; obtain ⟨g', cap', rfl⟩ := ownsRow_succ hown'; obtain ⟨hv1, hv2, hr2, hk2, hb2⟩ := hv.appended (by decide) hrow hB.size (Nat.le_refl _) hown' hgrow; have hc1 := hv1.cell; have hf1 := hv1.frozen)
    exact ⟨hk2.from _, hb2, ⟨_, hv2, by simpa [sV] using hr2, by simp⟩, hB.trans hb2⟩
  case done =>
    rintro D ys W hD rfl ⟨⟨v, hv, hrow, hnil⟩, hB⟩ hK
    have hc := hv.cell
    gi_wp2
    refine ⟨by simp, .inl ⟨_, _, rfl, run_takeDeferred hK, ?_⟩⟩
    exact ⟨_, results_tmp rfl _ _ _, v, rfl, ownsRow_putObj hrow _ hK rfl, hB.trans (belowK_b (w := w) (Nat.le_refl _) W D _ _ (by simp at hD; omega) hK rfl rfl)⟩
  case stop =>
    rintro D c pre W _ _ h _
    exact h.elim
theorem appendSeq_plain (Bs o : Nat) (sv : Value) (zs : List (List UInt8)) (hlen : zs.length ≤ maxLen) (hbytes : zs.length * 16 ≤ 140737488351232) (w : World) (hBs : Bs < w.heap.size)
    (hc : w.cell? ⟨Bs, o, none⟩ = some sv) (hI : Strs w.heap.size w sv zs) :
    Calls Tryz.prog 276 #[.slice none 0 0, .func (.func 258) #[] #[.pointer (some ⟨Bs, o, none⟩)]] w fun e W' => ∃ v, e = .returned v ∧ W'.ownsRow w.heap.size 9 1 v zs.length (zs.map sV) ∧ Below w.heap.size w W' :=
  calls_of_every_depth (L := [276, 258]) (n := 3) fun D => appendSeq_in _ 3 (by simp [Fence.list]) (by simp [Fence.list]) rfl (Nat.le_refl _) Bs o sv zs hlen hbytes w hBs hc hI
end
section
open Go.RowKit Go.Sort
def sA (l : List (List UInt8)) : List (List AV) := l.map fun s => [AV.c (.v (.string (str s)))]
def sB (l : List (List UInt8)) : Blkd := ⟨true, 9, 1, sA l⟩
theorem sA_len (l : List (List UInt8)) : (sA l).length = l.length := by simp [sA]
theorem sA_ren (ρ : Nat → Nat) (l : List (List UInt8)) : (sA l).map (AV.renL ρ) = sA l := by
  induction l with
  | nil => rfl
  | cons x l ih => show AV.renL ρ _ :: (sA l).map _ = _; rw [ih]; rfl
theorem sA_sc {used : Nat → Prop} {h : Nat → Option Blkd} (l : List (List UInt8)) : (∀ e ∈ sA l, ∀ x ∈ e, Sc used h x) = True := eq_true fun e he x hx => by
  obtain ⟨b, _, rfl⟩ := List.mem_map.1 he
  simp at hx
  subst hx
  exact .c
theorem sA_flat (l : List (List UInt8)) : (sA l).flatten = l.map fun s => AV.c (.v (.string (str s))) := by
  induction l with
  | nil => rfl
  | cons x l ih => show _ ++ (sA l).flatten = _; rw [ih]; rfl
theorem own_of_brep {W : World} {ro : Nat → Prop} {φ : Nat → Value} {h : Nat → Option Blkd} {j : Nat} {l : List (List UInt8)} (hB : BRep W ro φ h j (sB l)) : W.ownsRow 0 9 1 (φ j) l.length (l.map sV) := by
  obtain ⟨h1, h2, vs, h3, h4⟩ := hB
  rw [if_pos (show (sB l).row = true from rfl)] at h4
  have hvs : vs = l.map sV := by
    have h5 : RepL W ro φ h (l.map fun s => AV.c (.v (.string (str s)))) vs := by rw [← sA_flat]; exact h3
    apply List.ext_getElem?
    intro k
    by_cases hk : k < l.length
    · have hkv : k < vs.length := by rw [h5.1]; simpa using hk
      have := h5.2 k _ _ (by rw [List.getElem?_map, List.getElem?_eq_getElem hk]; rfl) (List.getElem?_eq_getElem hkv)
      rw [List.getElem?_eq_getElem hkv, rep_prim this, List.getElem?_map, List.getElem?_eq_getElem hk]
      rfl
    · rw [List.getElem?_eq_none (by rw [h5.1]; simpa using hk), List.getElem?_eq_none (by simpa using hk)]
  subst hvs
  have : (sB l).len = l.length := sA_len l
  rw [this] at h4
  exact h4
theorem brep_of_own {W : World} {ro : Nat → Prop} {φ : Nat → Value} {h : Nat → Option Blkd} {j : Nat} {l : List (List UInt8)} (ho : W.ownsRow 0 9 1 (φ j) l.length (l.map sV)) : BRep W ro φ h j (sB l) := by
  refine ⟨fun i e he => ?_, fun e he x hx => ?_, l.map sV, ?_, ?_⟩
  · obtain ⟨s, _, rfl⟩ := List.mem_map.1 (List.mem_of_getElem? he)
    rfl
  · obtain ⟨s, _, rfl⟩ := List.mem_map.1 he
    simp at hx
    subst hx
    rfl
  · show RepL W ro φ h (sA l).flatten _
    rw [sA_flat]
    refine ⟨by simp, fun k x v hx hv => ?_⟩
    rw [List.getElem?_map] at hx hv
    obtain ⟨s, h1, rfl⟩ := Option.map_eq_some_iff.1 hx
    rw [h1] at hv
    obtain rfl := Option.some.inj hv
    exact .c (.v rfl)
  · rw [if_pos (show (sB l).row = true from rfl)]
    have : (sB l).len = l.length := sA_len l
    rw [this]
    exact ho
theorem hok_one {W : World} {ro : Nat → Prop} {φ : Nat → Value} {B : Blkd} (hB : BRep W ro φ (LentL [some B]) 1000000 B) (ho : ∀ b, blkOf (φ 1000000) = some b → ¬ ro b) : HOk W ro φ (LentL [some B]) := by
  have key : ∀ j B1, LentL [some B] j = some B1 → j = 1000000 ∧ B1 = B := by
    intro j B1 hj
    obtain ⟨h1, h2⟩ := lentL_some hj
    have h3 := (List.getElem?_eq_some_iff.1 h2).1
    simp at h3
    obtain rfl : j = 1000000 := by omega
    simp at h2
    exact ⟨rfl, h2.symm⟩
  refine ⟨fun j B1 hj => ?_, fun j k B1 B2 b hj hk hne => ?_, fun j B1 b hj hb => ?_⟩
  · obtain ⟨rfl, rfl⟩ := key j B1 hj
    exact hB
  · exact absurd ((key j B1 hj).1.trans (key k B2 hk).1.symm) hne
  · obtain ⟨rfl, rfl⟩ := key j B1 hj
    exact ho b hb
theorem row_arg {W : World} {ro : Nat → Prop} {φ : Nat → Value} {B : Blkd} {vs : List Value} {n : Nat} (hn : B.len = n) (hl : RepL W ro φ (LentL ([B].map some)) [.row 1000000 n] vs) : vs = [φ 1000000] := by
  obtain ⟨h1, h2⟩ := hl
  match vs, h1, h2 with
  | [v], _, h2 =>
    have := h2 0 _ v rfl rfl
    cases this with
    | row _ hv => rw [hv B (by simp [LentL]) hn]
def srt (l : List (List UInt8)) : List (List UInt8) := l.mergeSort fun x y => decide (x ≤ y)
theorem srt_len (l : List (List UInt8)) : (srt l).length = l.length := by simp [srt]
theorem appendSeq_told (l : List (List UInt8)) (hl : l.length ≤ 4294967296) :
    ToldM Tryz.prog 276 [.c (.v (.slice none 0 0)), .fn (.func 258) [] [.pp [.sl 1 (l.map sPV)]]] [] [some (sB l)] (.row 1000000 l.length) := by
  refine ⟨ent_276, trivial, ⟨?_, ?_⟩, fun W ro φ vs hro hgk hal hok => ?_⟩
  · exact .row ⟨by omega, by simp⟩ fun B hB => by simp [LentL] at hB; subst hB; exact Nat.le_of_eq (sA_len l).symm
  · intro b hb B hB e he
    simp at hb
    subst hb
    obtain rfl := Option.some.inj hB
    exact fun x hx => (of_eq_true (sA_sc l)) e he x hx
  · obtain ⟨h1, h2⟩ := hal
    match vs, h1, h2 with
    | [v0, v1], _, h2 =>
      have e0 := rep_prim (h2 0 _ v0 rfl rfl)
      have e1 := h2 1 _ v1 rfl rfl
      subst e0
      cases e1 with
      | @fn _ _ _ us us' q1 q2 q3 q4 =>
        obtain rfl : us = [] := List.eq_nil_of_length_eq_zero q1
        match us', q3, q4 with
        | [p], _, q4 =>
          have e2 := q4 0 _ p rfl rfl
          cases e2 with
          | @pp _ b off vs hb hc hp =>
            match vs, hp with
            | [sv], hp =>
              have hsv := hp.2 0 _ sv rfl rfl
              have hcell : W.cell? ⟨b, off, none⟩ = some sv := by have := hc 0 (by simp); simpa using this
              have hS : Strs W.heap.size W sv l := by
                cases hsv with
                | @sl _ _ a c vss hn hcc hnil ha hll hz hz' hx =>
                  refine ⟨a, c, by simp, fun hne => ?_⟩
                  obtain ⟨b', off', rfl, hb', hcs⟩ := ha (by simpa using hne)
                  refine ⟨b', off', rfl, hro b' hb', fun j hj => ?_⟩
                  have hjv : j < vss.length := by rw [hll]; simpa using hj
                  have hvj := List.getElem?_eq_getElem hjv
                  have hlen := hz' j _ hvj
                  have hx1 := hx j 0 (sPV l[j]) vss[j] (.v (.string (str l[j]))) (vss[j]'hjv)[0] (by rw [List.getElem?_map, List.getElem?_eq_getElem hj]; rfl) hvj rfl (List.getElem?_eq_getElem _)
                  have hcc := hcs j _ hvj 0 (by omega)
                  rw [List.getElem?_eq_getElem (by omega)] at hcc
                  have hxe := rep_prim (h := h0) (φ := φ0) (.c hx1)
                  rw [Nat.mul_one, Nat.add_zero] at hcc
                  rw [hcc, hxe, List.getElem?_eq_getElem hj]
                  rfl
              refine (appendSeq_plain b off sv l (by unfold maxLen; omega) (by omega) W (hro b hb) hcell hS).mono ?_
              rintro e W' ⟨v, rfl, hown, hbel⟩
              have hlt := World.ownsRow.lt hown
              refine ⟨v, ro, fun _ => v, rfl, ⟨hbel.os, hbel.tape, hbel.output, hbel.size, fun k hk _ => hbel.block k hk⟩, fun b h => h, fun b h => ⟨.inl h, Nat.lt_of_lt_of_le (hro b h) hbel.size⟩, ?_, ?_, ?_, ?_⟩
              · exact .row (by rcases hown.2 with ⟨q, _⟩ | ⟨_, _, _, q, _⟩ <;> rw [q] <;> rfl) fun B hB hn => rfl
              · refine hok_one (brep_of_own ?_) fun b hb' hrb => ?_
                · refine ⟨hown.1, ?_⟩
                  rcases hown.2 with h9 | ⟨g, cap, cur, h9, _, h10⟩
                  · exact .inl h9
                  · exact .inr ⟨g, cap, cur, h9, Nat.zero_le _, h10⟩
                · have := (hlt b (by rw [← own_blk hown]; exact hb')).1
                  have := hro b hrb
                  omega
              · intro j B' hj; exact absurd hj.2 (by have := hj.1; simp; omega)
              · intro j B b hj hb'
                exact .inl (hlt b (by rw [← own_blk hown]; exact hb')).1
theorem sort_told (l : List (List UInt8)) (hl : l.length ≤ 4294967296) : ToldM Tryz.prog 257 [.row 1000000 l.length] [sB l] [some (sB (srt l))] (.tup []) := by
  refine ⟨ent_257, ⟨rfl, trivial⟩, ⟨.tup (by simp), ?_⟩, fun W ro φ vs hro hgk hal hok => ?_⟩
  · intro b hb B hB e he
    simp at hb
    subst hb
    obtain rfl := Option.some.inj hB
    exact fun x hx => (of_eq_true (sA_sc (srt l))) e he x hx
  · obtain rfl := row_arg (B := sB l) (sA_len l) hal
    have hlen : LentL ([sB l].map some) 1000000 = some (sB l) := by simp [LentL]
    have hown := own_of_brep (hok.hp 1000000 _ hlen)
    have fin : ∀ W', W.grownBy W' (φ 1000000).ownBlock → W'.ownsRow 0 9 1 (φ 1000000) (srt l).length ((srt l).map sV) →
        ∃ v ro' φ', Ending.returned (.tuple #[]) = .returned v ∧ Keeps (fun b => ∃ j B, LentL ([sB l].map some) j = some B ∧ blkOf (φ j) = some b) W W' ∧ (∀ b, ro b → ro' b) ∧
          (∀ b, ro' b → (ro b ∨ W.heap.size ≤ b ∨ ∃ j B, LentL ([sB l].map some) j = some B ∧ blkOf (φ j) = some b) ∧ b < W'.heap.size) ∧ Rep W' ro' φ' (LentL [some (sB (srt l))]) (.tup []) v ∧ HOk W' ro' φ' (LentL [some (sB (srt l))]) ∧
          Goes (inL [sB l].length) φ φ' (LentL ([sB l].map some)) (LentL [some (sB (srt l))]) ∧ (∀ j B b, LentL [some (sB (srt l))] j = some B → blkOf (φ' j) = some b → W.heap.size ≤ b ∨ ∃ j B, LentL ([sB l].map some) j = some B ∧ blkOf (φ j) = some b) := by
      intro W' hg ho
      refine ⟨_, ro, φ, rfl, ⟨hg.os, hg.tape, hg.output, hg.size, fun k hk hm => hg.block k hk fun e => hm ⟨1000000, _, hlen, by rw [own_blk hown, e]⟩⟩, fun b h => h, fun b h => ⟨.inl h, Nat.lt_of_lt_of_le (hro b h) hg.size⟩, .tup (vs := []) rfl (by simp), hok_one (brep_of_own ho) fun b hb => hok.own 1000000 _ b hlen hb, ?_, ?_⟩
      · intro j B' hj hB'
        obtain rfl : j = 1000000 := by have := hj.1; have := hj.2; simp at this; omega
        simp [LentL] at hB'
        subst hB'
        exact ⟨_, hlen, .inr ⟨by show (sA l).length = (sA (srt l)).length; rw [sA_len, sA_len, srt_len], rfl, rfl⟩⟩
      · intro j B b hj hb
        obtain ⟨h1, h2⟩ := lentL_some hj
        have h3 := (List.getElem?_eq_some_iff.1 h2).1
        simp at h3
        obtain rfl : j = 1000000 := by omega
        exact .inr ⟨1000000, _, hlen, hb⟩
    rcases hown.2 with ⟨h1, h2⟩ | ⟨g, cap, cur, h1, _, h2, h3, h4, h5, h6⟩
    · obtain rfl : l = [] := List.eq_nil_of_length_eq_zero h2
      rw [h1]
      refine (Tryz.slices_Sort_string_none none 0 W).mono ?_
      rintro e W' ⟨rfl, rfl⟩
      exact fin W' ⟨rfl, rfl, rfl, Nat.le_refl _, fun _ _ _ => rfl⟩ (by rw [show srt [] = [] from by simp [srt]]; exact hown)
    · have hH : Holds encStr W g 0 l.toArray := holds_of_block h2 (by rw [← Nat.mul_one l.length]; exact h6)
      rw [h1]
      refine (Tryz.slices_Sort_string g 0 cap l W hH (Array.getElem?_eq_some_iff.1 h2).1 (by omega)).mono ?_
      rintro e W' ⟨rfl, n, os, rfl⟩
      refine fin _ ?_ ?_
      · rw [h1]; exact grownBy_sorted _
      · rw [h1]
        have := ownsRow_sorted (n := n) (os := os) (ts := srt l) (srt_len l) (Nat.zero_le g) h2 h3 h4 h5
        rw [srt_len]
        exact this
theorem lentL_gone (j : Nat) : LentL [none] j = none := by
  unfold LentL
  split
  · cases h : j - 1000000 with
    | zero => rfl
    | succ k => rfl
  · rfl
theorem compact_len (l : List (List UInt8)) : (Lib.compact l).length ≤ l.length := by
  unfold Lib.compact Lib.compactUpTo
  rw [List.length_map]
  exact Nat.le_trans (List.length_filter_le _ _) (by simp)
theorem compact_told (l : List (List UInt8)) (hl : l.length ≤ 4294967296) : ToldM Tryz.prog 229 [.row 1000000 l.length] [sB l] [none] (.c (.sl 1 ((Lib.compact l).map sPV))) := by
  refine ⟨ent_229, trivial, ⟨.c, fun b hb B hB => by simp at hb; subst hb; simp at hB⟩, fun W ro φ vs hro hgk hal hok => ?_⟩
  obtain rfl := row_arg (B := sB l) (sA_len l) hal
  have hlen : LentL ([sB l].map some) 1000000 = some (sB l) := by simp [LentL]
  have hown := own_of_brep (hok.hp 1000000 _ hlen)
  have hbl : ∀ b, blkOf (φ 1000000) = some b → b < W.heap.size := fun b hb => (World.ownsRow.lt hown b (by rw [← own_blk hown]; exact hb)).2
  have fin : ∀ (W' : World) (u : Value), W.grownBy W' (φ 1000000).ownBlock → PRep W' (fun b => ro b ∨ blkOf (φ 1000000) = some b) (.sl 1 ((Lib.compact l).map sPV)) u →
      ∃ v ro' φ', Ending.returned u = .returned v ∧ Keeps (fun b => ∃ j B, LentL ([sB l].map some) j = some B ∧ blkOf (φ j) = some b) W W' ∧ (∀ b, ro b → ro' b) ∧
        (∀ b, ro' b → (ro b ∨ W.heap.size ≤ b ∨ ∃ j B, LentL ([sB l].map some) j = some B ∧ blkOf (φ j) = some b) ∧ b < W'.heap.size) ∧ Rep W' ro' φ' (LentL [none]) (.c (.sl 1 ((Lib.compact l).map sPV))) v ∧ HOk W' ro' φ' (LentL [none]) ∧
        Goes (inL [sB l].length) φ φ' (LentL ([sB l].map some)) (LentL [none]) ∧ (∀ j B b, LentL [none] j = some B → blkOf (φ' j) = some b → W.heap.size ≤ b ∨ ∃ j B, LentL ([sB l].map some) j = some B ∧ blkOf (φ j) = some b) := by
    intro W' u hg hu
    refine ⟨u, _, φ, rfl, ⟨hg.os, hg.tape, hg.output, hg.size, fun k hk hm => hg.block k hk fun e => hm ⟨1000000, _, hlen, by rw [own_blk hown, e]⟩⟩, fun b h => .inl h, fun b h => ?_, .c hu, ⟨fun j B hj => ?_, fun j k B B' b hj => ?_, fun j B b hj => ?_⟩, fun j B hj hB => ?_, fun j B b hj => ?_⟩
    · rcases h with h | h
      · exact ⟨.inl h, Nat.lt_of_lt_of_le (hro b h) hg.size⟩
      · exact ⟨.inr (.inr ⟨1000000, _, hlen, h⟩), Nat.lt_of_lt_of_le (hbl b h) hg.size⟩
    all_goals first | (rw [lentL_gone] at hj; simp at hj) | (rw [lentL_gone] at hB; simp at hB)
  rcases hown.2 with ⟨h1, h2⟩ | ⟨g, cap, cur, h1, _, h2, h3, h4, h5, h6⟩
  · obtain rfl : l = [] := List.eq_nil_of_length_eq_zero h2
    rw [h1]
    refine (Tryz.slices_Compact_string_empty none 0 W).mono ?_
    rintro e W' ⟨rfl, rfl⟩
    exact fin W' _ ⟨rfl, rfl, rfl, Nat.le_refl _, fun _ _ _ => rfl⟩ (PRep.nil _ _ _)
  · have hH : Holds encStr W g 0 l.toArray := holds_of_block h2 (by rw [← Nat.mul_one l.length]; exact h6)
    rw [h1]
    refine (Tryz.slices_Compact_string g 0 cap l W hH (by omega) h3).mono ?_
    rintro e W' ⟨rfl, q, rfl⟩
    obtain ⟨ts, hts⟩ : ∃ ts, ts = Lib.compact l ++ List.replicate (l.length - (Lib.compact l).length) [] := ⟨_, rfl⟩
    have hcl := compact_len l
    have htl : ts.length = l.length := by rw [hts]; simp; omega
    rw [← hts]
    have hg := grownBy_sorted (w := W) (g := g) (n := q) (os := #[]) ts.toArray
    have ho := ownsRow_sorted (n := q) (os := #[]) (ts := ts) htl (Nat.zero_le g) h2 h3 h4 h5
    rw [grow_empty] at hg ho
    refine fin _ _ (by rw [h1]; exact hg) ?_
    rcases ho.2 with ⟨h7, _⟩ | ⟨g', cap', cur', h7, _, h8, h9, h10, h11, h12⟩
    · simp at h7
    · obtain ⟨rfl, rfl⟩ : g = g' ∧ cap = cap' := by simpa using h7
      have hm : ((Lib.compact l).map sPV).length = (Lib.compact l).length := by simp
      rw [← hm]
      refine .sl (vss := (Lib.compact l).map fun s => [sV s]) (by rw [hm]; omega) (by unfold maxLen at h4; omega) (fun h => by simp at h) (fun hne => ⟨g, 0, rfl, .inr (by rw [h1]; rfl), fun i vs hi => ?_⟩) (by simp) (fun i e he => ?_) (fun i vs hi => ?_) (fun i j e vs p v he hvs hp hv => ?_)
      · rw [List.getElem?_map] at hi
        obtain ⟨s, h13, rfl⟩ := Option.map_eq_some_iff.1 hi
        intro j hj
        obtain rfl : j = 0 := by simpa using hj
        have h14 : (cur'.toList.take (l.length * 1))[i]? = some (sV s) := by
          rw [h12, List.getElem?_map, hts, List.getElem?_append_left (List.getElem?_eq_some_iff.1 h13).1, h13]; rfl
        have hi2 : i < l.length := by have := (List.getElem?_eq_some_iff.1 h13).1; omega
        rw [List.getElem?_take_of_lt (by omega)] at h14
        have := cells_of_take h8 (l.length * 1) i (by rw [List.length_take]; simp; omega)
        rw [Nat.zero_add, List.getElem?_take_of_lt (by omega), h14] at this
        simpa using this
      · obtain ⟨s, _, rfl⟩ := List.mem_map.1 (List.mem_of_getElem? he); rfl
      · obtain ⟨s, _, rfl⟩ := List.mem_map.1 (List.mem_of_getElem? hi); rfl
      · rw [List.getElem?_map] at he hvs
        obtain ⟨s, h13, rfl⟩ := Option.map_eq_some_iff.1 he
        rw [h13] at hvs
        obtain rfl := Option.some.inj hvs
        match j, hp, hv with
        | 0, hp, hv =>
          obtain rfl := Option.some.inj hp
          obtain rfl := Option.some.inj hv
          exact .v rfl
end
section
attribute [local go_sem] opx opE ev okx gcond bnd okO AV.get AV.okb cAV upd_at putd_some putd_none wrs_nil wrs_cons look_nil look_cons st argT_at bpick_and bpick_or bpick_true bpick_false binV binI binS binVOk binOk isShift binSOk unV unVOk loadV loadP cellsA zeroA Blkd.len setE grown moreA moreR moreOk eqRes pv fillA fillE putSeg AV.cellish AV.pureL AV.pureB lentL_is ex_some AV.ren AV.renL renL_c Blkd.ren rho wrM renN lentOk rhoE keepM endOk tyA_2 tyA_3 tyA_4 tyA_5 tyA_6 tyA_7 tyA_8 tyA_9 tyA_10 tyA_11 tyA_12 tyA_13 tyA_14 tyA_15 tyA_16 tyA_17 tyA_18 tyA_19 tyA_21 tyA_22 tyA_23 tyA_24 tyA_29 tyA_30 tyA_31 tyA_32 tyA_33 tyA_34 tyA_35 tyA_36 tyA_37 tyA_38 tyA_39 tyA_40 tyA_41 tyA_42 tyA_43 tyA_49 tyA_85 tyA_89 tyA_99 tyA_100 tyA_101 tyA_105 tyA_106 tyA_107 tyA_108 tyA_109 tyA_111 tyA_112 tyA_113 tyA_114 tyA_123 tyA_126 tyA_127 tyA_128 tyA_129 tyA_130 tyA_153 tyA_163 tyA_164 tyA_165 tyA_179 tyA_185 tyA_191 tyA_192 tyA_193 tyA_194 tyA_195 tyA_196 tyA_209 tyA_213 tyA_214 tyA_215 tyA_241 tyA_248 tyA_274 tyA_275 tyA_276 tyA_292 tyA_294 tyA_302 tyA_307 tyA_315 tyA_319 tyA_321 tyA_324 tyA_325 tyA_326 tyA_327 tyA_328 tyA_329 tyA_330 tyA_332 tyA_333 Option.map_some Option.map_none Option.getD_some Option.getD_none Option.bind_some Option.bind_none List.getElem?_cons_zero List.getElem?_cons_succ List.getElem?_nil List.getElem?_toArray List.length_cons List.length_nil List.length_map List.forall_mem_map List.map_cons List.map_nil List.drop_zero List.drop_succ_cons List.drop_nil List.take_zero List.take_succ_cons List.take_nil List.mem_cons List.not_mem_nil or_false forall_eq_or_imp forall_eq List.set_cons_zero List.set_cons_succ List.cons_append List.nil_append List.append_nil List.foldl_cons List.foldl_nil List.replicate_succ List.replicate_zero List.all_cons List.all_nil if_true if_false Bool.false_eq_true ne_eq not_false_eq_true not_true_eq_false true_and and_true and_self true_implies imp_self implies_true forall_const beq_self_eq_true Bool.and_true Bool.true_and Bool.and_false Bool.false_and Bool.or_true Bool.true_or Bool.or_false Bool.false_or Bool.not_true Bool.not_false Bool.not_eq_eq_eq_not intKindOf Value.oneCell' Int.toNat_natCast beq_true beq_false Bool.not_eq_true false_implies false_or true_or or_true Nat.zero_add Nat.add_zero decide_true decide_false Int.cast_ofNat_Int Int.toNat_zero Int.toNat_one eq_self

mutual
def JT.sm (N : Nat) : JT → Prop
  | .mk k n s ks xs => s.length ≤ N ∧ ks.length ≤ N ∧ (∀ y ∈ ks, y.length ≤ N) ∧ xs.length ≤ N ∧ JT.smL N xs
def JT.smL (N : Nat) : List JT → Prop
  | [] => True
  | x :: xs => x.sm N ∧ JT.smL N xs
end
theorem smL_mem {N : Nat} : ∀ {xs : List JT}, JT.smL N xs → ∀ x ∈ xs, x.sm N
  | x :: xs, h, y, hy => by
    rcases List.mem_cons.1 hy with rfl | hy
    · exact h.1
    · exact smL_mem h.2 y hy
def jbare : JT → Bool
  | .mk k n s ks xs =>
    if k = 1 then (n == 0) && s.isEmpty && xs.isEmpty else if k = 2 then (n == 0 || n == 1) && s.isEmpty && xs.isEmpty else if k = 3 then s.isEmpty && xs.isEmpty
    else if k = 4 then (n == 0) && xs.isEmpty && isRight s else if k = 5 ∨ k = 6 then (n == 0) && s.isEmpty else false
theorem str_empty (s : List UInt8) : (!((str s).toList == (⟨#[]⟩ : ByteArray).toList)) = !s.isEmpty := by
  rw [str_toList, show (⟨#[]⟩ : ByteArray) = str [] from rfl, str_toList]
  cases s <;> rfl
theorem nn_eq (n m : Int) : (!(n != m)) = (n == m) := by cases h : n == m <;> simp_all [bne]
set_option maxRecDepth 100000 in
set_option maxHeartbeats 800000 in
theorem jbare_told (t : JT) (ht : t.sm 140737488355328) : Told Tryz.prog 173 [t.av] (.c (.v (.bool (jbare t)))) := by
  cases t with
  | mk k n s ks xs =>
  have hs : s.length ≤ 140737488355328 := ht.1
  have hR := uright_told s (by omega)
  refine VC.told ent_173 Tryz.func173 rfl Tryz.ntmps173 (by simp) rfl rfl fun hb => ?_
  clear hb
  have g1 : decide ((xs.length : Int) > 0) = !xs.isEmpty := by cases xs <;> simp <;> omega
  refine walkGF (And.intro @JT.av_eq (And.intro @cells_mk (And.intro @str_empty g1))) ?_
  refine VC.cond (by rfl) (by trivial) (fun h1 => ?_) (fun h1 => ?_)
  · refine walkG ?_
    refine ⟨by first | exact .inr rfl | exact .inl rfl, ?_⟩; rw [Tryz.results173]; simp only [resOk, resV, go_sem, simprocAttr]
    refine frz_c ?_
    simp only [beq_iff_eq] at h1
    simp only [jbare, h1, if_true, nn_eq, bpick_and, Bool.not_not]
  refine walkGF (And.intro @JT.av_eq @cells_mk) ?_
  refine VC.cond (by rfl) (by trivial) (fun h2 => ?_) (fun h2 => ?_)
  · refine walkGF (And.intro @cells_mk (And.intro @str_empty g1)) ?_
    refine ⟨by first | exact .inr rfl | exact .inl rfl, ?_⟩; rw [Tryz.results173]; simp only [resOk, resV, go_sem, simprocAttr]
    refine frz_c ?_
    obtain rfl : k = 2 := by simpa using h2
    simp [jbare]
  refine walkGF (And.intro @JT.av_eq @cells_mk) ?_
  refine VC.cond (by rfl) (by trivial) (fun h3 => ?_) (fun h3 => ?_)
  · refine walkGF (And.intro @cells_mk (And.intro @str_empty g1)) ?_
    refine ⟨by first | exact .inr rfl | exact .inl rfl, ?_⟩; rw [Tryz.results173]; simp only [resOk, resV, go_sem, simprocAttr]
    refine frz_c ?_
    obtain rfl : k = 3 := by simpa using h3
    simp [jbare]
  refine walkGF (And.intro @JT.av_eq @cells_mk) ?_
  refine VC.cond (by rfl) (by trivial) (fun h4 => ?_) (fun h4 => ?_)
  · obtain rfl : k = 4 := by simpa using h4
    refine walkGF (And.intro @cells_mk (And.intro @str_empty (And.intro g1 (And.intro @str_size hs)))) ?_
    refine walkDF (@str_dl) (hR) ?_
    refine walkG ?_
    refine ⟨by first | exact .inr rfl | exact .inl rfl, ?_⟩; rw [Tryz.results173]; simp only [resOk, resV, go_sem, simprocAttr]
    refine frz_c ?_
    simp only [jbare, nn_eq, bpick_and, Bool.not_not]
    simp
  refine walkGF (And.intro @JT.av_eq @cells_mk) ?_
  refine VC.cond (by rfl) (by trivial) (fun h5 => ?_) (fun h5 => ?_)
  · obtain rfl : k = 5 := by simpa using h5
    refine walkGF (@cells_mk) ?_
    refine VC.condT (by rfl) (by trivial) ?_
    refine walkGF (And.intro @cells_mk (And.intro @str_empty g1)) ?_
    refine ⟨by first | exact .inr rfl | exact .inl rfl, ?_⟩; rw [Tryz.results173]; simp only [resOk, resV, go_sem, simprocAttr]
    refine frz_c ?_
    simp only [jbare, nn_eq, bpick_and, Bool.not_not]
    simp
  refine walkGF (And.intro @JT.av_eq @cells_mk) ?_
  refine VC.cond (by rfl) (by trivial) (fun h6 => ?_) (fun h6 => ?_)
  · obtain rfl : k = 6 := by simpa using h6
    refine walkGF (And.intro @cells_mk (And.intro @str_empty g1)) ?_
    refine ⟨by first | exact .inr rfl | exact .inl rfl, ?_⟩; rw [Tryz.results173]; simp only [resOk, resV, go_sem, simprocAttr]
    refine frz_c ?_
    simp only [jbare, nn_eq, bpick_and, Bool.not_not]
    simp
  · refine walkGF (And.intro @cells_mk (And.intro @str_empty g1)) ?_
    refine ⟨by first | exact .inr rfl | exact .inl rfl, ?_⟩; rw [Tryz.results173]; simp only [resOk, resV, go_sem, simprocAttr]
    refine frz_c ?_
    simp only [beq_eq_false_iff_ne] at h1 h2 h3 h4 h5 h6
    simp [jbare, h1, h2, h3, h4, h5, h6]
section
open Go.RowKit Go.Sort
set_option maxRecDepth 100000 in
set_option maxHeartbeats 400000 in
theorem valuesS_told (l : List (List UInt8)) : Told Tryz.prog 227 [.c (.sl 1 (l.map sPV))] (.fn (.func 258) [] [.pp [.sl 1 (l.map sPV)]]) := by
  refine VC.told ent_227 Tryz.func227 rfl Tryz.ntmps227 (by simp) (by first | rfl | simp [AV.pureB, AV.pureL, pureL_c, pures]) (by first | rfl | simp [AV.pureB, AV.pureL, pureL_c, pures]) fun hb => ?_
  clear hb
  refine walkG ?_
  refine ⟨by first | exact .inr rfl | exact .inl rfl, ?_⟩; rw [Tryz.results227]; simp only [resOk, resV, go_sem, simprocAttr]
  exact .fnL .nil (.cons (.refP (es := [.sl 1 (l.map sPV)]) rfl rfl rfl rfl rfl) .nil)
set_option maxRecDepth 100000 in
set_option maxHeartbeats 400000 in
theorem collect_told (l : List (List UInt8)) (hl : l.length ≤ 4294967296) : ToldM Tryz.prog 256 [.fn (.func 258) [] [.pp [.sl 1 (l.map sPV)]]] [] [some (sB l)] (.row 1000000 l.length) := by
  have h := appendSeq_told l hl
  unfold sB at h ⊢
  refine VC.toldM ent_256 [16] Tryz.func256 rfl Tryz.ntmps256 (by simp) (by simp only [ sA_len, sA_sc, ScM, zOk, inL, eq_self, used_is, sc_any, sc_c, sc_pp, sc_ref, sc_row, sc_agg, sc_tup, sc_fn, ScL, some_imp, List.forall_mem_map, Nat.le_refl, go_sem, simprocAttr]) (by simp only [ sA_len, sA_sc, ScM, zOk, inL, eq_self, used_is, sc_any, sc_c, sc_pp, sc_ref, sc_row, sc_agg, sc_tup, sc_fn, ScL, some_imp, List.forall_mem_map, Nat.le_refl, go_sem, simprocAttr]) (by simp only [ sA_len, sA_sc, ScM, zOk, inL, eq_self, used_is, sc_any, sc_c, sc_pp, sc_ref, sc_row, sc_agg, sc_tup, sc_fn, ScL, some_imp, List.forall_mem_map, Nat.le_refl, go_sem, simprocAttr]) (by simp only [ sA_len, sA_sc, ScM, zOk, inL, eq_self, used_is, sc_any, sc_c, sc_pp, sc_ref, sc_row, sc_agg, sc_tup, sc_fn, ScL, some_imp, List.forall_mem_map, Nat.le_refl, go_sem, simprocAttr]) (by simp) fun hb hbL => ?_
  clear hb hbL
  refine walkG ?_
  ((refine AO.step fun K hK => ?_; simp only [go_sem, Int.reduceBEq, Int.reduceLE, Int.reduceLT, Int.reduceNeg, Nat.reduceAdd, Nat.reduceEqDiff, Nat.reduceLT, Nat.reduceLeDiff, Nat.reduceMul, Nat.reduceSub, reduceCtorEq, ↓reduceIte, sA_ren]; (first | refine gsel_go ?_ | skip)); refine .inr (.inr (.inl ⟨?vy1, [], ?va1, ?vl1, ?vm1, ?cond1, ?cont1⟩)); (case cond1 => ((repeat' apply And.intro) <;> (try ((with_reducible show ToldM _ _ _ _ _ _); exact h))); (all_goals first | trivial | (simp only [sA_ren, go_sem, simprocAttr]; done) | (simp; done) | rfl)); (first | refine hK _ _ _ ?_ | (simp only [sA_ren, go_sem, simprocAttr]; first | refine hK _ _ _ ?_ | refine ⟨rfl, hK _ _ _ ?_⟩)); clear hK K)
  refine walkGF (And.intro @sA_ren @sA_len) ?_
  refine ⟨by first | exact .inr rfl | exact .inl rfl, ?_⟩; rw [Tryz.results256]; simp only [sA_ren, sA_len, resOk, resV, go_sem, simprocAttr]
  exact .keepW rfl
set_option maxRecDepth 100000 in
set_option maxHeartbeats 400000 in
theorem sorted_told (l : List (List UInt8)) (hl : l.length ≤ 4294967296) : ToldM Tryz.prog 226 [.fn (.func 258) [] [.pp [.sl 1 (l.map sPV)]]] [] [some (sB (srt l))] (.row 1000000 l.length) := by
  have h := collect_told l hl
  have h2 := sort_told l hl
  have hsl := srt_len l
  unfold sB at h h2 ⊢
  refine VC.toldM ent_226 [16] Tryz.func226 rfl Tryz.ntmps226 (by simp) (by simp only [ sA_len, sA_sc, hsl, ScM, zOk, inL, eq_self, used_is, sc_any, sc_c, sc_pp, sc_ref, sc_row, sc_agg, sc_tup, sc_fn, ScL, some_imp, List.forall_mem_map, Nat.le_refl, go_sem, simprocAttr]) (by simp only [ sA_len, sA_sc, hsl, ScM, zOk, inL, eq_self, used_is, sc_any, sc_c, sc_pp, sc_ref, sc_row, sc_agg, sc_tup, sc_fn, ScL, some_imp, List.forall_mem_map, Nat.le_refl, go_sem, simprocAttr]) (by simp only [ sA_len, sA_sc, hsl, ScM, zOk, inL, eq_self, used_is, sc_any, sc_c, sc_pp, sc_ref, sc_row, sc_agg, sc_tup, sc_fn, ScL, some_imp, List.forall_mem_map, Nat.le_refl, go_sem, simprocAttr]) (by simp only [ sA_len, sA_sc, hsl, ScM, zOk, inL, eq_self, used_is, sc_any, sc_c, sc_pp, sc_ref, sc_row, sc_agg, sc_tup, sc_fn, ScL, some_imp, List.forall_mem_map, Nat.le_refl, go_sem, simprocAttr]) (by simp) fun hb hbL => ?_
  clear hb hbL
  refine walkG ?_
  ((refine AO.step fun K hK => ?_; simp only [go_sem, Int.reduceBEq, Int.reduceLE, Int.reduceLT, Int.reduceNeg, Nat.reduceAdd, Nat.reduceEqDiff, Nat.reduceLT, Nat.reduceLeDiff, Nat.reduceMul, Nat.reduceSub, reduceCtorEq, ↓reduceIte, sA_ren]; (first | refine gsel_go ?_ | skip)); refine .inr (.inr (.inl ⟨?vy2, [], ?va2, ?vl2, ?vm2, ?cond2, ?cont2⟩)); (case cond2 => ((repeat' apply And.intro) <;> (try ((with_reducible show ToldM _ _ _ _ _ _); exact h))); (all_goals first | trivial | (simp only [sA_ren, go_sem, simprocAttr]; done) | (simp; done) | rfl)); (first | refine hK _ _ _ ?_ | (simp only [sA_ren, go_sem, simprocAttr]; first | refine hK _ _ _ ?_ | refine ⟨rfl, hK _ _ _ ?_⟩)); clear hK K)
  refine walkGF (And.intro @sA_ren @sA_len) ?_
  ((refine AO.step fun K hK => ?_; simp only [go_sem, Int.reduceBEq, Int.reduceLE, Int.reduceLT, Int.reduceNeg, Nat.reduceAdd, Nat.reduceEqDiff, Nat.reduceLT, Nat.reduceLeDiff, Nat.reduceMul, Nat.reduceSub, reduceCtorEq, ↓reduceIte, sA_ren]; (first | refine gsel_go ?_ | skip)); refine .inr (.inr (.inl ⟨?vy3, [16], ?va3, ?vl3, ?vm3, ?cond3, ?cont3⟩)); (case cond3 => ((repeat' apply And.intro) <;> (try ((with_reducible show ToldM _ _ _ _ _ _); exact h2))); (all_goals first | trivial | (simp only [sA_ren, go_sem, simprocAttr]; done) | (simp; done) | rfl)); (first | refine hK _ _ _ ?_ | (simp only [sA_ren, go_sem, simprocAttr]; first | refine hK _ _ _ ?_ | refine ⟨rfl, hK _ _ _ ?_⟩)); clear hK K)
  refine walkGF (And.intro @sA_ren @sA_len) ?_
  refine ⟨by first | exact .inr rfl | exact .inl rfl, ?_⟩; rw [Tryz.results226]; simp only [sA_ren, sA_len, resOk, resV, go_sem, simprocAttr]
  exact .keepW rfl
set_option maxRecDepth 100000 in
set_option maxHeartbeats 400000 in
theorem keyed1_told (s : List UInt8) (hs : s.length ≤ 140737488355328) : Told Tryz.prog 228 [.c (.v (.string (str s)))] (.c (.v (.bool (!isRight s)))) := by
  have h := uright_told s (by omega)
  refine VC.told ent_228 Tryz.func228 rfl Tryz.ntmps228 (by simp) (by first | rfl | simp [AV.pureB, AV.pureL, pureL_c, pures]) (by first | rfl | simp [AV.pureB, AV.pureL, pureL_c, pures]) fun hb => ?_
  clear hb
  refine walkGF (And.intro @str_size hs) ?_
  refine walkCF (@str_dl) (h) ?_
  refine walkG ?_
  refine ⟨by first | exact .inr rfl | exact .inl rfl, ?_⟩; rw [Tryz.results228]; simp only [resOk, resV, go_sem, simprocAttr]
  exact .c _
def jkeyed : JT → Bool
  | .mk k n s ks xs => if k ≠ 6 then ks.isEmpty else decide (ks.length = xs.length) && (decide ((Lib.compact (srt ks)).length = ks.length) && ks.all isRight)
set_option maxRecDepth 100000 in
set_option maxHeartbeats 800000 in
theorem jkeyed_told (t : JT) (ht : t.sm 4294967296) : Told Tryz.prog 174 [t.av] (.c (.v (.bool (jkeyed t)))) := by
  cases t with
  | mk k n s ks xs =>
  obtain ⟨_, hk, hks, _, _⟩ := ht
  have hV := valuesS_told ks
  have hS := sorted_told ks hk
  have hC := compact_told (srt ks) (by rw [srt_len]; exact hk)
  have hF := cnfS_told (g := 228) (fs := []) (cs := []) rfl rfl ks (fun s => !isRight s) fun s hs => keyed1_told s (by have := hks s hs; omega)
  unfold sB at hS hC
  rw [srt_len] at hC
  refine VC.told ent_174 Tryz.func174 rfl Tryz.ntmps174 (by simp) rfl rfl fun hb => ?_
  clear hb
  refine walkGF (And.intro @JT.av_eq @cells_mk) ?_
  refine VC.cond (by rfl) (by trivial) (fun h6 => ?_) (fun h6 => ?_)
  · refine walkGF (@cells_mk) ?_
    refine ⟨by first | exact .inr rfl | exact .inl rfl, ?_⟩; rw [Tryz.results174]; simp only [resOk, resV, go_sem, simprocAttr]
    refine frz_c ?_
    simp only [bne_iff_ne] at h6
    simp only [jkeyed]
    rw [if_pos h6]
    cases ks <;> simp <;> omega
  · refine walkGF (@cells_mk) ?_
    refine walkC (hV) ?_
    refine walkG ?_
    ((refine AO.step fun K hK => ?_; simp only [go_sem, Int.reduceBEq, Int.reduceLE, Int.reduceLT, Int.reduceNeg, Nat.reduceAdd, Nat.reduceEqDiff, Nat.reduceLT, Nat.reduceLeDiff, Nat.reduceMul, Nat.reduceSub, reduceCtorEq, ↓reduceIte, sA_ren]; (first | refine gsel_go ?_ | skip)); refine .inr (.inr (.inl ⟨?vy4, [], ?va4, ?vl4, ?vm4, ?cond4, ?cont4⟩)); (case cond4 => ((repeat' apply And.intro) <;> (try ((with_reducible show ToldM _ _ _ _ _ _); exact hS))); (all_goals first | trivial | (simp only [sA_ren, go_sem, simprocAttr]; done) | (simp; done) | rfl)); (first | refine hK _ _ _ ?_ | (simp only [sA_ren, go_sem, simprocAttr]; first | refine hK _ _ _ ?_ | refine ⟨rfl, hK _ _ _ ?_⟩)); clear hK K)
    simp only [bne_eq_false_iff_eq] at h6
    subst h6
    by_cases hkx : ks.length = xs.length
    · have hg : ((ks.length : Int) == (xs.length : Int)) = true := by simp [hkx]
      refine walkGF (And.intro @sA_ren (And.intro @sA_len (And.intro @cells_mk hg))) ?_
      ((refine AO.step fun K hK => ?_; simp only [go_sem, Int.reduceBEq, Int.reduceLE, Int.reduceLT, Int.reduceNeg, Nat.reduceAdd, Nat.reduceEqDiff, Nat.reduceLT, Nat.reduceLeDiff, Nat.reduceMul, Nat.reduceSub, reduceCtorEq, ↓reduceIte, sA_ren, sA_len, srt_len]; (first | refine gsel_go ?_ | skip)); refine .inr (.inr (.inl ⟨?vy5, [64], ?va5, ?vl5, ?vm5, ?cond5, ?cont5⟩)); (case cond5 => ((repeat' apply And.intro) <;> (try ((with_reducible show ToldM _ _ _ _ _ _); exact hC))); (all_goals first | trivial | (simp only [sA_ren, sA_len, srt_len, go_sem, simprocAttr]; done) | (simp; done) | rfl)); (first | refine hK _ _ _ ?_ | (simp only [sA_ren, sA_len, srt_len, go_sem, simprocAttr]; first | refine hK _ _ _ ?_ | refine ⟨rfl, hK _ _ _ ?_⟩)); clear hK K)
      refine walkGF (And.intro @sA_ren (And.intro @sA_len (And.intro @cells_mk hg))) ?_
      refine walkDF (@cells_mk) (hF) ?_
      refine walkG ?_
      refine ⟨by first | exact .inr rfl | exact .inl rfl, ?_⟩; rw [Tryz.results174]; simp only [resOk, resV, go_sem, simprocAttr]
      refine frz_c ?_
      have e1 : (!ks.any fun s => !isRight s) = ks.all isRight := by rw [List.not_any_eq_all_not]; simp
      have e2 : (((Lib.compact (srt ks)).length : Int) == (ks.length : Int)) = decide ((Lib.compact (srt ks)).length = ks.length) := by
        rw [Bool.eq_iff_iff]
        simp
        omega
      rw [e1, e2]
      simp [jkeyed, hkx]
    · have hg : ((ks.length : Int) == (xs.length : Int)) = false := by simp; omega
      refine walkGF (And.intro @sA_ren (And.intro @sA_len (And.intro @cells_mk hg))) ?_
      refine ⟨by first | exact .inr rfl | exact .inl rfl, ?_⟩; rw [Tryz.results174]; simp only [resOk, resV, go_sem, simprocAttr]
      refine frz_c ?_
      simp [jkeyed, hkx]
end

set_option maxRecDepth 100000 in
set_option maxHeartbeats 400000 in
theorem ixfJ_told {g : FuncId} {fs cs : List AV} (hp : AV.pureL fs = true) (hp' : AV.pureL cs = true) (l : List (JT)) (p : JT → Bool) (hk : ∀ x ∈ l, Told Tryz.prog g (fs ++ ([x.av] ++ cs)) (.c (.v (.bool (p x))))) :
    Told Tryz.prog 230 [.c (.sl 5 (l.map JT.cells)), .fn (.func g) fs cs] (.c (.v (.int .i64 (idxP p l)))) := by
  refine VC.told ent_230 Tryz.func230 rfl Tryz.ntmps230 (by simp) (by simp [AV.pureB, AV.pureL, hp, hp']) rfl fun hb => ?_
  simp only [List.mem_cons, List.not_mem_nil, or_false, forall_eq_or_imp, forall_eq, abd_c, pbd_sl, List.length_map] at hb
  have h1 := hb.1.1
  clear hb
  refine walkG ?_
  refine VC.loop (ι := {i : Nat // i ≤ l.length ∧ ∀ j x, j < i → l[j]? = some x → p x = false}) (fun i => [(0, .c (.sl 5 (l.map JT.cells))), (1, .fn (.func g) fs cs), (7, .c (.v (.int .i64 l.length))), (8, .c (.v (.int .i64 i.1)))]) (fun _ => []) 0 (fun i => l.length - i.1) ⟨0, Nat.zero_le _, by intro j x hj; omega⟩ ?_ ?_
  · simp only [sc_pureL hp, sc_pureL hp', Weak, eq_self, used_is, sc_any, sc_c, sc_pp, sc_ref, sc_row, sc_agg, sc_fn, ScL, some_imp, List.forall_mem_map, go_sem, Int.reduceBEq, Int.reduceLE, Int.reduceLT, Int.reduceNeg, Nat.reduceAdd, Nat.reduceEqDiff, Nat.reduceLT, Nat.reduceLeDiff, Nat.reduceMul, Nat.reduceSub, reduceCtorEq, ↓reduceIte]
    all_goals rfl
  rintro ⟨i, hi, ht⟩
  refine walkG ?_
  refine VC.cond (by rfl) (by trivial) (fun hc => ?_) (fun hc => ?_)
  · simp only [decide_eq_true_eq] at hc
    obtain ⟨x, hx⟩ : ∃ x, l[i]? = some x := ⟨l[i]'(by omega), List.getElem?_eq_getElem _⟩
    have hw : IntKind.i64.wrap ((i : Int) + 1) = (i : Int) + 1 := wrap64_id (by omega) (by omega)
    have hkx := hk x (List.mem_of_getElem? hx)
    (repeat (first | refine pass ?_ | refine VC.region (by rfl) (by rfl) ?_ | (refine AO.step fun K hK => ?_; simp only [List.getElem?_map, hx, JT.av, len_cells, take_cells, take_cellsC, go_sem, Int.reduceBEq, Int.reduceLE, Int.reduceLT, Int.reduceNeg, Nat.reduceAdd, Nat.reduceEqDiff, Nat.reduceLT, Nat.reduceLeDiff, Nat.reduceMul, Nat.reduceSub, reduceCtorEq, ↓reduceIte]; (first | refine gsel_skip ?_ | refine gsel_go ?_ | skip); (first | refine hK _ _ _ ?_ | refine ⟨by first | omega | exact ⟨_, rfl, rfl⟩ | exact fun _ => ⟨_, rfl, rfl⟩ | (intro h; simp only [List.getElem?_map, hx, JT.av, len_cells, take_cells, take_cellsC, h, true_and]; omega) | (clear hK; intro h; simp_all <;> omega), hK _ _ _ ?_⟩); clear hK K) | refine VC.draw mixP (by rfl) (by rfl) ?_ | refine ⟨okd_of (by kernel_rfl), ?_⟩ | refine BQ.other (by decide) ?_ | refine VC.seq ?_ | refine AO.nil ?_ | refine VC.block ?_))
    ((refine AO.step fun K hK => ?_; simp only [go_sem, Int.reduceBEq, Int.reduceLE, Int.reduceLT, Int.reduceNeg, Nat.reduceAdd, Nat.reduceEqDiff, Nat.reduceLT, Nat.reduceLeDiff, Nat.reduceMul, Nat.reduceSub, reduceCtorEq, ↓reduceIte, JT.av, len_cells, take_cells, take_cellsC, hp, hp', pureL_app, pureL_c, List.append_assoc]; (first | refine gsel_go ?_ | skip)); refine .inl ⟨_, hkx, hK _ _ _ ?_⟩; clear hK K)
    refine walkG ?_
    refine VC.cond (by rfl) (by trivial) (fun hpx => ?_) (fun hpx => ?_)
    · have hr := idxP_at hx hpx ht
      refine walkG ?_
      refine ⟨by first | exact .inr rfl | exact .inl rfl, ?_⟩; rw [Tryz.results230]; simp only [resOk, resV, go_sem, simprocAttr]
      rw [hr]
      exact .c _
    · refine walkGF (hw) ?_
      refine .next ⟨i + 1, by omega, fun j y hj hy => ?_⟩ ?_ (by simp only []; omega)
      · rcases Nat.lt_or_ge j i with h | h
        · exact ht j y h hy
        · obtain rfl : j = i := by omega
          rw [hx] at hy
          obtain rfl := Option.some.inj hy
          exact hpx
      simp only [sc_pureL hp, sc_pureL hp', Weak, eq_self, used_is, sc_any, sc_c, sc_pp, sc_ref, sc_row, sc_agg, sc_fn, ScL, some_imp, List.forall_mem_map, go_sem, Int.reduceBEq, Int.reduceLE, Int.reduceLT, Int.reduceNeg, Nat.reduceAdd, Nat.reduceEqDiff, Nat.reduceLT, Nat.reduceLeDiff, Nat.reduceMul, Nat.reduceSub, reduceCtorEq, ↓reduceIte]
      exact cI (by omega)
  · simp only [decide_eq_false_iff_not] at hc
    obtain rfl : i = l.length := by omega
    have hr := idxP_none ht
    refine walkG ?_
    refine ⟨by first | exact .inr rfl | exact .inl rfl, ?_⟩; rw [Tryz.results230]; simp only [resOk, resV, go_sem, simprocAttr]
    rw [hr]
    exact .c _
set_option maxRecDepth 100000 in
set_option maxHeartbeats 400000 in
theorem cnfJ_told {g : FuncId} {fs cs : List AV} (hp : AV.pureL fs = true) (hp' : AV.pureL cs = true) (l : List (JT)) (p : JT → Bool) (hk : ∀ x ∈ l, Told Tryz.prog g (fs ++ ([x.av] ++ cs)) (.c (.v (.bool (p x))))) :
    Told Tryz.prog 175 [.c (.sl 5 (l.map JT.cells)), .fn (.func g) fs cs] (.c (.v (.bool (l.any p)))) := by
  have hi := ixfJ_told hp hp' l p hk
  refine VC.told ent_175 Tryz.func175 rfl Tryz.ntmps175 (by simp) (by simp [AV.pureB, AV.pureL, hp, hp']) rfl fun hb => ?_
  clear hb
  refine walkG ?_
  refine walkCF (And.intro hp hp') (hi) ?_
  refine walkG ?_
  refine ⟨by first | exact .inr rfl | exact .inl rfl, ?_⟩; rw [Tryz.results175]; simp only [resOk, resV, go_sem, simprocAttr]
  exact frz_c (by rw [idxP_any])
end
end Go.Proofs.YtllnlmchjljhlaaGreatDoor
