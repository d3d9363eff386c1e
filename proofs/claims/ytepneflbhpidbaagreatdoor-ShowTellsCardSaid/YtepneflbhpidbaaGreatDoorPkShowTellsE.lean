/- Texts that lead to the law ShowTells, joined. -/
import Derived.Test.YtepneflbhpidbaaGreatDoorPkShowTellsD
import Derived.Test.YtepneflbhpidbaaGreatDoorPkShowTellsC
import Derived.Test.YtepneflbhpidbaaGreatDoorPkShowTellsA
import Derived.Test.YtepneflbhpidbaaGreatDoorPkShowTellsB
namespace Go.Proofs.YtepneflbhpidbaaGreatDoor
set_option maxRecDepth 100000
set_option maxHeartbeats 6400000
open Go.RowKit
set_option linter.unusedVariables false
set_option linter.unusedSimpArgs false
section
attribute [local go_sem] opx opE ev okx gcond bnd okO AV.get AV.okb cAV upd_at putd_some putd_none wrs_nil wrs_cons look_nil look_cons st argT_at bpick_and bpick_or bpick_true bpick_false binV binI binS binVOk binOk isShift binSOk unV unVOk loadV loadP cellsA zeroA Blkd.len setE grown moreA moreR moreOk eqRes pv fillA fillE putSeg AV.cellish AV.pureL AV.pureB lentL_is ex_some AV.ren AV.renL renL_c Blkd.ren rho wrM renN lentOk rhoE keepM endOk tyA_2 tyA_3 tyA_4 tyA_5 tyA_6 tyA_7 tyA_8 tyA_9 tyA_10 tyA_11 tyA_12 tyA_13 tyA_14 tyA_15 tyA_16 tyA_17 tyA_18 tyA_19 tyA_21 tyA_22 tyA_23 tyA_24 tyA_29 tyA_30 tyA_31 tyA_32 tyA_33 tyA_34 tyA_35 tyA_36 tyA_37 tyA_38 tyA_39 tyA_40 tyA_41 tyA_42 tyA_43 tyA_48 tyA_72 tyA_76 tyA_85 tyA_86 tyA_87 tyA_88 tyA_97 tyA_100 tyA_101 tyA_102 tyA_103 tyA_104 tyA_105 tyA_106 tyA_128 tyA_137 tyA_138 tyA_139 tyA_140 tyA_141 tyA_142 tyA_147 tyA_148 tyA_149 tyA_167 tyA_168 tyA_169 tyA_170 tyA_172 tyA_176 tyA_177 tyA_178 tyA_186 tyA_196 tyA_231 tyA_232 tyA_233 tyA_257 tyA_262 tyA_268 tyA_270 tyA_272 tyA_281 tyA_285 tyA_287 tyA_290 tyA_291 tyA_292 tyA_293 tyA_294 tyA_295 tyA_296 tyA_298 tyA_299 Option.map_some Option.map_none Option.getD_some Option.getD_none Option.bind_some Option.bind_none List.getElem?_cons_zero List.getElem?_cons_succ List.getElem?_nil List.getElem?_toArray List.length_cons List.length_nil List.length_map List.forall_mem_map List.map_cons List.map_nil List.drop_zero List.drop_succ_cons List.drop_nil List.take_zero List.take_succ_cons List.take_nil List.mem_cons List.not_mem_nil or_false forall_eq_or_imp forall_eq List.set_cons_zero List.set_cons_succ List.cons_append List.nil_append List.append_nil List.foldl_cons List.foldl_nil List.replicate_succ List.replicate_zero List.all_cons List.all_nil if_true if_false Bool.false_eq_true ne_eq not_false_eq_true not_true_eq_false true_and and_true and_self true_implies imp_self implies_true forall_const beq_self_eq_true Bool.and_true Bool.true_and Bool.and_false Bool.false_and Bool.or_true Bool.true_or Bool.or_false Bool.false_or Bool.not_true Bool.not_false Bool.not_eq_eq_eq_not intKindOf Value.oneCell' Int.toNat_natCast beq_true beq_false Bool.not_eq_true false_implies false_or true_or or_true Nat.zero_add Nat.add_zero decide_true decide_false Int.cast_ofNat_Int Int.toNat_zero Int.toNat_one eq_self

def sizesL : List Int := [0, 64, 4096, 262144]
def marksL : List Int := [0, 192, 224, 240]
def cvS (l : List UInt8) (n : Nat) : Nat → Int
 | 0 => if n = 1 then (bN l 0 : Int) else if n = 2 then ((bN l 0 : Int) - 192) * 64 else if n = 3 then ((bN l 0 : Int) - 224) * 4096 else ((bN l 0 : Int) - 240) * 262144
 | i + 1 => cvS l n i + ((bN l (i + 1) : Int) - 128) * ((64 ^ (n - 1 - (i + 1)) : Nat) : Int)
theorem cvS_end {l : List UInt8} {n : Nat} (h1 : 1 ≤ n) (h4 : n ≤ 4) : cvS l n (n - 1) = cvN l 0 n := by
 rcases (by omega : n = 1 ∨ n = 2 ∨ n = 3 ∨ n = 4) with rfl | rfl | rfl | rfl <;> simp [cvS, cvN]
theorem cvS_le {l : List UInt8} {n : Nat} (h1 : 1 ≤ n) (h4 : n ≤ 4) : ∀ i, i < n → -100000000 * ((i : Int) + 1) ≤ cvS l n i ∧ cvS l n i ≤ 100000000 * ((i : Int) + 1)
 | 0, _ => by
   have := bN_lt l 0
   unfold cvS
   split
   · omega
   · split
     · omega
     · split <;> omega
 | i + 1, h => by
   obtain ⟨a, b⟩ := cvS_le (l := l) h1 h4 i (by omega)
   have := bN_lt l (i + 1)
   have hp : 64 ^ (n - 1 - (i + 1)) ≤ 4096 := by
    have : n - 1 - (i + 1) ≤ 2 := by omega
    calc 64 ^ (n - 1 - (i + 1)) ≤ 64 ^ 2 := Nat.pow_le_pow_right (by omega) this
     _ = 4096 := rfl
   rw [cvS]
   generalize 64 ^ (n - 1 - (i + 1)) = p at hp ⊢
   have h1 : ((bN l (i + 1) : Int) - 128) * (p : Int) ≤ 128 * 4096 := by
    by_cases hs : (bN l (i + 1) : Int) - 128 ≤ 0
    · have := Int.mul_nonpos_of_nonpos_of_nonneg hs (by omega : (0 : Int) ≤ p)
      omega
    · exact Int.mul_le_mul (by omega) (by omega) (by omega) (by omega)
   have h2 : -(128 * 4096) ≤ ((bN l (i + 1) : Int) - 128) * (p : Int) := by
    have : (128 - (bN l (i + 1) : Int)) * (p : Int) ≤ 128 * 4096 := by
     by_cases hs : 128 - (bN l (i + 1) : Int) ≤ 0
     · have := Int.mul_nonpos_of_nonpos_of_nonneg hs (by omega : (0 : Int) ≤ p)
       omega
     · exact Int.mul_le_mul (by omega) (by omega) (by omega) (by omega)
    have e : (128 - (bN l (i + 1) : Int)) * (p : Int) = -(((bN l (i + 1) : Int) - 128) * (p : Int)) := by rw [← Int.neg_mul]; congr 1; omega
    omega
   have e : ((i + 1 : Nat) : Int) = (i : Int) + 1 := by omega
   rw [e]
   constructor <;> omega
theorem rwhole_told (m : List UInt8) (hbig : m.length ≤ 1000000) : Told Tryz.prog 239 [.c (.sl 1 (bytePV m))] (.c (.v (.int .i64 (wholeV m 0)))) := by
 have hlen : (bytePV m).length = m.length := by simp [bytePV]
 obtain ⟨V, hV⟩ : ∃ V, V = wholeV m 0 := ⟨_, rfl⟩
 rw [← hV]
 refine VC.toldP ent_239 Tryz.func239 rfl Tryz.ntmps239 fun hb => ?_
 clear hb
 (refine VC.seq ?_; (first | refine VC.region (by rfl) (by rfl) ?_ | refine VC.draw mixP (by rfl) (by rfl) ?_); (repeat (refine AO.step fun K hK => ?_; simp only [go_sem, Int.reduceBEq, Int.reduceLE, Int.reduceLT, Int.reduceNeg, Nat.reduceAdd, Nat.reduceEqDiff, Nat.reduceLT, Nat.reduceLeDiff, Nat.reduceMul, Nat.reduceSub, reduceCtorEq, ↓reduceIte]; (first | refine gsel_skip ?_ | refine gsel_go ?_ | skip); (first | refine hK _ _ _ ?_ | refine ⟨by first | omega | exact ⟨_, rfl, rfl⟩ | exact fun _ => ⟨_, rfl, rfl⟩ | (intro h; simp only [h, true_and]; omega) | (clear hK; intro h; simp_all <;> omega), hK _ _ _ ?_⟩); clear hK K)); refine AO.nil ?_; first | refine SQ.normal ?_ | refine ⟨okd_of (by kernel_rfl), SQ.normal ?_⟩)
 (refine VC.seq ?_; (first | refine VC.region (by rfl) (by rfl) ?_ | refine VC.draw mixP (by rfl) (by rfl) ?_); (repeat (refine AO.step fun K hK => ?_; simp only [go_sem, Int.reduceBEq, Int.reduceLE, Int.reduceLT, Int.reduceNeg, Nat.reduceAdd, Nat.reduceEqDiff, Nat.reduceLT, Nat.reduceLeDiff, Nat.reduceMul, Nat.reduceSub, reduceCtorEq, ↓reduceIte]; (first | refine gsel_skip ?_ | refine gsel_go ?_ | skip); (first | refine hK _ _ _ ?_ | refine ⟨by first | omega | exact ⟨_, rfl, rfl⟩ | exact fun _ => ⟨_, rfl, rfl⟩ | (intro h; simp only [h, true_and]; omega) | (clear hK; intro h; simp_all <;> omega), hK _ _ _ ?_⟩); clear hK K)); refine AO.nil ?_; first | refine SQ.normal ?_ | refine ⟨okd_of (by kernel_rfl), SQ.normal ?_⟩)
 (refine VC.seq ?_; (first | refine VC.region (by rfl) (by rfl) ?_ | refine VC.draw mixP (by rfl) (by rfl) ?_); (repeat (refine AO.step fun K hK => ?_; simp only [go_sem, Int.reduceBEq, Int.reduceLE, Int.reduceLT, Int.reduceNeg, Nat.reduceAdd, Nat.reduceEqDiff, Nat.reduceLT, Nat.reduceLeDiff, Nat.reduceMul, Nat.reduceSub, reduceCtorEq, ↓reduceIte]; (first | refine gsel_skip ?_ | refine gsel_go ?_ | skip); (first | refine hK _ _ _ ?_ | refine ⟨by first | omega | exact ⟨_, rfl, rfl⟩ | exact fun _ => ⟨_, rfl, rfl⟩ | (intro h; simp only [h, true_and]; omega) | (clear hK; intro h; simp_all <;> omega), hK _ _ _ ?_⟩); clear hK K)); refine AO.nil ?_; first | refine SQ.normal ?_ | refine ⟨okd_of (by kernel_rfl), SQ.normal ?_⟩)
 refine VC.frz [8, 24] [(0, .c (.sl 1 (bytePV m))), (3, .c (.sl 1 (sizesL.map iPV))), (4, .c (.sl 1 (marksL.map iPV)))] [] 400 ?_ ?_
 · simp only [WeakF, used_is, sc_any, sc_c, sc_pp, sc_ref, sc_row, sc_agg, sc_fn, ScL, some_imp, List.forall_mem_map, go_sem, Int.reduceBEq, Int.reduceLE, Int.reduceLT, Int.reduceNeg, Nat.reduceAdd, Nat.reduceEqDiff, Nat.reduceLT, Nat.reduceLeDiff, Nat.reduceMul, Nat.reduceSub, reduceCtorEq, ↓reduceIte]
   exact ⟨.same _, .row (B := ⟨true, 2, 1, [[.c (.v (.int .i64 0))], [.c (.v (.int .i64 64))], [.c (.v (.int .i64 4096))], [.c (.v (.int .i64 262144))]]⟩) (es := sizesL.map iPV) (by simp) rfl rfl rfl rfl,
    .row (B := ⟨true, 2, 1, [[.c (.v (.int .i64 0))], [.c (.v (.int .i64 192))], [.c (.v (.int .i64 224))], [.c (.v (.int .i64 240))]]⟩) (es := marksL.map iPV) (by simp) rfl rfl rfl rfl⟩
 refine walkG ?_
 refine VC.loop (ι := {n : Nat // 1 ≤ n ∧ n ≤ 5 ∧ ∀ k, 1 ≤ k → k < n → wtest m 0 k = false}) (fun q => [(0, .c (.sl 1 (bytePV m))), (3, .c (.sl 1 (sizesL.map iPV))), (4, .c (.sl 1 (marksL.map iPV))), (5, .c (.v (.int .i64 (q.1 : Int))))]) (fun _ => []) 800 (fun q => 5 - q.1)
  ⟨1, by omega, by omega, fun k h1 h2 => by omega⟩ ?_ ?_
 · exact weakZ
 rintro ⟨n, hn1, hn5, hno⟩
 simp only []
 refine walkGF (hlen) ?_
 refine VC.cond (by rfl) (by trivial) (fun hc => ?_) (fun hc => ?_)
 rotate_left
 · have hf : V = -1 := by
    have hend : n = 5 ∨ m.length < n := by
     simp at hc
     omega
    have hall : ∀ k, 1 ≤ k → k ≤ 4 → wtest m 0 k = false := fun k h1 h2 => by
     by_cases hk : k < n
     · exact hno k h1 hk
     · rcases wtest_long (l := m) (p := 0) (n := k) (by omega) with h | h
       · exact h
       · omega
    rw [hV]
    exact wtest_none (hall 1 (by omega) (by omega)) (hall 2 (by omega) (by omega)) (hall 3 (by omega) (by omega)) (hall 4 (by omega) (by omega))
   subst hf
   refine walkG ?_
   refine retX Tryz.results239 ?_
   exact .c _
 have hn4 : n ≤ 4 ∧ n ≤ m.length := by
  simp at hc
  omega
 clear hc
 have hp0 := pv_at (l := m) (i := 0) (by omega)
 have hb0 : ((byteAt m 0).toNat : Int) = (bN m 0 : Int) := rfl
 have hbl := bN_lt m 0
 rw [hb0] at hp0
 refine walkGF (hp0) ?_
 refine VC.meet [(0, .c (.sl 1 (bytePV m))), (3, .c (.sl 1 (sizesL.map iPV))), (4, .c (.sl 1 (marksL.map iPV))), (5, .c (.v (.int .i64 (n : Int)))), (6, .c (.v (.int .i64 (cvS m n 0))))] [] 2000 ?_ ?_
 · have hwb : IntKind.i64.wrap (bN m 0 : Int) = (bN m 0 : Int) := wrap64_id (by omega) (by omega)
   by_cases hn : n = 1
   · subst hn
     have hcv : cvS m 1 0 = (bN m 0 : Int) := by simp [cvS]
     rw [hcv]
     refine walkBF (hwb) ?_
     refine .normal ?_
     exact weakZF (hwb)
   · obtain ⟨mk, sz, hmk, hsz, hcv, hb1, hb2⟩ : ∃ mk sz : Int, (marksL.map iPV)[n - 1]? = some (iPV mk) ∧ (sizesL.map iPV)[n - 1]? = some (iPV sz) ∧ cvS m n 0 = ((bN m 0 : Int) - mk) * sz ∧ (0 ≤ mk ∧ mk ≤ 1000) ∧ (-1000000000 ≤ ((bN m 0 : Int) - mk) * sz ∧ ((bN m 0 : Int) - mk) * sz ≤ 1000000000) := by
      rcases (by omega : n = 2 ∨ n = 3 ∨ n = 4) with rfl | rfl | rfl
      · exact ⟨192, 64, rfl, rfl, by simp [cvS], by omega, by omega⟩
      · exact ⟨224, 4096, rfl, rfl, by simp [cvS], by omega, by omega⟩
      · exact ⟨240, 262144, rfl, rfl, by simp [cvS], by omega, by omega⟩
     rw [hcv]
     have hw1 : IntKind.i64.wrap ((n : Int) - 1) = ((n - 1 : Nat) : Int) := by rw [wrap64_id (by omega) (by omega)]; omega
     have hw2 : IntKind.i64.wrap ((bN m 0 : Int) - mk) = (bN m 0 : Int) - mk := wrap64_id (by omega) (by omega)
     have hw3 : IntKind.i64.wrap (((bN m 0 : Int) - mk) * sz) = ((bN m 0 : Int) - mk) * sz := wrap64_id (by omega) (by omega)
     have hml : (marksL.map iPV).length = 4 := rfl
     have hsl : (sizesL.map iPV).length = 4 := rfl
     refine VC.cond (by rfl) (by trivial) (fun hc4 => ?_) (fun hc4 => ?_)
     rotate_left
     · exact absurd hc4 (by simp; omega)
     refine walkGF (And.intro hp0 (And.intro hw1 (And.intro hmk (And.intro hsz (And.intro @iPV_eq (And.intro hwb (And.intro hw2 (And.intro hw3 (And.intro hml hsl))))))))) ?_
     refine .normal ?_
     exact weakZF (hw3)
 refine walkG ?_
 refine VC.loop (ι := {i : Nat // 1 ≤ i ∧ i ≤ n}) (fun q => [(0, .c (.sl 1 (bytePV m))), (3, .c (.sl 1 (sizesL.map iPV))), (4, .c (.sl 1 (marksL.map iPV))), (5, .c (.v (.int .i64 (n : Int)))), (6, .c (.v (.int .i64 (cvS m n (q.1 - 1))))), (7, .c (.v (.int .i64 (q.1 : Int))))]) (fun _ => []) 4000 (fun q => n - q.1)
  ⟨1, Nat.le_refl _, hn1⟩ ?_ ?_
 · simp only [Weak, eq_self, used_is, sc_any, sc_c, sc_pp, sc_ref, sc_row, sc_agg, sc_fn, ScL, some_imp, List.forall_mem_map, go_sem, Int.reduceBEq, Int.reduceLE, Int.reduceLT, Int.reduceNeg, Nat.reduceAdd, Nat.reduceEqDiff, Nat.reduceLT, Nat.reduceLeDiff, Nat.reduceMul, Nat.reduceSub, reduceCtorEq, ↓reduceIte]
   try simp
 rintro ⟨i, hi1, hin⟩
 simp only []
 refine walkG ?_
 refine VC.cond (by rfl) (by trivial) (fun hc => ?_) (fun hc => ?_)
 · have hlt : i < n := by simp at hc; omega
   have hw : IntKind.i64.wrap ((i : Int) + 1) = (i : Int) + 1 := wrap64_id (by omega) (by omega)
   refine walkGF (hw) ?_
   refine VC.loop (ι := {q : Nat × Nat // i + 1 ≤ q.1 ∧ q.1 ≤ n ∧ q.2 = 64 ^ (q.1 - (i + 1))}) (fun q => [(0, .c (.sl 1 (bytePV m))), (3, .c (.sl 1 (sizesL.map iPV))), (4, .c (.sl 1 (marksL.map iPV))), (5, .c (.v (.int .i64 (n : Int)))), (6, .c (.v (.int .i64 (cvS m n (i - 1))))), (7, .c (.v (.int .i64 (i : Int)))), (8, .c (.v (.int .i64 (q.1.2 : Int)))), (9, .c (.v (.int .i64 (q.1.1 : Int))))]) (fun _ => []) 6000 (fun q => n - q.1.1)
    ⟨(i + 1, 1), Nat.le_refl _, hlt, by simp⟩ ?_ ?_
   · simp only [Weak, eq_self, used_is, sc_any, sc_c, sc_pp, sc_ref, sc_row, sc_agg, sc_fn, ScL, some_imp, List.forall_mem_map, go_sem, Int.reduceBEq, Int.reduceLE, Int.reduceLT, Int.reduceNeg, Nat.reduceAdd, Nat.reduceEqDiff, Nat.reduceLT, Nat.reduceLeDiff, Nat.reduceMul, Nat.reduceSub, reduceCtorEq, ↓reduceIte]
     try exact cI (by omega)
   rintro ⟨⟨k, p⟩, hk1, hk2, hp⟩
   simp only [] at hk1 hk2 hp ⊢
   have hpl : p ≤ 4096 := by
    rw [hp]
    calc 64 ^ (k - (i + 1)) ≤ 64 ^ 2 := Nat.pow_le_pow_right (by omega) (by omega)
     _ = 4096 := rfl
   refine walkG ?_
   refine VC.cond (by rfl) (by trivial) (fun hc2 => ?_) (fun hc2 => ?_)
   · have hlk : k < n := by simp at hc2; omega
     have hwk : IntKind.i64.wrap ((k : Int) + 1) = (k : Int) + 1 := wrap64_id (by omega) (by omega)
     have hwp : IntKind.i64.wrap ((p : Int) * 64) = (p : Int) * 64 := wrap64_id (by omega) (by omega)
     refine walkGF (And.intro hwk hwp) ?_
     refine .next ⟨(k + 1, p * 64), by simp only []; omega, by simp only []; omega, by simp only []; rw [hp, show k + 1 - (i + 1) = (k - (i + 1)) + 1 by omega, Nat.pow_succ]⟩ ?_ (by simp only []; omega)
     refine weakX ?_
     exact ⟨cI (by omega), cI (by omega)⟩
   · have hke : k = n := by simp at hc2; omega
     subst hke
     have hpi := pv_at (l := m) (i := i) (by omega)
     have hbi : ((byteAt m i).toNat : Int) = (bN m i : Int) := rfl
     have hbil := bN_lt m i
     rw [hbi] at hpi
     have hwi : IntKind.i64.wrap (bN m i : Int) = (bN m i : Int) := wrap64_id (by omega) (by omega)
     have hw1 : IntKind.i64.wrap ((bN m i : Int) - 128) = (bN m i : Int) - 128 := wrap64_id (by omega) (by omega)
     have hcs : cvS m k i = cvS m k (i - 1) + ((bN m i : Int) - 128) * (p : Int) := by
      obtain ⟨j, rfl⟩ : ∃ j, i = j + 1 := ⟨i - 1, by omega⟩
      rw [cvS, hp, show j + 1 - 1 = j by omega, show k - 1 - (j + 1) = k - (j + 1 + 1) by omega]
     have hbd := cvS_le (l := m) hn1 (by omega) (i - 1) (by omega)
     have hbd2 := cvS_le (l := m) hn1 (by omega) i (by omega)
     rw [hcs] at hbd2
     have hw2 : IntKind.i64.wrap (((bN m i : Int) - 128) * (p : Int)) = ((bN m i : Int) - 128) * (p : Int) := wrap64_id (by omega) (by omega)
     have hw3 : IntKind.i64.wrap (cvS m k (i - 1) + ((bN m i : Int) - 128) * (p : Int)) = cvS m k (i - 1) + ((bN m i : Int) - 128) * (p : Int) := wrap64_id (by omega) (by omega)
     refine walkGF (And.intro hpi (And.intro hwi (And.intro hw1 (And.intro hw2 (And.intro hw3 hw))))) ?_
     refine .next ⟨i + 1, by omega, by omega⟩ ?_ (by simp only []; omega)
     refine weakXF (hcs) ?_
     refine ⟨?_, cI (by omega)⟩
     rw [show i + 1 - 1 = i by omega, hcs]
 · have hie : i = n := by simp at hc; omega
   subst hie
   rw [cvS_end hn1 hn4.1]
   have hC := rchar_told (cvN m 0 i)
   by_cases hch : isChr (cvN m 0 i) = true
   rotate_left
   · have hch : isChr (cvN m 0 i) = false := by simpa using hch
     rw [hch] at hC
     have ht : wtest m 0 i = false := by rw [wtest, hch]; rfl
     have hw : IntKind.i64.wrap ((i : Int) + 1) = (i : Int) + 1 := wrap64_id (by omega) (by omega)
     refine walkG ?_
     refine walkC (hC) ?_
     refine walkBF (hw) ?_
     refine .next ⟨i + 1, by omega, by omega, notest hno ht⟩ ?_ (by simp only []; omega)
     refine weakX ?_
     exact cI (by omega)
   · have hci := isChr_iff.1 hch
     rw [hch] at hC
     obtain ⟨c, hcc⟩ : ∃ c : Nat, cvN m 0 i = (c : Int) := ⟨(cvN m 0 i).toNat, by omega⟩
     have hw : IntKind.i64.wrap ((i : Int) + 1) = (i : Int) + 1 := wrap64_id (by omega) (by omega)
     have ht : wtest m 0 i = (((uenc c).length == i) && (uenc c).isPrefixOf m) := by rw [wtest, hch, hcc]; simp
     have hVn := fun h : wtest m 0 i = true => wtest_n (l := m) (p := 0) h
     rw [← hV, hcc] at hVn
     rw [hcc] at hC ⊢
     have hP := rput_told c (by omega)
     have hul := uenc_len c
     have hS := rstarts_told m (uenc c) hbig (by omega)
     have hpl : (bytePV (uenc c)).length = (uenc c).length := by simp [bytePV]
     obtain ⟨b, hb⟩ : ∃ b, b = (uenc c).isPrefixOf m := ⟨_, rfl⟩
     rw [← hb] at hS ht
     refine walkG ?_
     refine walkC (hC) ?_
     refine walkG ?_
     refine walkC (hP) ?_
     refine walkGF (hpl) ?_
     refine walkD (hP) ?_
     refine walkGF (hpl) ?_
     refine walkD (hS) ?_
     refine walkG ?_
     refine VC.cond (by rfl) (by trivial) (fun hc3 => ?_) (fun hc3 => ?_)
     · have ht1 : wtest m 0 i = true := by
        rw [ht]
        simp at hc3 ⊢
        exact ⟨by omega, hc3.2⟩
       obtain rfl : V = (c : Int) := hVn ht1
       refine walkG ?_
       refine retX Tryz.results239 ?_
       exact .c _
     · have ht1 : wtest m 0 i = false := by
        rw [ht]
        simp at hc3 ⊢
        intro h1
        exact hc3 (by omega)
       refine walkGF (hw) ?_
       refine .next ⟨i + 1, by omega, by omega, notest hno ht1⟩ ?_ (by simp only []; omega)
       refine weakX ?_
       exact cI (by omega)
def begB (m : List UInt8) (j : Nat) : Bool := decide (0 ≤ wholeV (m ++ fillL j) 0) && decide (m.length < (uenc (wholeV (m ++ fillL j) 0).toNat).length)
theorem rbegun_told (m : List UInt8) (hbig : m.length ≤ 1000) : ∃ b, Told Tryz.prog 241 [.c (.sl 1 (bytePV m))] (.c (.v (.bool b))) := by
 have hlen : (bytePV m).length = m.length := by simp [bytePV]
 by_cases h0 : m.length = 0
 · refine ⟨true, ?_⟩
   have e0 : ((m.length : Int) == 0) = true := by rw [h0]; rfl
   refine VC.toldP ent_241 Tryz.func241 rfl Tryz.ntmps241 fun hb => ?_
   clear hb
   refine walkBF (And.intro hlen e0) ?_
   refine retX Tryz.results241 ?_
   exact .c _
 have e0 : ((m.length : Int) == 0) = false := beq_eq_false_iff_ne.2 (by omega)
 obtain ⟨V, hV⟩ : ∃ V, V = (List.range 6).any (begB m) := ⟨_, rfl⟩
 refine ⟨V, ?_⟩
 refine VC.toldP ent_241 Tryz.func241 rfl Tryz.ntmps241 fun hb => ?_
 clear hb
 refine walkBF (And.intro hlen e0) ?_
 refine VC.frz [32] [(0, .c (.sl 1 (bytePV m))), (3, .row 80 6), (4, .c (.v (.int .i64 0)))] [(40, ⟨true, 5, 1, [[.c (.v (.int .u8 191))], [.c (.v (.int .u8 191))], [.c (.v (.int .u8 191))]]⟩), (48, ⟨true, 5, 1, [[.c (.v (.int .u8 160))], [.c (.v (.int .u8 128))], [.c (.v (.int .u8 128))]]⟩), (56, ⟨true, 5, 1, [[.c (.v (.int .u8 144))], [.c (.v (.int .u8 128))], [.c (.v (.int .u8 128))]]⟩), (64, ⟨true, 5, 1, [[.c (.v (.int .u8 143))], [.c (.v (.int .u8 191))], [.c (.v (.int .u8 191))]]⟩), (72, ⟨true, 5, 1, [[.c (.v (.int .u8 159))], [.c (.v (.int .u8 191))], [.c (.v (.int .u8 191))]]⟩), (80, ⟨true, 40, 1, [[.c (.sl 1 (bytePV (fillL 0)))], [.row 40 3], [.row 48 3], [.row 56 3], [.row 64 3], [.row 72 3]]⟩)] 400 ?_ ?_
 · simp only [WeakF, used_is, sc_any, sc_c, sc_pp, sc_ref, sc_row, sc_agg, sc_fn, ScL, some_imp, List.forall_mem_map, go_sem, Int.reduceBEq, Int.reduceLE, Int.reduceLT, Int.reduceNeg, Nat.reduceAdd, Nat.reduceEqDiff, Nat.reduceLT, Nat.reduceLeDiff, Nat.reduceMul, Nat.reduceSub, reduceCtorEq, ↓reduceIte]
   exact ⟨⟨.same _, .same _, .same _⟩, .same _, .same _, .same _, .same _, .same _, .set (i := 0) (e' := [.c (.sl 1 (bytePV (fillL 0)))]) rfl (.cons (.row (B := ⟨true, 5, 1, [[.c (.v (.int .u8 128))], [.c (.v (.int .u8 128))], [.c (.v (.int .u8 128))]]⟩) (es := bytePV (fillL 0)) (by simp) rfl rfl rfl rfl) .nil) (by simp [AV.cellish])⟩
 refine VC.frz [40] [(0, .c (.sl 1 (bytePV m))), (3, .row 80 6), (4, .c (.v (.int .i64 0)))] [(48, ⟨true, 5, 1, [[.c (.v (.int .u8 160))], [.c (.v (.int .u8 128))], [.c (.v (.int .u8 128))]]⟩), (56, ⟨true, 5, 1, [[.c (.v (.int .u8 144))], [.c (.v (.int .u8 128))], [.c (.v (.int .u8 128))]]⟩), (64, ⟨true, 5, 1, [[.c (.v (.int .u8 143))], [.c (.v (.int .u8 191))], [.c (.v (.int .u8 191))]]⟩), (72, ⟨true, 5, 1, [[.c (.v (.int .u8 159))], [.c (.v (.int .u8 191))], [.c (.v (.int .u8 191))]]⟩), (80, ⟨true, 40, 1, [[.c (.sl 1 (bytePV (fillL 0)))], [.c (.sl 1 (bytePV (fillL 1)))], [.row 48 3], [.row 56 3], [.row 64 3], [.row 72 3]]⟩)] 400 ?_ ?_
 · simp only [WeakF, used_is, sc_any, sc_c, sc_pp, sc_ref, sc_row, sc_agg, sc_fn, ScL, some_imp, List.forall_mem_map, go_sem, Int.reduceBEq, Int.reduceLE, Int.reduceLT, Int.reduceNeg, Nat.reduceAdd, Nat.reduceEqDiff, Nat.reduceLT, Nat.reduceLeDiff, Nat.reduceMul, Nat.reduceSub, reduceCtorEq, ↓reduceIte]
   exact ⟨⟨.same _, .same _, .same _⟩, .same _, .same _, .same _, .same _, .set (i := 1) (e' := [.c (.sl 1 (bytePV (fillL 1)))]) rfl (.cons (.row (B := ⟨true, 5, 1, [[.c (.v (.int .u8 191))], [.c (.v (.int .u8 191))], [.c (.v (.int .u8 191))]]⟩) (es := bytePV (fillL 1)) (by simp) rfl rfl rfl rfl) .nil) (by simp [AV.cellish])⟩
 refine VC.frz [48] [(0, .c (.sl 1 (bytePV m))), (3, .row 80 6), (4, .c (.v (.int .i64 0)))] [(56, ⟨true, 5, 1, [[.c (.v (.int .u8 144))], [.c (.v (.int .u8 128))], [.c (.v (.int .u8 128))]]⟩), (64, ⟨true, 5, 1, [[.c (.v (.int .u8 143))], [.c (.v (.int .u8 191))], [.c (.v (.int .u8 191))]]⟩), (72, ⟨true, 5, 1, [[.c (.v (.int .u8 159))], [.c (.v (.int .u8 191))], [.c (.v (.int .u8 191))]]⟩), (80, ⟨true, 40, 1, [[.c (.sl 1 (bytePV (fillL 0)))], [.c (.sl 1 (bytePV (fillL 1)))], [.c (.sl 1 (bytePV (fillL 2)))], [.row 56 3], [.row 64 3], [.row 72 3]]⟩)] 400 ?_ ?_
 · simp only [WeakF, used_is, sc_any, sc_c, sc_pp, sc_ref, sc_row, sc_agg, sc_fn, ScL, some_imp, List.forall_mem_map, go_sem, Int.reduceBEq, Int.reduceLE, Int.reduceLT, Int.reduceNeg, Nat.reduceAdd, Nat.reduceEqDiff, Nat.reduceLT, Nat.reduceLeDiff, Nat.reduceMul, Nat.reduceSub, reduceCtorEq, ↓reduceIte]
   exact ⟨⟨.same _, .same _, .same _⟩, .same _, .same _, .same _, .set (i := 2) (e' := [.c (.sl 1 (bytePV (fillL 2)))]) rfl (.cons (.row (B := ⟨true, 5, 1, [[.c (.v (.int .u8 160))], [.c (.v (.int .u8 128))], [.c (.v (.int .u8 128))]]⟩) (es := bytePV (fillL 2)) (by simp) rfl rfl rfl rfl) .nil) (by simp [AV.cellish])⟩
 refine VC.frz [56] [(0, .c (.sl 1 (bytePV m))), (3, .row 80 6), (4, .c (.v (.int .i64 0)))] [(64, ⟨true, 5, 1, [[.c (.v (.int .u8 143))], [.c (.v (.int .u8 191))], [.c (.v (.int .u8 191))]]⟩), (72, ⟨true, 5, 1, [[.c (.v (.int .u8 159))], [.c (.v (.int .u8 191))], [.c (.v (.int .u8 191))]]⟩), (80, ⟨true, 40, 1, [[.c (.sl 1 (bytePV (fillL 0)))], [.c (.sl 1 (bytePV (fillL 1)))], [.c (.sl 1 (bytePV (fillL 2)))], [.c (.sl 1 (bytePV (fillL 3)))], [.row 64 3], [.row 72 3]]⟩)] 400 ?_ ?_
 · simp only [WeakF, used_is, sc_any, sc_c, sc_pp, sc_ref, sc_row, sc_agg, sc_fn, ScL, some_imp, List.forall_mem_map, go_sem, Int.reduceBEq, Int.reduceLE, Int.reduceLT, Int.reduceNeg, Nat.reduceAdd, Nat.reduceEqDiff, Nat.reduceLT, Nat.reduceLeDiff, Nat.reduceMul, Nat.reduceSub, reduceCtorEq, ↓reduceIte]
   exact ⟨⟨.same _, .same _, .same _⟩, .same _, .same _, .set (i := 3) (e' := [.c (.sl 1 (bytePV (fillL 3)))]) rfl (.cons (.row (B := ⟨true, 5, 1, [[.c (.v (.int .u8 144))], [.c (.v (.int .u8 128))], [.c (.v (.int .u8 128))]]⟩) (es := bytePV (fillL 3)) (by simp) rfl rfl rfl rfl) .nil) (by simp [AV.cellish])⟩
 refine VC.frz [64] [(0, .c (.sl 1 (bytePV m))), (3, .row 80 6), (4, .c (.v (.int .i64 0)))] [(72, ⟨true, 5, 1, [[.c (.v (.int .u8 159))], [.c (.v (.int .u8 191))], [.c (.v (.int .u8 191))]]⟩), (80, ⟨true, 40, 1, [[.c (.sl 1 (bytePV (fillL 0)))], [.c (.sl 1 (bytePV (fillL 1)))], [.c (.sl 1 (bytePV (fillL 2)))], [.c (.sl 1 (bytePV (fillL 3)))], [.c (.sl 1 (bytePV (fillL 4)))], [.row 72 3]]⟩)] 400 ?_ ?_
 · simp only [WeakF, used_is, sc_any, sc_c, sc_pp, sc_ref, sc_row, sc_agg, sc_fn, ScL, some_imp, List.forall_mem_map, go_sem, Int.reduceBEq, Int.reduceLE, Int.reduceLT, Int.reduceNeg, Nat.reduceAdd, Nat.reduceEqDiff, Nat.reduceLT, Nat.reduceLeDiff, Nat.reduceMul, Nat.reduceSub, reduceCtorEq, ↓reduceIte]
   exact ⟨⟨.same _, .same _, .same _⟩, .same _, .set (i := 4) (e' := [.c (.sl 1 (bytePV (fillL 4)))]) rfl (.cons (.row (B := ⟨true, 5, 1, [[.c (.v (.int .u8 143))], [.c (.v (.int .u8 191))], [.c (.v (.int .u8 191))]]⟩) (es := bytePV (fillL 4)) (by simp) rfl rfl rfl rfl) .nil) (by simp [AV.cellish])⟩
 refine VC.frz [72] [(0, .c (.sl 1 (bytePV m))), (3, .row 80 6), (4, .c (.v (.int .i64 0)))] [(80, ⟨true, 40, 1, [[.c (.sl 1 (bytePV (fillL 0)))], [.c (.sl 1 (bytePV (fillL 1)))], [.c (.sl 1 (bytePV (fillL 2)))], [.c (.sl 1 (bytePV (fillL 3)))], [.c (.sl 1 (bytePV (fillL 4)))], [.c (.sl 1 (bytePV (fillL 5)))]]⟩)] 400 ?_ ?_
 · simp only [WeakF, used_is, sc_any, sc_c, sc_pp, sc_ref, sc_row, sc_agg, sc_fn, ScL, some_imp, List.forall_mem_map, go_sem, Int.reduceBEq, Int.reduceLE, Int.reduceLT, Int.reduceNeg, Nat.reduceAdd, Nat.reduceEqDiff, Nat.reduceLT, Nat.reduceLeDiff, Nat.reduceMul, Nat.reduceSub, reduceCtorEq, ↓reduceIte]
   exact ⟨⟨.same _, .same _, .same _⟩, .set (i := 5) (e' := [.c (.sl 1 (bytePV (fillL 5)))]) rfl (.cons (.row (B := ⟨true, 5, 1, [[.c (.v (.int .u8 159))], [.c (.v (.int .u8 191))], [.c (.v (.int .u8 191))]]⟩) (es := bytePV (fillL 5)) (by simp) rfl rfl rfl rfl) .nil) (by simp [AV.cellish])⟩
 refine VC.frz [80] [(0, .c (.sl 1 (bytePV m))), (3, .c (.sl 1 ((List.range 6).map fun j => [PV.sl 1 (bytePV (fillL j))]))), (4, .c (.v (.int .i64 0)))] [] 400 ?_ ?_
 · simp only [WeakF, used_is, sc_any, sc_c, sc_pp, sc_ref, sc_row, sc_agg, sc_fn, ScL, some_imp, List.forall_mem_map, go_sem, Int.reduceBEq, Int.reduceLE, Int.reduceLT, Int.reduceNeg, Nat.reduceAdd, Nat.reduceEqDiff, Nat.reduceLT, Nat.reduceLeDiff, Nat.reduceMul, Nat.reduceSub, reduceCtorEq, ↓reduceIte]
   exact ⟨.same _, .row (B := ⟨true, 40, 1, [[.c (.sl 1 (bytePV (fillL 0)))], [.c (.sl 1 (bytePV (fillL 1)))], [.c (.sl 1 (bytePV (fillL 2)))], [.c (.sl 1 (bytePV (fillL 3)))], [.c (.sl 1 (bytePV (fillL 4)))], [.c (.sl 1 (bytePV (fillL 5)))]]⟩) (es := (List.range 6).map fun j => [PV.sl 1 (bytePV (fillL j))]) (by simp) rfl rfl rfl rfl, .same _⟩
 have hFx : ∀ i, i < 6 → ((List.range 6).map fun j => [PV.sl 1 (bytePV (fillL j))])[i]? = some [PV.sl 1 (bytePV (fillL i))] := fun i hlt => by rw [List.getElem?_map, List.getElem?_range hlt]; rfl
 have hrl : ((List.range 6).map fun j => [PV.sl 1 (bytePV (fillL j))]).length = 6 := rfl
 generalize ((List.range 6).map fun j => [PV.sl 1 (bytePV (fillL j))]) = F at hFx hrl ⊢
 refine VC.loop (ι := {i : Nat // i ≤ 6 ∧ ∀ j, j < i → begB m j = false}) (fun q => [(0, .c (.sl 1 (bytePV m))), (3, .c (.sl 1 F)), (4, .c (.v (.int .i64 (q.1 : Int))))]) (fun _ => []) 800 (fun q => 6 - q.1)
  ⟨0, by omega, fun j h => by omega⟩ ?_ ?_
 · exact weakZ
 rintro ⟨i, hi, hno⟩
 simp only []
 refine walkGF (hrl) ?_
 refine VC.cond (by rfl) (by trivial) (fun hc => ?_) (fun hc => ?_)
 · have hlt : i < 6 := by simp at hc; omega
   have hw : IntKind.i64.wrap ((i : Int) + 1) = (i : Int) + 1 := wrap64_id (by omega) (by omega)
   have hx : F[i]? = some [PV.sl 1 (bytePV (fillL i))] := hFx i hlt
   have hfl : (bytePV (fillL i)).length = 3 := by simp [bytePV, fillL_len]
   have hW := rwhole_told (m ++ fillL i) (by simp [fillL_len]; omega)
   have hB : begB m i = (decide (0 ≤ wholeV (m ++ fillL i) 0) && decide (m.length < (uenc (wholeV (m ++ fillL i) 0).toNat).length)) := rfl
   have hch := fun h : 0 ≤ wholeV (m ++ fillL i) 0 => isChr_iff.1 (wholeV_len h).2.1
   obtain ⟨z, hz⟩ : ∃ z, z = wholeV (m ++ fillL i) 0 := ⟨_, rfl⟩
   rw [← hz] at hW hB hch
   (repeat (first | refine pass ?_ | refine VC.region (by rfl) (by rfl) ?_ | (refine AO.step fun K hK => ?_; simp only [hrl, hx, hfl, hlen, List.length_map, List.length_append, go_sem, Int.reduceBEq, Int.reduceLE, Int.reduceLT, Int.reduceNeg, Nat.reduceAdd, Nat.reduceEqDiff, Nat.reduceLT, Nat.reduceLeDiff, Nat.reduceMul, Nat.reduceSub, reduceCtorEq, ↓reduceIte]; (first | refine gsel_skip ?_ | refine gsel_go ?_ | skip); (first | refine hK _ _ _ ?_ | refine ⟨by first | omega | exact ⟨_, rfl, rfl⟩ | exact fun _ => ⟨_, rfl, rfl⟩ | (intro h; simp only [hrl, hx, hfl, hlen, List.length_map, List.length_append, h, true_and]; omega) | (clear hK; intro h; simp_all <;> omega), hK _ _ _ ?_⟩); clear hK K) | refine VC.draw mixP (by rfl) (by rfl) ?_ | refine ⟨okd_of (by kernel_rfl), ?_⟩ | refine BQ.other (by decide) ?_ | refine VC.seq ?_ | refine AO.nil ?_ | refine VC.block ?_))
   (refine AO.step fun K hK => ?_; simp only [go_sem, Int.reduceBEq, Int.reduceLE, Int.reduceLT, Int.reduceNeg, Nat.reduceAdd, Nat.reduceEqDiff, Nat.reduceLT, Nat.reduceLeDiff, Nat.reduceMul, Nat.reduceSub, reduceCtorEq, ↓reduceIte]; (first | refine gsel_go ?_ | skip))
   refine .inr (.inl ⟨.c (.v (.int .i64 z)), [.c (.sl 1 (bytePV (m ++ fillL i)))], [832], ⟨by simp [AV.pureL, AV.pureB], rfl, fun k x z h5 h6 => ?_, rfl, hW⟩, hK _ _ _ ?_⟩)
   · match k with
     | 0 =>
       obtain rfl := Option.some.inj h5
       obtain rfl := Option.some.inj h6
       exact View.row (B := ⟨true, 5, 1, (bytePV m).map (fun e => e.map AV.c) ++ (bytePV (fillL i)).map fun e => e.map AV.c⟩) (es := bytePV (m ++ fillL i)) rfl rfl (by simp [Blkd.len, bytePV, fillL_len]) (by simp [bytePV])
     | k + 1 => simp at h5
   clear hK K
   by_cases hz0 : 0 ≤ z
   · obtain ⟨c, rfl⟩ : ∃ c : Nat, z = (c : Int) := ⟨z.toNat, by omega⟩
     have hP := rput_told c (by have := hch hz0; omega)
     have e1 : decide ((c : Int) ≥ 0) = true := by simp
     have hul : (bytePV (uenc c)).length = (uenc c).length := by simp [bytePV]
     rw [Int.toNat_natCast] at hB
     refine walkGF (e1) ?_
     refine walkC (hP) ?_
     refine walkGF (And.intro hul hlen) ?_
     refine VC.cond (by rfl) (by trivial) (fun hc2 => ?_) (fun hc2 => ?_)
     · have hf : V = true := by
        have : begB m i = true := by rw [hB]; simp at hc2 ⊢; omega
        rw [hV, List.any_eq_true]
        exact ⟨i, List.mem_range.2 hlt, this⟩
       subst hf
       refine walkG ?_
       refine retX Tryz.results241 ?_
       exact .c _
     · have : begB m i = false := by rw [hB]; simp at hc2 ⊢; omega
       refine walkGF (hw) ?_
       refine .next ⟨i + 1, by omega, fun j hj => ?_⟩ ?_ (by simp only []; omega)
       · by_cases hji : j < i
         · exact hno j hji
         · obtain rfl : j = i := by omega
           exact this
       refine weakX ?_
       exact cI (by omega)
   · have e1 : decide (z ≥ 0) = false := by simp; omega
     have : begB m i = false := by rw [hB]; simp; omega
     refine walkBF (And.intro e1 hw) ?_
     refine .next ⟨i + 1, by omega, fun j hj => ?_⟩ ?_ (by simp only []; omega)
     · by_cases hji : j < i
       · exact hno j hji
       · obtain rfl : j = i := by omega
         exact this
     refine weakX ?_
     exact cI (by omega)
 · have hf : V = false := by
    rw [hV, List.any_eq_false]
    intro j hj
    have := List.mem_range.1 hj
    rw [hno j (by simp at hc; omega)]
    simp
   subst hf
   refine walkG ?_
   refine retX Tryz.results241 ?_
   exact .c _
theorem rtake3_told (l : List UInt8) (p : Nat) (hp : p ≤ l.length) (hbig : l.length ≤ 1000000) : ∃ v nx e : Int, Told Tryz.prog 226 [.c (.sl 1 (bytePV l)), .c (.v (.int .i64 (p : Int)))] (.tup [.c (.v (.int .i64 v)), .c (.v (.int .i64 nx)), .c (.v (.int .i64 e))]) ∧
  (uerr l p = 0 → e = 0 ∧ nx = (p : Int) + (ulen l p : Int)) ∧ (uerr l p ≠ 0 → e ≠ 0) := by
 have hlen : (bytePV l).length = l.length := by simp [bytePV]
 have hdr : ((bytePV l).take l.length).drop p = bytePV (l.drop p) := by rw [← hlen, List.take_length]; simp [bytePV, List.map_drop]
 have hW := rwhole_told (l.drop p) (by simp; omega)
 rw [wholeV_drop] at hW
 have e1 : decide ((p : Int) < 0) = false := by simp
 have e2 : decide ((p : Int) > (l.length : Int)) = false := by simp; omega
 obtain ⟨z, hz⟩ : ∃ z, z = wholeV l p := ⟨_, rfl⟩
 rw [← hz] at hW
 have hdl : (bytePV (l.drop p)).length = l.length - p := by simp [bytePV]
 by_cases hz0 : 0 ≤ z
 · obtain ⟨u1, u2, u3⟩ := wholeV_len (l := l) (p := p) (by omega)
   have hci := isChr_iff.1 u2
   obtain ⟨c, rfl⟩ : ∃ c : Nat, z = (c : Int) := ⟨z.toNat, by omega⟩
   rw [← hz] at u2 u3 hci
   rw [Int.toNat_natCast] at u3
   have hP := rput_told c (by omega)
   have e3 : decide ((c : Int) ≥ 0) = true := by simp
   have hul : (bytePV (uenc c)).length = (uenc c).length := by simp [bytePV]
   have hlb := uenc_len c
   have hw : IntKind.i64.wrap ((p : Int) + ((uenc c).length : Int)) = (p : Int) + ((uenc c).length : Int) := wrap64_id (by omega) (by omega)
   refine ⟨(c : Int), (p : Int) + ((uenc c).length : Int), 0, ?_, fun _ => ⟨rfl, by rw [u3]⟩, fun h => absurd u1 h⟩
   refine VC.toldP ent_226 Tryz.func226 rfl Tryz.ntmps226 fun hb => ?_
   clear hb
   refine walkBF (And.intro hlen (And.intro e1 (And.intro e2 hdr))) ?_
   refine walkC (hW) ?_
   refine walkBF (e3) ?_
   refine walkC (hP) ?_
   refine walkGF (And.intro hul hw) ?_
   refine retX Tryz.results226 ?_
   exact ⟨.c _, .c _, .c _⟩
 · have hu : uerr l p ≠ 0 := by
    intro h
    have hf := uerr_form h
    have := wtest_n (form_test hf)
    have h2 := (isChr_iff (c := cvN l p (ulen l p))).1 (by
     have ht := form_test hf
     unfold wtest at ht
     simp only [Bool.and_eq_true] at ht
     exact ht.1)
    omega
   have e3 : decide (z ≥ 0) = false := by simp; omega
   have hws : IntKind.i64.wrap ((l.length : Int) - (p : Int)) = (l.length : Int) - (p : Int) := wrap64_id (by omega) (by omega)
   by_cases h4 : l.length - p < 4
   · have e4 : decide ((l.length : Int) - (p : Int) < 4) = true := by simp; omega
     obtain ⟨b, hB⟩ := rbegun_told (l.drop p) (by simp; omega)
     cases b with
     | true =>
       refine ⟨0, (p : Int), 10, ?_, fun h => absurd h hu, fun _ => by decide⟩
       refine VC.toldP ent_226 Tryz.func226 rfl Tryz.ntmps226 fun hb => ?_
       clear hb
       refine walkBF (And.intro hlen (And.intro e1 (And.intro e2 hdr))) ?_
       refine walkC (hW) ?_
       refine walkBF (And.intro e3 (And.intro hws (And.intro e4 (And.intro hlen hdr)))) ?_
       refine walkC (hB) ?_
       refine walkB ?_
       refine retX Tryz.results226 ?_
       exact ⟨.c _, .c _, .c _⟩
     | false =>
       refine ⟨0, (p : Int), 11, ?_, fun h => absurd h hu, fun _ => by decide⟩
       refine VC.toldP ent_226 Tryz.func226 rfl Tryz.ntmps226 fun hb => ?_
       clear hb
       refine walkBF (And.intro hlen (And.intro e1 (And.intro e2 hdr))) ?_
       refine walkC (hW) ?_
       refine walkBF (And.intro e3 (And.intro hws (And.intro e4 (And.intro hlen hdr)))) ?_
       refine walkC (hB) ?_
       refine walkB ?_
       refine retX Tryz.results226 ?_
       exact ⟨.c _, .c _, .c _⟩
   · have e4 : decide ((l.length : Int) - (p : Int) < 4) = false := by simp; omega
     refine ⟨0, (p : Int), 11, ?_, fun h => absurd h hu, fun _ => by decide⟩
     refine VC.toldP ent_226 Tryz.func226 rfl Tryz.ntmps226 fun hb => ?_
     clear hb
     refine walkBF (And.intro hlen (And.intro e1 (And.intro e2 hdr))) ?_
     refine walkC (hW) ?_
     refine walkBF (And.intro e3 (And.intro hws (And.intro e4 hlen))) ?_
     refine retX Tryz.results226 ?_
     exact ⟨.c _, .c _, .c _⟩
theorem rcount3_told (l : List UInt8) (hbig : l.length ≤ 1000000) : ∃ z : Int, Told Tryz.prog 204 [.c (.sl 1 (bytePV l))] (.c (.v (.int .i64 z))) ∧ (decide (z ≥ 0) = isRight l) := by
 have hlen : (bytePV l).length = l.length := by simp [bytePV]
 refine ⟨if (uCnt l 0 0).2 = 0 then ((uCnt l 0 0).1 : Int) else -1, ?_, ?_⟩
 rotate_left
 · unfold isRight
   split
   · simp_all
   · simp_all
 obtain ⟨V, hV⟩ : ∃ V, V = uCnt l 0 0 := ⟨_, rfl⟩
 rw [← hV]
 refine VC.toldP ent_204 Tryz.func204 rfl Tryz.ntmps204 fun hb => ?_
 clear hb
 refine walkG ?_
 refine VC.loop (ι := {q : Nat × Nat // q.1 ≤ l.length ∧ q.2 ≤ q.1 ∧ uCnt l q.1 q.2 = V}) (fun q => [(0, .c (.sl 1 (bytePV l))), (3, .c (.v (.int .i64 (q.1.2 : Int)))), (4, .c (.v (.int .i64 (q.1.1 : Int))))]) (fun _ => []) 800 (fun q => l.length - q.1.1)
  ⟨(0, 0), Nat.zero_le _, Nat.le_refl _, hV.symm⟩ ?_ ?_
 · exact weakZ
 rintro ⟨⟨p, k⟩, hp, hk, hu⟩
 simp only [] at hp hk hu ⊢
 refine walkGF (hlen) ?_
 refine VC.cond (by rfl) (by trivial) (fun hc => ?_) (fun hc => ?_)
 · have hlt : p < l.length := by simp at hc; omega
   obtain ⟨v, nx, e, hT, h1, h2⟩ := rtake3_told l p hp hbig
   by_cases he : uerr l p = 0
   · obtain ⟨rfl, rfl⟩ := h1 he
     have hub := ulen_bound he
     have hw : IntKind.i64.wrap ((k : Int) + 1) = (k : Int) + 1 := wrap64_id (by omega) (by omega)
     rw [uCnt_next hlt he] at hu
     refine walkG ?_
     refine walkC (hT) ?_
     refine walkBF (hw) ?_
     refine .next ⟨(p + ulen l p, k + 1), hub.2, by simp only []; omega, hu⟩ ?_ (by simp only []; omega)
     refine weakX ?_
     exact ⟨cI (by omega), cI (by omega)⟩
   · have hne := h2 he
     rw [uCnt_bad hlt he] at hu
     subst hu
     have e5 : (e != 0) = true := by simpa using hne
     refine walkG ?_
     refine walkC (hT) ?_
     refine walkBF (e5) ?_
     refine retX Tryz.results204 ?_
     exact .c _
 · have hpe : p = l.length := by simp at hc; omega
   rw [uCnt_end (by omega)] at hu
   subst hu
   refine walkG ?_
   refine retX Tryz.results204 ?_
   exact .c _

theorem rtextr_told (s : List UInt8) (hs : s.length ≤ 1000000) : Told Tryz.prog 197 [.c (.v (.string (str s)))] (.c (.v (.bool (isRight s)))) := by
 obtain ⟨Z, hC, hd⟩ := rcount3_told s hs
 have hsz : (str s).size = s.length := str_size s
 have hdl : (str s).data.toList = s := by simp [str]
 refine VC.toldP ent_197 Tryz.func197 rfl Tryz.ntmps197 fun hb => ?_
 clear hb
 refine walkGF (And.intro hsz hdl) ?_
 refine walkCF (And.intro hsz hdl) (hC) ?_
 refine walkGF (hd) ?_
 refine retX Tryz.results197 ?_
 exact .c _

theorem takeN {α : Type} {l : List α} {i : Nat} {x : α} (h : l[i]? = some x) : l.take (i + 1) = l.take i ++ [x] := by
 rw [List.take_add_one, h]
 rfl
theorem rshapes_all : ∀ xs : List JT, rshapes xs = xs.all rshape
 | [] => by rw [rshapes]; rfl
 | x :: xs => by rw [rshapes, rshapes_all xs]; rfl
theorem rshape_told : ∀ (m : Nat) (t : JT), SizeOf.sizeOf t ≤ m → t.sm 1000000 → Told Tryz.prog 157 [t.av] (.c (.v (.bool (rshape t)))) := by
 intro m
 induction m with
 | zero =>
   intro t ht
   cases t
   simp at ht
 | succ m ih =>
 intro t ht hsm
 cases t with
 | mk k n s ks xs =>
 have hx : ∀ x ∈ xs, Told Tryz.prog 157 [x.av] (.c (.v (.bool (rshape x)))) := fun x hxm => ih x (by have := List.sizeOf_lt_of_mem hxm; simp at ht; omega) (smL_mem hsm.2.2.2.2 x hxm)
 obtain ⟨hsl, hkl, hks, hxl, _⟩ := hsm
 clear ih ht
 obtain ⟨V, hV⟩ : ∃ V, V = rshape (.mk k n s ks xs) := ⟨_, rfl⟩
 rw [← hV]
 rw [rshape] at hV
 have hT := rtextr_told s hsl
 simp only [JT.av]
 refine VC.told ent_157 Tryz.func157 rfl Tryz.ntmps157 (by simp) (by simp [AV.pureB, AV.pureL, cells_mk]) (by simp [AV.pureB, AV.pureL]) fun hb => ?_
 clear hb
 (iterate 18 (first | refine pass ?_ | refine VC.region (by rfl) (by rfl) ?_ | (refine AO.step fun K hK => ?_; simp only [cells_mk, List.length_map, go_sem, Int.reduceBEq, Int.reduceLE, Int.reduceLT, Int.reduceNeg, Nat.reduceAdd, Nat.reduceEqDiff, Nat.reduceLT, Nat.reduceLeDiff, Nat.reduceMul, Nat.reduceSub, reduceCtorEq, ↓reduceIte]; (first | refine gsel_skip ?_ | refine gsel_go ?_ | skip); (first | refine hK _ _ _ ?_ | refine ⟨by first | omega | exact ⟨_, rfl, rfl⟩ | exact fun _ => ⟨_, rfl, rfl⟩ | (intro h; simp only [cells_mk, List.length_map, h, true_and]; omega) | (clear hK; intro h; simp_all <;> omega), hK _ _ _ ?_⟩); clear hK K) | refine VC.draw mixP (by rfl) (by rfl) ?_ | refine ⟨okd_of (by kernel_rfl), ?_⟩ | refine BQ.other (by decide) ?_ | refine VC.seq ?_ | refine AO.nil ?_ | refine VC.block ?_))
 obtain ⟨b1, hb1⟩ : ∃ b : Bool, b = (decide (k < 1) || decide (k > 6)) := ⟨_, rfl⟩
 rw [← hb1]; replace hb1 := Lib.hid hb1
 (iterate 15 (first | refine pass ?_ | refine VC.region (by rfl) (by rfl) ?_ | (refine AO.step fun K hK => ?_; simp only [cells_mk, List.length_map, go_sem, Int.reduceBEq, Int.reduceLE, Int.reduceLT, Int.reduceNeg, Nat.reduceAdd, Nat.reduceEqDiff, Nat.reduceLT, Nat.reduceLeDiff, Nat.reduceMul, Nat.reduceSub, reduceCtorEq, ↓reduceIte]; (first | refine gsel_skip ?_ | refine gsel_go ?_ | skip); (first | refine hK _ _ _ ?_ | refine ⟨by first | omega | exact ⟨_, rfl, rfl⟩ | exact fun _ => ⟨_, rfl, rfl⟩ | (intro h; simp only [cells_mk, List.length_map, h, true_and]; omega) | (clear hK; intro h; simp_all <;> omega), hK _ _ _ ?_⟩); clear hK K) | refine VC.draw mixP (by rfl) (by rfl) ?_ | refine ⟨okd_of (by kernel_rfl), ?_⟩ | refine BQ.other (by decide) ?_ | refine VC.seq ?_ | refine AO.nil ?_ | refine VC.block ?_))
 obtain ⟨b2, hb2⟩ : ∃ b : Bool, b = (b1 || k != 2 && k != 3 && n != 0) := ⟨_, rfl⟩
 rw [← hb2]; replace hb2 := Lib.hid hb2
 (iterate 15 (first | refine pass ?_ | refine VC.region (by rfl) (by rfl) ?_ | (refine AO.step fun K hK => ?_; simp only [cells_mk, List.length_map, go_sem, Int.reduceBEq, Int.reduceLE, Int.reduceLT, Int.reduceNeg, Nat.reduceAdd, Nat.reduceEqDiff, Nat.reduceLT, Nat.reduceLeDiff, Nat.reduceMul, Nat.reduceSub, reduceCtorEq, ↓reduceIte]; (first | refine gsel_skip ?_ | refine gsel_go ?_ | skip); (first | refine hK _ _ _ ?_ | refine ⟨by first | omega | exact ⟨_, rfl, rfl⟩ | exact fun _ => ⟨_, rfl, rfl⟩ | (intro h; simp only [cells_mk, List.length_map, h, true_and]; omega) | (clear hK; intro h; simp_all <;> omega), hK _ _ _ ?_⟩); clear hK K) | refine VC.draw mixP (by rfl) (by rfl) ?_ | refine ⟨okd_of (by kernel_rfl), ?_⟩ | refine BQ.other (by decide) ?_ | refine VC.seq ?_ | refine AO.nil ?_ | refine VC.block ?_))
 obtain ⟨b3, hb3⟩ : ∃ b : Bool, b = (b2 || k == 2 && n != 0 && n != 1) := ⟨_, rfl⟩
 rw [← hb3]; replace hb3 := Lib.hid hb3
 have hE : (⟨#[]⟩ : ByteArray).toList = [] := str_toList []
 (iterate 10 (first | refine pass ?_ | refine VC.region (by rfl) (by rfl) ?_ | (refine AO.step fun K hK => ?_; simp only [cells_mk, List.length_map, str_toList, hE, go_sem, Int.reduceBEq, Int.reduceLE, Int.reduceLT, Int.reduceNeg, Nat.reduceAdd, Nat.reduceEqDiff, Nat.reduceLT, Nat.reduceLeDiff, Nat.reduceMul, Nat.reduceSub, reduceCtorEq, ↓reduceIte]; (first | refine gsel_skip ?_ | refine gsel_go ?_ | skip); (first | refine hK _ _ _ ?_ | refine ⟨by first | omega | exact ⟨_, rfl, rfl⟩ | exact fun _ => ⟨_, rfl, rfl⟩ | (intro h; simp only [cells_mk, List.length_map, str_toList, hE, h, true_and]; omega) | (clear hK; intro h; simp_all <;> omega), hK _ _ _ ?_⟩); clear hK K) | refine VC.draw mixP (by rfl) (by rfl) ?_ | refine ⟨okd_of (by kernel_rfl), ?_⟩ | refine BQ.other (by decide) ?_ | refine VC.seq ?_ | refine AO.nil ?_ | refine VC.block ?_))
 obtain ⟨b4, hb4⟩ : ∃ b : Bool, b = (b3 || k != 4 && !s == []) := ⟨_, rfl⟩
 rw [← hb4]; replace hb4 := Lib.hid hb4
 refine walkGF (@cells_mk) ?_
 refine walkDF (@cells_mk) (hT) ?_
 (iterate 3 (first | refine pass ?_ | refine VC.region (by rfl) (by rfl) ?_ | (refine AO.step fun K hK => ?_; simp only [cells_mk, List.length_map, go_sem, Int.reduceBEq, Int.reduceLE, Int.reduceLT, Int.reduceNeg, Nat.reduceAdd, Nat.reduceEqDiff, Nat.reduceLT, Nat.reduceLeDiff, Nat.reduceMul, Nat.reduceSub, reduceCtorEq, ↓reduceIte]; (first | refine gsel_skip ?_ | refine gsel_go ?_ | skip); (first | refine hK _ _ _ ?_ | refine ⟨by first | omega | exact ⟨_, rfl, rfl⟩ | exact fun _ => ⟨_, rfl, rfl⟩ | (intro h; simp only [cells_mk, List.length_map, h, true_and]; omega) | (clear hK; intro h; simp_all <;> omega), hK _ _ _ ?_⟩); clear hK K) | refine VC.draw mixP (by rfl) (by rfl) ?_ | refine ⟨okd_of (by kernel_rfl), ?_⟩ | refine BQ.other (by decide) ?_ | refine VC.seq ?_ | refine AO.nil ?_ | refine VC.block ?_))
 obtain ⟨b5, hb5⟩ : ∃ b : Bool, b = (b4 || !isRight s) := ⟨_, rfl⟩
 rw [← hb5]; replace hb5 := Lib.hid hb5
 (iterate 11 (first | refine pass ?_ | refine VC.region (by rfl) (by rfl) ?_ | (refine AO.step fun K hK => ?_; simp only [cells_mk, List.length_map, go_sem, Int.reduceBEq, Int.reduceLE, Int.reduceLT, Int.reduceNeg, Nat.reduceAdd, Nat.reduceEqDiff, Nat.reduceLT, Nat.reduceLeDiff, Nat.reduceMul, Nat.reduceSub, reduceCtorEq, ↓reduceIte]; (first | refine gsel_skip ?_ | refine gsel_go ?_ | skip); (first | refine hK _ _ _ ?_ | refine ⟨by first | omega | exact ⟨_, rfl, rfl⟩ | exact fun _ => ⟨_, rfl, rfl⟩ | (intro h; simp only [cells_mk, List.length_map, h, true_and]; omega) | (clear hK; intro h; simp_all <;> omega), hK _ _ _ ?_⟩); clear hK K) | refine VC.draw mixP (by rfl) (by rfl) ?_ | refine ⟨okd_of (by kernel_rfl), ?_⟩ | refine BQ.other (by decide) ?_ | refine VC.seq ?_ | refine AO.nil ?_ | refine VC.block ?_))
 obtain ⟨b6, hb6⟩ : ∃ b : Bool, b = (b5 || decide (k < 5) && decide ((xs.length : Int) > 0)) := ⟨_, rfl⟩
 rw [← hb6]; replace hb6 := Lib.hid hb6
 (iterate 11 (first | refine pass ?_ | refine VC.region (by rfl) (by rfl) ?_ | (refine AO.step fun K hK => ?_; simp only [cells_mk, List.length_map, go_sem, Int.reduceBEq, Int.reduceLE, Int.reduceLT, Int.reduceNeg, Nat.reduceAdd, Nat.reduceEqDiff, Nat.reduceLT, Nat.reduceLeDiff, Nat.reduceMul, Nat.reduceSub, reduceCtorEq, ↓reduceIte]; (first | refine gsel_skip ?_ | refine gsel_go ?_ | skip); (first | refine hK _ _ _ ?_ | refine ⟨by first | omega | exact ⟨_, rfl, rfl⟩ | exact fun _ => ⟨_, rfl, rfl⟩ | (intro h; simp only [cells_mk, List.length_map, h, true_and]; omega) | (clear hK; intro h; simp_all <;> omega), hK _ _ _ ?_⟩); clear hK K) | refine VC.draw mixP (by rfl) (by rfl) ?_ | refine ⟨okd_of (by kernel_rfl), ?_⟩ | refine BQ.other (by decide) ?_ | refine VC.seq ?_ | refine AO.nil ?_ | refine VC.block ?_))
 obtain ⟨b7, hb7⟩ : ∃ b : Bool, b = (b6 || k != 6 && decide ((ks.length : Int) > 0)) := ⟨_, rfl⟩
 rw [← hb7]; replace hb7 := Lib.hid hb7
 (iterate 13 (first | refine pass ?_ | refine VC.region (by rfl) (by rfl) ?_ | (refine AO.step fun K hK => ?_; simp only [cells_mk, List.length_map, go_sem, Int.reduceBEq, Int.reduceLE, Int.reduceLT, Int.reduceNeg, Nat.reduceAdd, Nat.reduceEqDiff, Nat.reduceLT, Nat.reduceLeDiff, Nat.reduceMul, Nat.reduceSub, reduceCtorEq, ↓reduceIte]; (first | refine gsel_skip ?_ | refine gsel_go ?_ | skip); (first | refine hK _ _ _ ?_ | refine ⟨by first | omega | exact ⟨_, rfl, rfl⟩ | exact fun _ => ⟨_, rfl, rfl⟩ | (intro h; simp only [cells_mk, List.length_map, h, true_and]; omega) | (clear hK; intro h; simp_all <;> omega), hK _ _ _ ?_⟩); clear hK K) | refine VC.draw mixP (by rfl) (by rfl) ?_ | refine ⟨okd_of (by kernel_rfl), ?_⟩ | refine BQ.other (by decide) ?_ | refine VC.seq ?_ | refine AO.nil ?_ | refine VC.block ?_))
 obtain ⟨b8, hb8⟩ : ∃ b : Bool, b = (b7 || k == 6 && (ks.length : Int) != (xs.length : Int)) := ⟨_, rfl⟩
 rw [← hb8]; replace hb8 := Lib.hid hb8
 have hF : rfail (.mk k n s ks xs) = b8 := by
  rw [hb8.out, hb7.out, hb6.out, hb5.out, hb4.out, hb3.out, hb2.out, hb1.out, rfail]
  have e1 : ∀ a b : Int, decide (a ≠ b) = (a != b) := fun a b => by by_cases h : a = b <;> simp [h]
  have e2 : ∀ a b : Int, decide (a = b) = (a == b) := fun a b => by by_cases h : a = b <;> simp [h]
  have e3 : s.isEmpty = (s == []) := by cases s <;> rfl
  have e4 : (!xs.isEmpty) = decide ((xs.length : Int) > 0) := by cases xs <;> simp <;> omega
  have e5 : (!ks.isEmpty) = decide ((ks.length : Int) > 0) := by cases ks <;> simp <;> omega
  have e6 : decide (ks.length ≠ xs.length) = ((ks.length : Int) != (xs.length : Int)) := by
   by_cases h : ks.length = xs.length
   · simp [h]
   · have : ¬ (ks.length : Int) = (xs.length : Int) := by omega
     simp [h, this]
  simp only [e1, e2, e3, e4, e5, e6]
 refine walkGF (@cells_mk) ?_
 refine VC.cond (by rfl) (by trivial) (fun hc => ?_) (fun hc => ?_)
 · have hf : V = false := by rw [hV, hF, hc]; simp
   subst hf
   refine walkBF (@cells_mk) ?_
   refine retX Tryz.results157 ?_
   exact .c _
 have hv : V = ((ks.all isRight && decide ks.Nodup) && rshapes xs) := by rw [hV, hF, hc]; simp
 clear hV hF hb1 hb2 hb3 hb4 hb5 hb6 hb7 hb8 hT
 refine walkGF (@cells_mk) ?_
 refine VC.loop (ι := {i : Nat // i ≤ ks.length ∧ (∀ y ∈ ks.take i, isRight y = true) ∧ (ks.take i).Nodup})
  (fun q => [(1, .ref 0 1 0 0), (3, .c (.v (.int .i64 (q.1 : Int))))]) (fun q => [(0, ⟨false, 36, 5, [(JT.mk k n s ks xs).cells.map .c]⟩)]) 2000 (fun q => ks.length - q.1) ⟨0, Nat.zero_le _, by simp, by simp⟩ ?_ ?_
 · exact weakZF (@cells_mk)
 · rintro ⟨i, hi, hr, hd⟩
   simp only []
   refine walkGF (@cells_mk) ?_
   refine VC.cond (by rfl) (by trivial) (fun hc2 => ?_) (fun hc2 => ?_)
   · have hlt : i < ks.length := by simp at hc2; omega
     obtain ⟨y, hy⟩ : ∃ y, ks[i]? = some y := ⟨ks[i], List.getElem?_eq_getElem hlt⟩
     have hw : IntKind.i64.wrap ((i : Int) + 1) = (i : Int) + 1 := wrap64_id (by omega) (by omega)
     have hT := rtextr_told y (hks y (List.mem_of_getElem? hy))
     (repeat (first | refine pass ?_ | refine VC.region (by rfl) (by rfl) ?_ | (refine AO.step fun K hK => ?_; simp only [cells_mk, List.length_map, List.getElem?_map, hy, sPV, len_cells, take_cells, take_cellsC, go_sem, Int.reduceBEq, Int.reduceLE, Int.reduceLT, Int.reduceNeg, Nat.reduceAdd, Nat.reduceEqDiff, Nat.reduceLT, Nat.reduceLeDiff, Nat.reduceMul, Nat.reduceSub, reduceCtorEq, ↓reduceIte]; (first | refine gsel_skip ?_ | refine gsel_go ?_ | skip); (first | refine hK _ _ _ ?_ | refine ⟨by first | omega | exact ⟨_, rfl, rfl⟩ | exact fun _ => ⟨_, rfl, rfl⟩ | (intro h; simp only [cells_mk, List.length_map, List.getElem?_map, hy, sPV, len_cells, take_cells, take_cellsC, h, true_and]; omega) | (clear hK; intro h; simp_all <;> omega), hK _ _ _ ?_⟩); clear hK K) | refine VC.draw mixP (by rfl) (by rfl) ?_ | refine ⟨okd_of (by kernel_rfl), ?_⟩ | refine BQ.other (by decide) ?_ | refine VC.seq ?_ | refine AO.nil ?_ | refine VC.block ?_))
     refine walkCF (@cells_mk) (hT) ?_
     refine walkGF (@cells_mk) ?_
     refine VC.cond (by rfl) (by trivial) (fun hc3 => ?_) (fun hc3 => ?_)
     · have hf : V = false := by
        rw [hv]
        have : ks.all isRight = false := by
         rw [List.all_eq_false]
         exact ⟨y, List.mem_of_getElem? hy, by simpa using hc3⟩
        rw [this]
        rfl
       subst hf
       refine walkBF (@cells_mk) ?_
       refine retX Tryz.results157 ?_
       exact .c _
     refine walkGF (@cells_mk) ?_
     refine VC.loop (ι := {j : Nat // j ≤ i ∧ y ∉ ks.take j})
      (fun q => [(1, .ref 0 1 0 0), (3, .c (.v (.int .i64 (i : Int)))), (4, .c (.v (.int .i64 (q.1 : Int))))]) (fun q => [(0, ⟨false, 36, 5, [(JT.mk k n s ks xs).cells.map .c]⟩)]) 2000 (fun q => i - q.1) ⟨0, Nat.zero_le _, by simp⟩ ?_ ?_
     · exact weakZF (@cells_mk)
     · rintro ⟨j, hj, hn⟩
       simp only []
       refine walkGF (@cells_mk) ?_
       refine VC.cond (by rfl) (by trivial) (fun hc4 => ?_) (fun hc4 => ?_)
       · have hjt : j < i := by simp at hc4; omega
         obtain ⟨z, hz⟩ : ∃ z, ks[j]? = some z := ⟨ks[j], List.getElem?_eq_getElem (by omega)⟩
         have hwj : IntKind.i64.wrap ((j : Int) + 1) = (j : Int) + 1 := wrap64_id (by omega) (by omega)
         (repeat (first | refine pass ?_ | refine VC.region (by rfl) (by rfl) ?_ | (refine AO.step fun K hK => ?_; simp only [cells_mk, List.length_map, List.getElem?_map, hy, hz, sPV, len_cells, take_cells, take_cellsC, str_toList, go_sem, Int.reduceBEq, Int.reduceLE, Int.reduceLT, Int.reduceNeg, Nat.reduceAdd, Nat.reduceEqDiff, Nat.reduceLT, Nat.reduceLeDiff, Nat.reduceMul, Nat.reduceSub, reduceCtorEq, ↓reduceIte]; (first | refine gsel_skip ?_ | refine gsel_go ?_ | skip); (first | refine hK _ _ _ ?_ | refine ⟨by first | omega | exact ⟨_, rfl, rfl⟩ | exact fun _ => ⟨_, rfl, rfl⟩ | (intro h; simp only [cells_mk, List.length_map, List.getElem?_map, hy, hz, sPV, len_cells, take_cells, take_cellsC, str_toList, h, true_and]; omega) | (clear hK; intro h; simp_all <;> omega), hK _ _ _ ?_⟩); clear hK K) | refine VC.draw mixP (by rfl) (by rfl) ?_ | refine ⟨okd_of (by kernel_rfl), ?_⟩ | refine BQ.other (by decide) ?_ | refine VC.seq ?_ | refine AO.nil ?_ | refine VC.block ?_))
         refine VC.cond (by rfl) (by trivial) (fun hc5 => ?_) (fun hc5 => ?_)
         · have hf : V = false := by
            rw [hv]
            have : decide ks.Nodup = false := by
             rw [decide_eq_false_iff_not]
             intro hnd
             have hzy : z = y := by simpa using hc5
             subst hzy
             exact absurd ((List.getElem?_inj (by omega) hnd).1 (hz.trans hy.symm)) (by omega)
            rw [this]
            simp
           subst hf
           refine walkBF (@cells_mk) ?_
           refine retX Tryz.results157 ?_
           exact .c _
         refine walkGF (hwj) ?_
         refine .next ⟨j + 1, by omega, ?_⟩ ?_ (by simp only []; omega)
         · rw [takeN hz]
           have hzy : z ≠ y := by simpa using hc5
           simp [hn, Ne.symm hzy]
         simp only [cells_mk, Weak, eq_self, used_is, sc_any, sc_c, sc_pp, sc_ref, sc_row, sc_agg, sc_fn, ScL, some_imp, List.forall_mem_map, go_sem, Int.reduceBEq, Int.reduceLE, Int.reduceLT, Int.reduceNeg, Nat.reduceAdd, Nat.reduceEqDiff, Nat.reduceLT, Nat.reduceLeDiff, Nat.reduceMul, Nat.reduceSub, reduceCtorEq, ↓reduceIte]
         try exact cI (by omega)
       · have hji : j = i := by simp at hc4; omega
         refine walkGF (hw) ?_
         refine .next ⟨i + 1, by omega, ?_, ?_⟩ ?_ (by simp only []; omega)
         · rw [takeN hy]
           intro u hu
           rcases List.mem_append.1 hu with h | h
           · exact hr u h
           · obtain rfl := List.mem_singleton.1 h
             simpa using hc3
         · rw [takeN hy, List.nodup_append]
           refine ⟨hd, by simp, ?_⟩
           intro a ha b hb
           obtain rfl := List.mem_singleton.1 hb
           rintro rfl
           exact hn (hji ▸ ha)
         simp only [cells_mk, Weak, eq_self, used_is, sc_any, sc_c, sc_pp, sc_ref, sc_row, sc_agg, sc_fn, ScL, some_imp, List.forall_mem_map, go_sem, Int.reduceBEq, Int.reduceLE, Int.reduceLT, Int.reduceNeg, Nat.reduceAdd, Nat.reduceEqDiff, Nat.reduceLT, Nat.reduceLeDiff, Nat.reduceMul, Nat.reduceSub, reduceCtorEq, ↓reduceIte]
         try exact cI (by omega)
   · have hie : i = ks.length := by simp at hc2; omega
     subst hie
     rw [List.take_length] at hr hd
     have hv : V = rshapes xs := by
      rw [hv, List.all_eq_true.2 hr]
      simp [hd]
     refine walkGF (@cells_mk) ?_
     refine VC.loop (ι := {i : Nat // i ≤ xs.length ∧ (∀ y ∈ xs.take i, rshape y = true)})
      (fun q => [(1, .ref 0 1 0 0), (5, .c (.v (.int .i64 (q.1 : Int))))]) (fun q => [(0, ⟨false, 36, 5, [(JT.mk k n s ks xs).cells.map .c]⟩)]) 2000 (fun q => xs.length - q.1) ⟨0, Nat.zero_le _, by simp⟩ ?_ ?_
     · exact weakZF (@cells_mk)
     · rintro ⟨i, hi, hr⟩
       simp only []
       refine walkGF (@cells_mk) ?_
       refine VC.cond (by rfl) (by trivial) (fun hc3 => ?_) (fun hc3 => ?_)
       · have hlt : i < xs.length := by simp at hc3; omega
         obtain ⟨y, hy⟩ : ∃ y, xs[i]? = some y := ⟨xs[i], List.getElem?_eq_getElem hlt⟩
         have hw : IntKind.i64.wrap ((i : Int) + 1) = (i : Int) + 1 := wrap64_id (by omega) (by omega)
         have hyc : (xs.map JT.cells)[i]? = some y.cells := by rw [List.getElem?_map, hy]; rfl
         have hT := hx y (List.mem_of_getElem? hy)
         simp only [JT.av] at hT
         refine walkGF (And.intro @cells_mk (And.intro hyc (And.intro @len_cells (And.intro @take_cells @take_cellsC)))) ?_
         refine walkCF (And.intro @len_cells (And.intro @take_cells (And.intro @take_cellsC @pureL_c))) (hT) ?_
         refine walkGF (@cells_mk) ?_
         refine VC.cond (by rfl) (by trivial) (fun hc5 => ?_) (fun hc5 => ?_)
         · have hf : V = false := by
            rw [hv, rshapes_all, List.all_eq_false]
            exact ⟨y, List.mem_of_getElem? hy, by simpa using hc5⟩
           subst hf
           refine walkBF (@cells_mk) ?_
           refine retX Tryz.results157 ?_
           exact .c _
         refine walkGF (hw) ?_
         refine .next ⟨i + 1, by omega, ?_⟩ ?_ (by simp only []; omega)
         · rw [takeN hy]
           intro u hu
           rcases List.mem_append.1 hu with h | h
           · exact hr u h
           · obtain rfl := List.mem_singleton.1 h
             simpa using hc5
         simp only [cells_mk, Weak, eq_self, used_is, sc_any, sc_c, sc_pp, sc_ref, sc_row, sc_agg, sc_fn, ScL, some_imp, List.forall_mem_map, go_sem, Int.reduceBEq, Int.reduceLE, Int.reduceLT, Int.reduceNeg, Nat.reduceAdd, Nat.reduceEqDiff, Nat.reduceLT, Nat.reduceLeDiff, Nat.reduceMul, Nat.reduceSub, reduceCtorEq, ↓reduceIte]
         try exact cI (by omega)
       · have hie : i = xs.length := by simp at hc3; omega
         subst hie
         rw [List.take_length] at hr
         have hf : V = true := by
          rw [hv, rshapes_all, List.all_eq_true.2 hr]
         subst hf
         refine walkGF (@cells_mk) ?_
         refine retX Tryz.results157 ?_
         exact .c _

theorem rdeep_told : ∀ (m : Nat) (t : JT), SizeOf.sizeOf t ≤ m → tdeep t ≤ 1000 → Told Tryz.prog 56 [t.av] (.c (.v (.int .i64 (tdeep t)))) := by
 intro m
 induction m with
 | zero => intro t ht; cases t; simp at ht
 | succ m ih =>
 intro t ht hd
 cases t with
 | mk k n s ks xs =>
 refine VC.told ent_56 Tryz.func56 rfl Tryz.ntmps56 (by simp) rfl rfl fun hb => ?_
 simp only [JT.av, cells_mk, List.map_cons, List.map_nil, abd_agg, abd_c, pbd_v, pbd_sl, List.mem_cons, List.not_mem_nil, or_false, forall_eq_or_imp, forall_eq, true_and, List.length_map] at hb ⊢
 have hxl := hb.1.1
 clear hb
 refine walkG ?_
 refine VC.cond (by rfl) (by trivial) (fun hc => ?_) (fun hc => ?_)
 · have hk : ¬ (k = 5 ∨ k = 6) := by
    simp at hc
    omega
   have hdd : tdeep (.mk k n s ks xs) = 0 := by simp [tdeep, hk]
   rw [hdd]
   refine walkG ?_
   refine ⟨.inr rfl, ?_⟩
   rw [Tryz.results56]
   simp only [resOk, resV, go_sem, simprocAttr]
   exact .c _
 · have hk : k = 5 ∨ k = 6 := by
    simp at hc
    omega
   have hdd : tdeep (.mk k n s ks xs) = tdeeps 1 xs := by simp [tdeep, hk]
   rw [hdd] at hd ⊢
   clear hc
   refine walkG ?_
   refine VC.loop (ι := {i : Nat // i ≤ xs.length}) (fun i => [(1, .ref 0 1 0 0), (3, .c (.v (.int .i64 (tdeeps 1 (xs.take i.1))))), (4, .c (.v (.int .i64 i.1)))])
    (fun _ => [(0, ⟨false, 36, 5, [(JT.mk k n s ks xs).cells.map .c]⟩)]) 8 (fun i => xs.length - i.1) ⟨0, Nat.zero_le _⟩ ?_ ?_
   · simp only [List.take_zero, tdeeps, cells_mk, Weak, eq_self, used_is, sc_any, sc_c, sc_pp, sc_ref, sc_row, sc_agg, sc_fn, ScL, some_imp, List.forall_mem_map, go_sem, Int.reduceBEq, Int.reduceLE, Int.reduceLT, Int.reduceNeg, Nat.reduceAdd, Nat.reduceEqDiff, Nat.reduceLT, Nat.reduceLeDiff, Nat.reduceMul, Nat.reduceSub, reduceCtorEq, ↓reduceIte]
     all_goals rfl
   rintro ⟨i, hi⟩
   refine walkGF (@cells_mk) ?_
   refine VC.cond (by rfl) (by trivial) (fun hc => ?_) (fun hc => ?_)
   · simp only [decide_eq_true_eq] at hc
     have hlt : i < xs.length := by omega
     obtain ⟨x, hx⟩ : ∃ x, xs[i]? = some x := ⟨xs[i], List.getElem?_eq_getElem hlt⟩
     have hxm := List.mem_of_getElem? hx
     have hle := (tdeeps_le xs 1).2 x hxm
     have hcall := ih x (by
      have h1 := List.sizeOf_lt_of_mem hxm
      simp at ht
      omega) (by omega)
     have hmm : tdeeps 1 (xs.take (i + 1)) = max (tdeeps 1 (xs.take i)) (1 + tdeep x) := by
      rw [← tdeeps_snoc, List.take_add_one, hx]
      rfl
     have hw : IntKind.i64.wrap ((tdeep x : Int) + 1) = (tdeep x : Int) + 1 := wrap64_id (by omega) (by omega)
     have hw2 : IntKind.i64.wrap ((i : Int) + 1) = (i : Int) + 1 := wrap64_id (by omega) (by omega)
     (repeat (first | refine pass ?_ | refine VC.region (by rfl) (by rfl) ?_ | (refine AO.step fun K hK => ?_; simp only [cells_mk, List.getElem?_map, hx, len_cells, take_cells, take_cellsC, go_sem, Int.reduceBEq, Int.reduceLE, Int.reduceLT, Int.reduceNeg, Nat.reduceAdd, Nat.reduceEqDiff, Nat.reduceLT, Nat.reduceLeDiff, Nat.reduceMul, Nat.reduceSub, reduceCtorEq, ↓reduceIte]; (first | refine gsel_skip ?_ | refine gsel_go ?_ | skip); (first | refine hK _ _ _ ?_ | refine ⟨by first | omega | exact ⟨_, rfl, rfl⟩ | exact fun _ => ⟨_, rfl, rfl⟩ | (intro h; simp only [cells_mk, List.getElem?_map, hx, len_cells, take_cells, take_cellsC, h, true_and]; omega) | (clear hK; intro h; simp_all <;> omega), hK _ _ _ ?_⟩); clear hK K) | refine VC.draw mixP (by rfl) (by rfl) ?_ | refine ⟨okd_of (by kernel_rfl), ?_⟩ | refine BQ.other (by decide) ?_ | refine VC.seq ?_ | refine AO.nil ?_ | refine VC.block ?_))
     (refine AO.step fun K hK => ?_; simp only [go_sem, Int.reduceBEq, Int.reduceLE, Int.reduceLT, Int.reduceNeg, Nat.reduceAdd, Nat.reduceEqDiff, Nat.reduceLT, Nat.reduceLeDiff, Nat.reduceMul, Nat.reduceSub, reduceCtorEq, ↓reduceIte, pureL_c]; (first | refine gsel_go ?_ | skip))
     refine .inl ⟨_, hcall, hK _ _ _ ?_⟩
     clear hK K
     refine walkGF (And.intro hw hw2) ?_
     refine VC.cond (by rfl) (by trivial) (fun hc2 => ?_) (fun hc2 => ?_)
     · simp only [decide_eq_true_eq] at hc2
       refine walkGF (hw2) ?_
       refine .next ⟨i + 1, by omega⟩ ?_ (by simp only []; omega)
       refine weakXF (And.intro hmm @cells_mk) ?_
       exact ⟨cI (by omega), cI (by omega)⟩
     · simp only [decide_eq_false_iff_not] at hc2
       refine walkGF (hw2) ?_
       refine .next ⟨i + 1, by omega⟩ ?_ (by simp only []; omega)
       refine weakXF (And.intro hmm @cells_mk) ?_
       exact ⟨cI (by omega), cI (by omega)⟩
   · simp only [decide_eq_false_iff_not] at hc
     obtain rfl : i = xs.length := by omega
     refine walkG ?_
     refine ⟨.inr rfl, ?_⟩
     rw [Tryz.results56]
     simp only [resOk, resV, go_sem, simprocAttr]
     rw [List.take_length]
     exact .c _

theorem rright_told (t : JT) (h1 : t.sm 1000000) (h2 : tdeep t ≤ 1000) : Told Tryz.prog 103 [t.av] (.c (.v (.bool (jR t)))) := by
 have hS := rshape_told _ t (Nat.le_refl _) h1
 have hD := rdeep_told _ t (Nat.le_refl _) h2
 have hV : jR t = (decide ((tdeep t : Int) ≤ 32) && rshape t) := by
  rw [jR_shape]
  congr 1
  by_cases h : tdeep t ≤ 32
  · simp [h]; omega
  · simp [h]; omega
 obtain ⟨V, hVV⟩ : ∃ V, V = jR t := ⟨_, rfl⟩
 rw [← hVV] at hV ⊢
 refine VC.told ent_103 Tryz.func103 rfl Tryz.ntmps103 (by simp) (by simp [AV.pureB, AV.pureL, JT.av, pureL_c]) rfl fun hb => ?_
 clear hb
 refine walkGF (And.intro @JT.av_eq (And.intro @len_cells (And.intro @take_cells @take_cellsC))) ?_
 refine walkCF (And.intro @JT.av_eq (And.intro @len_cells (And.intro @take_cells (And.intro @take_cellsC @pureL_c)))) (hD) ?_
 refine walkGF (And.intro @JT.av_eq (And.intro @len_cells (And.intro @take_cells @take_cellsC))) ?_
 refine walkDF (And.intro @JT.av_eq (And.intro @len_cells (And.intro @take_cells (And.intro @take_cellsC @pureL_c)))) (hS) ?_
 refine walkG ?_
 refine retX Tryz.results103 ?_
 rw [hV]
 exact .c _

theorem rquote_told (s : List UInt8) (hs : s.length ≤ 1000000000) : Told Tryz.prog 159 [.c (.v (.string (str s)))] (.c (.v (.string (str (mQuote s))))) := by
 refine VC.toldP ent_159 Tryz.func159 rfl Tryz.ntmps159 fun hb => ?_
 clear hb
 refine walkG ?_
 refine VC.loop (ι := {q : Nat × List UInt8 // q.1 ≤ s.length ∧ q.2 = 34 :: (s.take q.1).flatMap qByte ∧ q.2.length ≤ 1 + 6 * q.1})
  (fun q => [(0, .c (.v (.string (str s)))), (3, .c (.v (.string ⟨#[48, 49, 50, 51, 52, 53, 54, 55, 56, 57, 97, 98, 99, 100, 101, 102]⟩))), (4, .row 16 q.1.2.length), (5, .c (.v (.int .i64 (q.1.1 : Int))))])
  (fun q => [(16, ⟨true, 5, 1, bA q.1.2⟩)]) 64 (fun q => s.length - q.1.1) ⟨(0, [34]), Nat.zero_le _, by simp, by simp⟩ ?_ ?_
 · refine weakXF (And.intro @bA_len @bA_sc) ?_
   simp [bA]
 rintro ⟨⟨i, c⟩, hi, hcc, hcl⟩
 simp only [] at hi hcc hcl ⊢
 refine walkGF (And.intro @bA_len @str_size) ?_
 refine VC.cond (by rfl) (by trivial) (fun hc => ?_) (fun hc => ?_)
 · have hlt : i < s.length := by simp at hc; omega
   obtain ⟨x, hx⟩ : ∃ x, s[i]? = some x := ⟨s[i], List.getElem?_eq_getElem hlt⟩
   obtain ⟨y, hy⟩ : ∃ y, y = x.toNat := ⟨_, rfl⟩
   have hxy : x = y.toUInt8 := by rw [hy]; simp
   have hy256 : y < 256 := by rw [hy]; exact x.toNat_lt
   have hw : IntKind.i64.wrap ((i : Int) + 1) = (i : Int) + 1 := wrap64_id (by omega) (by omega)
   have hn : ∀ p, qByte x = p → (c ++ p) = 34 :: (s.take (i + 1)).flatMap qByte ∧ (c ++ p).length ≤ 1 + 6 * (i + 1) := by
    intro p hp
    have hqx := qByte_len x
    rw [hp] at hqx
    refine ⟨?_, by rw [List.length_append]; omega⟩
    rw [take_next hx, hcc, hp]
    simp
   have hf : ∀ (z : Int) (b : Bool), (b = true ↔ (y : Int) = z) → ((y : Int) == z) = b := by
    intro z b hb
    cases b with
    | true => simpa using hb
    | false => simpa using hb
   by_cases h34 : y = 34
   · have hq : qByte x = [92, x] := by rw [hxy, h34]; rfl
     obtain ⟨e1, e2⟩ := hn _ hq
     have e34 : ((y : Int) == 34) = true := hf 34 true (by simp; omega)
     have e92 : ((y : Int) == 92) = false := hf 92 false (by simp; omega)
     have e8 : ((y : Int) == 8) = false := hf 8 false (by simp; omega)
     have e12 : ((y : Int) == 12) = false := hf 12 false (by simp; omega)
     have e10 : ((y : Int) == 10) = false := hf 10 false (by simp; omega)
     have e13 : ((y : Int) == 13) = false := hf 13 false (by simp; omega)
     have e9 : ((y : Int) == 9) = false := hf 9 false (by simp; omega)
     refine walkBF (And.intro @bA_len (And.intro @str_size (And.intro @str_dl (And.intro hx (And.intro hy.symm (And.intro hw (And.intro e34 (And.intro e92 (And.intro e8 (And.intro e12 (And.intro e10 (And.intro e13 e9)))))))))))) ?_
     have hyx : (y : Int) = (x.toNat : Int) := by rw [hy]
     refine .next ⟨(i + 1, c ++ [92, x]), by simp only []; omega, e1, e2⟩ ?_ (by simp only []; omega)
     refine weakXF (And.intro @bA_len @bA_sc) ?_
     exact ⟨⟨by simp, cI (by omega)⟩, by simp [bA, hyx], Nat.le_refl _⟩
   by_cases h92 : y = 92
   · have hq : qByte x = [92, x] := by rw [hxy, h92]; rfl
     obtain ⟨e1, e2⟩ := hn _ hq
     have e34 : ((y : Int) == 34) = false := hf 34 false (by simp; omega)
     have e92 : ((y : Int) == 92) = true := hf 92 true (by simp; omega)
     have e8 : ((y : Int) == 8) = false := hf 8 false (by simp; omega)
     have e12 : ((y : Int) == 12) = false := hf 12 false (by simp; omega)
     have e10 : ((y : Int) == 10) = false := hf 10 false (by simp; omega)
     have e13 : ((y : Int) == 13) = false := hf 13 false (by simp; omega)
     have e9 : ((y : Int) == 9) = false := hf 9 false (by simp; omega)
     refine walkBF (And.intro @bA_len (And.intro @str_size (And.intro @str_dl (And.intro hx (And.intro hy.symm (And.intro hw (And.intro e34 (And.intro e92 (And.intro e8 (And.intro e12 (And.intro e10 (And.intro e13 e9)))))))))))) ?_
     have hyx : (y : Int) = (x.toNat : Int) := by rw [hy]
     refine .next ⟨(i + 1, c ++ [92, x]), by simp only []; omega, e1, e2⟩ ?_ (by simp only []; omega)
     refine weakXF (And.intro @bA_len @bA_sc) ?_
     exact ⟨⟨by simp, cI (by omega)⟩, by simp [bA, hyx], Nat.le_refl _⟩
   by_cases h8 : y = 8
   · have hq : qByte x = [92, 98] := by rw [hxy, h8]; rfl
     obtain ⟨e1, e2⟩ := hn _ hq
     have e34 : ((y : Int) == 34) = false := hf 34 false (by simp; omega)
     have e92 : ((y : Int) == 92) = false := hf 92 false (by simp; omega)
     have e8 : ((y : Int) == 8) = true := hf 8 true (by simp; omega)
     have e12 : ((y : Int) == 12) = false := hf 12 false (by simp; omega)
     have e10 : ((y : Int) == 10) = false := hf 10 false (by simp; omega)
     have e13 : ((y : Int) == 13) = false := hf 13 false (by simp; omega)
     have e9 : ((y : Int) == 9) = false := hf 9 false (by simp; omega)
     refine walkBF (And.intro @bA_len (And.intro @str_size (And.intro @str_dl (And.intro hx (And.intro hy.symm (And.intro hw (And.intro e34 (And.intro e92 (And.intro e8 (And.intro e12 (And.intro e10 (And.intro e13 e9)))))))))))) ?_
     refine .next ⟨(i + 1, c ++ [92, 98]), by simp only []; omega, e1, e2⟩ ?_ (by simp only []; omega)
     refine weakXF (And.intro @bA_len @bA_sc) ?_
     exact ⟨⟨by simp, cI (by omega)⟩, by simp [bA], Nat.le_refl _⟩
   by_cases h12 : y = 12
   · have hq : qByte x = [92, 102] := by rw [hxy, h12]; rfl
     obtain ⟨e1, e2⟩ := hn _ hq
     have e34 : ((y : Int) == 34) = false := hf 34 false (by simp; omega)
     have e92 : ((y : Int) == 92) = false := hf 92 false (by simp; omega)
     have e8 : ((y : Int) == 8) = false := hf 8 false (by simp; omega)
     have e12 : ((y : Int) == 12) = true := hf 12 true (by simp; omega)
     have e10 : ((y : Int) == 10) = false := hf 10 false (by simp; omega)
     have e13 : ((y : Int) == 13) = false := hf 13 false (by simp; omega)
     have e9 : ((y : Int) == 9) = false := hf 9 false (by simp; omega)
     refine walkBF (And.intro @bA_len (And.intro @str_size (And.intro @str_dl (And.intro hx (And.intro hy.symm (And.intro hw (And.intro e34 (And.intro e92 (And.intro e8 (And.intro e12 (And.intro e10 (And.intro e13 e9)))))))))))) ?_
     refine .next ⟨(i + 1, c ++ [92, 102]), by simp only []; omega, e1, e2⟩ ?_ (by simp only []; omega)
     refine weakXF (And.intro @bA_len @bA_sc) ?_
     exact ⟨⟨by simp, cI (by omega)⟩, by simp [bA], Nat.le_refl _⟩
   by_cases h10 : y = 10
   · have hq : qByte x = [92, 110] := by rw [hxy, h10]; rfl
     obtain ⟨e1, e2⟩ := hn _ hq
     have e34 : ((y : Int) == 34) = false := hf 34 false (by simp; omega)
     have e92 : ((y : Int) == 92) = false := hf 92 false (by simp; omega)
     have e8 : ((y : Int) == 8) = false := hf 8 false (by simp; omega)
     have e12 : ((y : Int) == 12) = false := hf 12 false (by simp; omega)
     have e10 : ((y : Int) == 10) = true := hf 10 true (by simp; omega)
     have e13 : ((y : Int) == 13) = false := hf 13 false (by simp; omega)
     have e9 : ((y : Int) == 9) = false := hf 9 false (by simp; omega)
     refine walkBF (And.intro @bA_len (And.intro @str_size (And.intro @str_dl (And.intro hx (And.intro hy.symm (And.intro hw (And.intro e34 (And.intro e92 (And.intro e8 (And.intro e12 (And.intro e10 (And.intro e13 e9)))))))))))) ?_
     refine .next ⟨(i + 1, c ++ [92, 110]), by simp only []; omega, e1, e2⟩ ?_ (by simp only []; omega)
     refine weakXF (And.intro @bA_len @bA_sc) ?_
     exact ⟨⟨by simp, cI (by omega)⟩, by simp [bA], Nat.le_refl _⟩
   by_cases h13 : y = 13
   · have hq : qByte x = [92, 114] := by rw [hxy, h13]; rfl
     obtain ⟨e1, e2⟩ := hn _ hq
     have e34 : ((y : Int) == 34) = false := hf 34 false (by simp; omega)
     have e92 : ((y : Int) == 92) = false := hf 92 false (by simp; omega)
     have e8 : ((y : Int) == 8) = false := hf 8 false (by simp; omega)
     have e12 : ((y : Int) == 12) = false := hf 12 false (by simp; omega)
     have e10 : ((y : Int) == 10) = false := hf 10 false (by simp; omega)
     have e13 : ((y : Int) == 13) = true := hf 13 true (by simp; omega)
     have e9 : ((y : Int) == 9) = false := hf 9 false (by simp; omega)
     refine walkBF (And.intro @bA_len (And.intro @str_size (And.intro @str_dl (And.intro hx (And.intro hy.symm (And.intro hw (And.intro e34 (And.intro e92 (And.intro e8 (And.intro e12 (And.intro e10 (And.intro e13 e9)))))))))))) ?_
     refine .next ⟨(i + 1, c ++ [92, 114]), by simp only []; omega, e1, e2⟩ ?_ (by simp only []; omega)
     refine weakXF (And.intro @bA_len @bA_sc) ?_
     exact ⟨⟨by simp, cI (by omega)⟩, by simp [bA], Nat.le_refl _⟩
   by_cases h9 : y = 9
   · have hq : qByte x = [92, 116] := by rw [hxy, h9]; rfl
     obtain ⟨e1, e2⟩ := hn _ hq
     have e34 : ((y : Int) == 34) = false := hf 34 false (by simp; omega)
     have e92 : ((y : Int) == 92) = false := hf 92 false (by simp; omega)
     have e8 : ((y : Int) == 8) = false := hf 8 false (by simp; omega)
     have e12 : ((y : Int) == 12) = false := hf 12 false (by simp; omega)
     have e10 : ((y : Int) == 10) = false := hf 10 false (by simp; omega)
     have e13 : ((y : Int) == 13) = false := hf 13 false (by simp; omega)
     have e9 : ((y : Int) == 9) = true := hf 9 true (by simp; omega)
     refine walkBF (And.intro @bA_len (And.intro @str_size (And.intro @str_dl (And.intro hx (And.intro hy.symm (And.intro hw (And.intro e34 (And.intro e92 (And.intro e8 (And.intro e12 (And.intro e10 (And.intro e13 e9)))))))))))) ?_
     refine .next ⟨(i + 1, c ++ [92, 116]), by simp only []; omega, e1, e2⟩ ?_ (by simp only []; omega)
     refine weakXF (And.intro @bA_len @bA_sc) ?_
     exact ⟨⟨by simp, cI (by omega)⟩, by simp [bA], Nat.le_refl _⟩
   have e34 : ((y : Int) == 34) = false := hf 34 false (by simp; omega)
   have e92 : ((y : Int) == 92) = false := hf 92 false (by simp; omega)
   have e8 : ((y : Int) == 8) = false := hf 8 false (by simp; omega)
   have e12 : ((y : Int) == 12) = false := hf 12 false (by simp; omega)
   have e10 : ((y : Int) == 10) = false := hf 10 false (by simp; omega)
   have e13 : ((y : Int) == 13) = false := hf 13 false (by simp; omega)
   have e9 : ((y : Int) == 9) = false := hf 9 false (by simp; omega)
   have hqb : qByte x = if y < 32 then [92, 117, 48, 48, hexD (y / 16), hexD (y % 16)] else [x] := by
    unfold qByte
    rw [← hy, if_neg h34, if_neg h92, if_neg h8, if_neg h12, if_neg h10, if_neg h13, if_neg h9]
   by_cases h32 : y < 32
   · rw [if_pos h32] at hqb
     obtain ⟨e1, e2⟩ := hn _ hqb
     have hd : decide ((y : Int) < 32) = true := by simp; omega
     have z1 : (⟨#[48, 49, 50, 51, 52, 53, 54, 55, 56, 57, 97, 98, 99, 100, 101, 102]⟩ : ByteArray).size = 16 := rfl
     have z2 : ∀ k : Nat, k < 16 → (((⟨#[48, 49, 50, 51, 52, 53, 54, 55, 56, 57, 97, 98, 99, 100, 101, 102]⟩ : ByteArray).data.toList)[k]?).getD 0 = hexD k := by decide +kernel
     have z3 : IntKind.u8.wrap ((y : Int).tdiv 16) = ((y / 16 : Nat) : Int) := by
      show IntKind.u8.wrap (((y / 16 : Nat) : Int)) = _
      rw [IntWalk.u8_in _ ⟨by omega, by omega⟩]
     have z4 : ((y : Int).tmod 16) = ((y % 16 : Nat) : Int) := rfl
     have z5 := z2 (y / 16) (by omega)
     have z6 := z2 (y % 16) (by omega)
     (repeat (first | refine pass ?_ | refine VC.region (by rfl) (by rfl) ?_ | (refine AO.step fun K hK => ?_; simp only [bA_len, str_size, str_dl, hx, ← hy, hw, e34, e92, e8, e12, e10, e13, e9, hd, z1, z3, z4, z5, z6, Int.toNat_natCast, go_sem, Int.reduceBEq, Int.reduceLE, Int.reduceLT, Int.reduceNeg, Nat.reduceAdd, Nat.reduceEqDiff, Nat.reduceLT, Nat.reduceLeDiff, Nat.reduceMul, Nat.reduceSub, reduceCtorEq, ↓reduceIte]; (first | refine gsel_skip ?_ | refine gsel_go ?_ | skip); (first | refine hK _ _ _ ?_ | refine ⟨by first | omega | exact ⟨_, rfl, rfl⟩ | exact fun _ => ⟨_, rfl, rfl⟩ | (intro h; simp only [bA_len, str_size, str_dl, hx, ← hy, hw, e34, e92, e8, e12, e10, e13, e9, hd, z1, z3, z4, z5, z6, Int.toNat_natCast, h, true_and]; omega) | (clear hK; intro h; simp_all <;> omega), hK _ _ _ ?_⟩); clear hK K) | refine VC.draw mixP (by rfl) (by rfl) ?_ | refine ⟨okd_of (by kernel_rfl), ?_⟩ | refine BQ.other (by decide) ?_ | refine VC.seq ?_ | refine AO.nil ?_ | refine VC.block ?_ | refine VC.condT (by rfl) (by trivial) ?_ | refine VC.condF (by rfl) (by trivial) ?_))
     refine .next ⟨(i + 1, c ++ [92, 117, 48, 48, hexD (y / 16), hexD (y % 16)]), by simp only []; omega, e1, e2⟩ ?_ (by simp only []; omega)
     refine weakXF (And.intro @bA_len @bA_sc) ?_
     exact ⟨⟨by simp, cI (by omega)⟩, by simp [bA], Nat.le_refl _⟩
   · rw [if_neg h32] at hqb
     obtain ⟨e1, e2⟩ := hn _ hqb
     have hd : decide ((y : Int) < 32) = false := by simp; omega
     refine walkBF (And.intro @bA_len (And.intro @str_size (And.intro @str_dl (And.intro hx (And.intro hy.symm (And.intro hw (And.intro e34 (And.intro e92 (And.intro e8 (And.intro e12 (And.intro e10 (And.intro e13 (And.intro e9 hd))))))))))))) ?_
     have hyx : (y : Int) = (x.toNat : Int) := by rw [hy]
     refine .next ⟨(i + 1, c ++ [x]), by simp only []; omega, e1, e2⟩ ?_ (by simp only []; omega)
     refine weakXF (And.intro @bA_len @bA_sc) ?_
     exact ⟨⟨by simp, cI (by omega)⟩, by simp [bA, hyx], Nat.le_refl _⟩
 · have hge : i = s.length := by simp at hc; omega
   subst hge
   rw [List.take_length] at hcc
   have hfin : c ++ [34] = mQuote s := by rw [hcc, mQuote]; try simp
   refine walkGF (@bA_len) ?_
   (refine AO.step fun K hK => ?_; simp only [go_sem, Int.reduceBEq, Int.reduceLE, Int.reduceLT, Int.reduceNeg, Nat.reduceAdd, Nat.reduceEqDiff, Nat.reduceLT, Nat.reduceLeDiff, Nat.reduceMul, Nat.reduceSub, reduceCtorEq, ↓reduceIte, bA_len]; (first | refine gsel_go ?_ | skip))
   refine ⟨bytePV (c ++ [34]), ⟨by simp [bA], by rw [← bA_pv]; simp [bA], bytePV_ok _⟩, hK _ _ _ ?_⟩; clear hK K
   refine walkGF (@bytesOf_pv) ?_
   refine retX Tryz.results159 ?_
   rw [hfin]
   exact .c _

theorem str_add (l m : List UInt8) : (⟨l.toArray⟩ : ByteArray) ++ ⟨m.toArray⟩ = ⟨(l ++ m).toArray⟩ := by
 apply ByteArray.ext
 simp
theorem bsz' (l : List UInt8) : (⟨l.toArray⟩ : ByteArray).size = l.length := by simp [ByteArray.size]
theorem rnumber_told (n : Int) (h1 : -9223372036854775808 ≤ n) (h2 : n ≤ 9223372036854775807) : Told Tryz.prog 158 [.c (.v (.int .i64 n))] (.c (.v (.string (str (mNumb n))))) := by
 obtain ⟨u, hu⟩ : ∃ u, u = n.natAbs := ⟨_, rfl⟩
 have hm : mNumb n = (if n < 0 then [45] else []) ++ digs u := by rw [hu]; rfl
 obtain ⟨M, hM⟩ : ∃ M, M = mNumb n := ⟨_, rfl⟩
 rw [← hM] at hm ⊢
 have hul : u < 10 ^ 20 := by omega
 have hdl := digs_len 19 u hul
 unfold str
 refine VC.toldP ent_158 Tryz.func158 rfl Tryz.ntmps158 fun hb => ?_
 clear hb
 refine walkG ?_
 refine VC.meet [(0, .c (.v (.int .i64 n))), (3, .c (.v (.string ⟨([] : List UInt8).toArray⟩))), (4, .c (.v (.int .u64 (u : Int))))] [] 200 ?_ ?_
 · refine VC.cond (by rfl) (by trivial) (fun hc => ?_) (fun hc => ?_)
   · have hn : n < 0 := by simpa using hc
     have hw1 : IntKind.i64.wrap (n + 1) = n + 1 := wrap64_id (by omega) (by omega)
     have hw2 : IntKind.i64.wrap (0 - (n + 1)) = 0 - (n + 1) := wrap64_id (by omega) (by omega)
     have hw3 : IntKind.u64.wrap (IntKind.u64.wrap (0 - (n + 1)) + 1) = (u : Int) := by
      rw [IntKind.wrap_u64, IntKind.wrap_u64]
      omega
     refine walkGF (And.intro hw1 (And.intro hw2 hw3)) ?_
     refine .normal ?_
     exact weakZ
   · have hn : ¬ n < 0 := by simpa using hc
     have hw : IntKind.u64.wrap n = (u : Int) := by rw [IntWalk.u64_in _ ⟨by omega, by omega⟩]; omega
     refine walkGF (hw) ?_
     refine .normal ?_
     exact weakZF (hw)
 refine walkG ?_
 refine VC.loop (ι := {q : Nat × List UInt8 // q.1 ≤ u ∧ digs u = digs q.1 ++ q.2}) (fun q => [(0, .c (.v (.int .i64 n))), (3, .c (.v (.string ⟨q.1.2.toArray⟩))), (4, .c (.v (.int .u64 (q.1.1 : Int))))]) (fun q => []) 208 (fun q => q.1.1) ⟨(u, []), Nat.le_refl _, by simp⟩ ?_ ?_
 · exact weakZ
 rintro ⟨⟨v, ds⟩, hv, hd⟩
 simp only [] at hv hd ⊢
 have hdl2 : ds.length ≤ 20 := by rw [hd] at hdl; simp at hdl; omega
 have hdig : IntKind.u8.wrap (IntKind.u64.wrap (48 + ((v : Int).tmod 10))) = ((UInt8.ofNat (48 + v % 10)).toNat : Int) := by
  rw [← numb_digit v]
  rfl
 refine walkG ?_
 refine VC.cond (by rfl) (by trivial) (fun hc => ?_) (fun hc => ?_)
 · have hv9 : ¬ v < 10 := by simp at hc; omega
   have hq : IntKind.u64.wrap ((v : Int).tdiv 10) = ((v / 10 : Nat) : Int) := by rw [IntWalk.u64_quo _ _ ⟨by omega, by omega, by omega⟩]; omega
   obtain ⟨x, hx⟩ : ∃ x, x = UInt8.ofNat (48 + v % 10) := ⟨_, rfl⟩
   rw [← hx] at hdig
   refine walkGF (hdig) ?_
   (refine AO.step fun K hK => ?_; simp only [go_sem, Int.reduceBEq, Int.reduceLE, Int.reduceLT, Int.reduceNeg, Nat.reduceAdd, Nat.reduceEqDiff, Nat.reduceLT, Nat.reduceLeDiff, Nat.reduceMul, Nat.reduceSub, reduceCtorEq, ↓reduceIte]; (first | refine gsel_go ?_ | skip))
   refine ⟨bytePV [x], ⟨rfl, bytePV_ok [x]⟩, hK _ _ _ ?_⟩; clear hK K
   have hs := str_add [x] ds
   have hz1 := bsz' [x]
   have hz2 := bsz' ds
   (repeat (first | refine pass ?_ | refine VC.region (by rfl) (by rfl) ?_ | (refine AO.step fun K hK => ?_; simp only [bytesOf_pv, bstr, hs, hz1, hz2, hq, go_sem, Int.reduceBEq, Int.reduceLE, Int.reduceLT, Int.reduceNeg, Nat.reduceAdd, Nat.reduceEqDiff, Nat.reduceLT, Nat.reduceLeDiff, Nat.reduceMul, Nat.reduceSub, reduceCtorEq, ↓reduceIte]; (first | refine gsel_skip ?_ | refine gsel_go ?_ | skip); (first | refine hK _ _ _ ?_ | refine ⟨by first | omega | exact ⟨_, rfl, rfl⟩ | exact fun _ => ⟨_, rfl, rfl⟩ | (intro h; simp only [bytesOf_pv, bstr, hs, hz1, hz2, hq, h, true_and]; omega) | (clear hK; intro h; simp_all <;> omega), hK _ _ _ ?_⟩); clear hK K) | refine VC.draw mixP (by rfl) (by rfl) ?_ | refine ⟨okd_of (by kernel_rfl), ?_⟩ | refine BQ.other (by decide) ?_ | refine VC.seq ?_ | refine AO.nil ?_ | refine VC.block ?_))
   refine .next ⟨(v / 10, x :: ds), by simp only []; omega, by simp only []; rw [hd, digs_ge hv9, hx]; simp⟩ ?_ (by simp only []; omega)
   exact weakZ
 · have hv9 : v < 10 := by simp at hc; omega
   have hvm : IntKind.u8.wrap (IntKind.u64.wrap (48 + (v : Int))) = ((UInt8.ofNat (48 + v)).toNat : Int) := by
    have := numb_digit v
    rwa [Nat.mod_eq_of_lt hv9] at this
   obtain ⟨x, hx⟩ : ∃ x, x = UInt8.ofNat (48 + v) := ⟨_, rfl⟩
   rw [← hx] at hvm
   have hfin : digs u = x :: ds := by rw [hd, digs_lt hv9, hx]; rfl
   rw [hfin] at hm
   refine walkGF (hvm) ?_
   (refine AO.step fun K hK => ?_; simp only [go_sem, Int.reduceBEq, Int.reduceLE, Int.reduceLT, Int.reduceNeg, Nat.reduceAdd, Nat.reduceEqDiff, Nat.reduceLT, Nat.reduceLeDiff, Nat.reduceMul, Nat.reduceSub, reduceCtorEq, ↓reduceIte]; (first | refine gsel_go ?_ | skip))
   refine ⟨bytePV [x], ⟨rfl, bytePV_ok [x]⟩, hK _ _ _ ?_⟩; clear hK K
   have hs := str_add [x] ds
   have hz1 := bsz' [x]
   have hz2 := bsz' ds
   (repeat (first | refine pass ?_ | refine VC.region (by rfl) (by rfl) ?_ | (refine AO.step fun K hK => ?_; simp only [bytesOf_pv, bstr, hs, hz1, hz2, go_sem, Int.reduceBEq, Int.reduceLE, Int.reduceLT, Int.reduceNeg, Nat.reduceAdd, Nat.reduceEqDiff, Nat.reduceLT, Nat.reduceLeDiff, Nat.reduceMul, Nat.reduceSub, reduceCtorEq, ↓reduceIte]; (first | refine gsel_skip ?_ | refine gsel_go ?_ | skip); (first | refine hK _ _ _ ?_ | refine ⟨by first | omega | exact ⟨_, rfl, rfl⟩ | exact fun _ => ⟨_, rfl, rfl⟩ | (intro h; simp only [bytesOf_pv, bstr, hs, hz1, hz2, h, true_and]; omega) | (clear hK; intro h; simp_all <;> omega), hK _ _ _ ?_⟩); clear hK K) | refine VC.draw mixP (by rfl) (by rfl) ?_ | refine ⟨okd_of (by kernel_rfl), ?_⟩ | refine BQ.other (by decide) ?_ | refine VC.seq ?_ | refine AO.nil ?_ | refine VC.block ?_))
   refine VC.cond (by rfl) (by trivial) (fun h3 => ?_) (fun h3 => ?_)
   · have hn : n < 0 := by simpa using h3
     rw [if_pos hn] at hm
     have hs2 : (⟨#[45]⟩ : ByteArray) ++ ⟨(x :: ds).toArray⟩ = ⟨(45 :: x :: ds).toArray⟩ := str_add [45] (x :: ds)
     have hz3 : (⟨#[45]⟩ : ByteArray).size = 1 := rfl
     have hz4 := bsz' (x :: ds)
     refine walkGF (And.intro hs2 (And.intro hz3 hz4)) ?_
     refine retX Tryz.results158 ?_
     subst hm
     exact .c _
   · have hn : ¬ n < 0 := by simpa using h3
     rw [if_neg hn] at hm
     refine walkG ?_
     refine retX Tryz.results158 ?_
     subst hm
     exact .c _

theorem rtxt_told : ∀ (m : Nat) (t : JT), SizeOf.sizeOf t ≤ m → t.sm 1000000000 → t.inr → ∀ d, jright d t = true → (tText t).length ≤ 1000000000000000000 → Told Tryz.prog 104 [t.av] (.c (.v (.string (str (tText t))))) := by
 intro m
 induction m with
 | zero =>
   intro t ht
   cases t
   simp at ht
 | succ m ih =>
 intro t ht hsm hin d hr hlen
 cases t with
 | mk k n s ks xs =>
 have hx : ∀ x ∈ xs, (tText x).length ≤ 1000000000000000000 → Told Tryz.prog 104 [x.av] (.c (.v (.string (str (tText x))))) := by
  intro x hxm hl
  rw [jright] at hr
  simp only [Bool.and_eq_true] at hr
  exact ih x (by have := List.sizeOf_lt_of_mem hxm; simp at ht; omega) (smL_mem hsm.2.2.2.2 x hxm) (inrL_mem hin.2 x hxm) (d + 1) (jrights_mem hr.2 x hxm) hl
 obtain ⟨hsl, hkl, hks, hxl, _⟩ := hsm
 obtain ⟨⟨hn1, hn2⟩, _⟩ := hin
 have hky : k = 6 → ks.length = xs.length := by
  intro h6
  rw [jright] at hr
  simp only [Bool.and_eq_true] at hr
  have := hr.1.1.2
  rw [jkeyed, if_neg (by omega)] at this
  simp at this
  exact this.1
 have hbn : k = 2 → n = 0 ∨ n = 1 := by
  intro h2
  rw [jright] at hr
  simp only [Bool.and_eq_true] at hr
  have := hr.1.1.1
  rw [jbare, h2] at this
  simp at this
  exact this.1.1
 have hk16 : 1 ≤ k ∧ k ≤ 6 := by
  rw [jright] at hr
  simp only [Bool.and_eq_true] at hr
  have := hr.1.1.1
  rw [jbare] at this
  repeat' split at this
  all_goals first | omega | (simp at this)
 clear ih ht hr
 simp only [JT.av]
 refine VC.told ent_104 Tryz.func104 rfl Tryz.ntmps104 (by simp) (by simp [AV.pureB, AV.pureL, cells_mk]) (by simp [AV.pureB, AV.pureL]) fun hb => ?_
 clear hb
 rcases (by omega : k = 1 ∨ k = 2 ∨ k = 3 ∨ k = 4 ∨ k = 5 ∨ k = 6) with hk1 | hk2 | hk3 | hk4 | hk5 | hk6
 · subst hk1
   have hF : tText (.mk 1 n s ks xs) = [110, 117, 108, 108] := by rw [tText]; simp
   rw [hF]
   refine walkBF (@cells_mk) ?_
   refine retX Tryz.results104 ?_
   exact .c _
 · subst hk2
   rcases hbn rfl with hn0 | hn0
   · subst hn0
     have hF : tText (.mk 2 0 s ks xs) = [102, 97, 108, 115, 101] := by rw [tText]; simp
     rw [hF]
     refine walkBF (@cells_mk) ?_
     refine retX Tryz.results104 ?_
     exact .c _
   · subst hn0
     have hF : tText (.mk 2 1 s ks xs) = [116, 114, 117, 101] := by rw [tText]; simp
     rw [hF]
     refine walkBF (@cells_mk) ?_
     refine retX Tryz.results104 ?_
     exact .c _
 · subst hk3
   have hF : tText (.mk 3 n s ks xs) = mNumb n := by rw [tText]; simp
   rw [hF]
   have hN := rnumber_told n hn1 hn2
   refine walkBF (@cells_mk) ?_
   refine walkCF (@cells_mk) (hN) ?_
   refine walkBF (@cells_mk) ?_
   refine retX Tryz.results104 ?_
   exact .c _
 · subst hk4
   have hF : tText (.mk 4 n s ks xs) = mQuote s := by rw [tText]; simp
   rw [hF]
   have hN := rquote_told s hsl
   refine walkBF (@cells_mk) ?_
   refine walkCF (@cells_mk) (hN) ?_
   refine walkBF (@cells_mk) ?_
   refine retX Tryz.results104 ?_
   exact .c _
 · subst hk5
   have hF : tText (.mk 5 n s ks xs) = [91] ++ tKids none 0 xs ++ [93] := by rw [tText]; simp
   rw [hF] at hlen ⊢
   obtain ⟨F, hFF⟩ : ∃ F, F = tKids none 0 xs := ⟨_, rfl⟩
   rw [← hFF] at hlen ⊢
   simp only [List.length_append, List.length_cons, List.length_nil] at hlen
   refine walkBF (@cells_mk) ?_
   refine VC.loop (ι := {q : Nat × List UInt8 // q.1 ≤ xs.length ∧ q.2 ++ tKids none q.1 (xs.drop q.1) = F})
    (fun q => [(1, .ref 0 1 0 0), (3, .c (.v (.string ⟨q.1.2.toArray⟩))), (4, .c (.v (.int .i64 (q.1.1 : Int))))]) (fun q => [(0, ⟨false, 36, 5, [(JT.mk 5 n s ks xs).cells.map .c]⟩)]) 400 (fun q => xs.length - q.1.1) ⟨(0, []), Nat.zero_le _, by simp [hFF]⟩ ?_ ?_
   · exact weakZF (@cells_mk)
   rintro ⟨⟨i, S⟩, hi, hS⟩
   simp only [] at hi hS ⊢
   refine walkGF (@cells_mk) ?_
   refine VC.cond (by rfl) (by trivial) (fun hc => ?_) (fun hc => ?_)
   · have hlt : i < xs.length := by simp at hc; omega
     obtain ⟨x, hxi⟩ : ∃ x, xs[i]? = some x := ⟨xs[i], List.getElem?_eq_getElem hlt⟩
     have hxc : (xs.map JT.cells)[i]? = some x.cells := by rw [List.getElem?_map, hxi]; rfl
     have hw : IntKind.i64.wrap ((i : Int) + 1) = (i : Int) + 1 := wrap64_id (by omega) (by omega)
     have hxe : xs[i] = x := by rw [List.getElem?_eq_getElem hlt] at hxi; exact Option.some.inj hxi
     rw [List.drop_eq_getElem_cons hlt, hxe, tKids] at hS
     have hSl := congrArg List.length hS
     simp only [List.length_append] at hSl
     have hX := hx x (List.mem_of_getElem? hxi) (by omega)
     simp only [JT.av] at hX
     by_cases h0 : 0 < i
     · have hd : decide ((i : Int) > 0) = true := by simp; omega
       rw [if_pos h0] at hS hSl
       simp only [List.length_cons, List.length_nil] at hSl
       obtain ⟨S1, hS1⟩ : ∃ S1, S1 = S ++ [44] := ⟨_, rfl⟩
       have hs1 : (⟨S.toArray⟩ : ByteArray) ++ ⟨#[44]⟩ = ⟨S1.toArray⟩ := by rw [hS1]; exact str_add S [44]
       have hl1 : S1.length ≤ S.length + 1 := by rw [hS1]; simp
       have hz0 : (⟨#[44]⟩ : ByteArray).size = 1 := rfl
       have hz1 := bsz' S
       have hs2 : (⟨S1.toArray⟩ : ByteArray) ++ ⟨(tText x).toArray⟩ = ⟨(S1 ++ tText x).toArray⟩ := str_add _ _
       have hz2 := bsz' S1
       have hz3 := bsz' (tText x)
       refine walkBF (And.intro @cells_mk (And.intro hd (And.intro hs1 (And.intro hz0 (And.intro hz1 (And.intro hxc (And.intro @len_cells (And.intro @take_cells @take_cellsC)))))))) ?_
       refine walkCF (And.intro @len_cells (And.intro @take_cells (And.intro @take_cellsC @pureL_c))) (hX) ?_
       refine walkBF (And.intro @str_eq (And.intro hs2 (And.intro hz2 (And.intro hz3 hw)))) ?_
       refine .next ⟨(i + 1, S1 ++ tText x), by simp only []; omega, by simp only []; rw [← hS, hS1]; simp [tkey]⟩ ?_ (by simp only []; omega)
       simp only [cells_mk, Weak, eq_self, used_is, sc_any, sc_c, sc_pp, sc_ref, sc_row, sc_agg, sc_fn, ScL, some_imp, List.forall_mem_map, go_sem, Int.reduceBEq, Int.reduceLE, Int.reduceLT, Int.reduceNeg, Nat.reduceAdd, Nat.reduceEqDiff, Nat.reduceLT, Nat.reduceLeDiff, Nat.reduceMul, Nat.reduceSub, reduceCtorEq, ↓reduceIte]
       try exact cI (by omega)
     · have hd : decide ((i : Int) > 0) = false := by simp; omega
       rw [if_neg h0] at hS hSl
       simp only [List.length_cons, List.length_nil] at hSl
       obtain ⟨S1, hS1⟩ : ∃ S1, S1 = S ++ [] := ⟨_, rfl⟩
       have hs1 : S1 = S := by rw [hS1]; simp
       have hl1 : S1.length ≤ S.length + 1 := by rw [hS1]; simp
       have hz0 : (0 : Nat) = 0 := rfl
       have hz1 := bsz' S
       subst hs1
       have hs1 : (0 : Nat) = 0 := rfl
       have hs2 : (⟨S1.toArray⟩ : ByteArray) ++ ⟨(tText x).toArray⟩ = ⟨(S1 ++ tText x).toArray⟩ := str_add _ _
       have hz2 := bsz' S1
       have hz3 := bsz' (tText x)
       refine walkBF (And.intro @cells_mk (And.intro hd (And.intro hs1 (And.intro hz0 (And.intro hz1 (And.intro hxc (And.intro @len_cells (And.intro @take_cells @take_cellsC)))))))) ?_
       refine walkCF (And.intro @len_cells (And.intro @take_cells (And.intro @take_cellsC @pureL_c))) (hX) ?_
       refine walkBF (And.intro @str_eq (And.intro hs2 (And.intro hz2 (And.intro hz3 hw)))) ?_
       refine .next ⟨(i + 1, S1 ++ tText x), by simp only []; omega, by simp only []; rw [← hS, hS1]; simp [tkey]⟩ ?_ (by simp only []; omega)
       simp only [cells_mk, Weak, eq_self, used_is, sc_any, sc_c, sc_pp, sc_ref, sc_row, sc_agg, sc_fn, ScL, some_imp, List.forall_mem_map, go_sem, Int.reduceBEq, Int.reduceLE, Int.reduceLT, Int.reduceNeg, Nat.reduceAdd, Nat.reduceEqDiff, Nat.reduceLT, Nat.reduceLeDiff, Nat.reduceMul, Nat.reduceSub, reduceCtorEq, ↓reduceIte]
       try exact cI (by omega)
   · have hge : i = xs.length := by simp at hc; omega
     subst hge
     rw [List.drop_length, tKids, List.append_nil] at hS
     subst hS
     have he1 : (⟨#[91]⟩ : ByteArray) ++ ⟨S.toArray⟩ = ⟨([91] ++ S).toArray⟩ := str_add [91] S
     have he2 : (⟨([91] ++ S).toArray⟩ : ByteArray) ++ ⟨#[93]⟩ = ⟨([91] ++ S ++ [93]).toArray⟩ := str_add ([91] ++ S) [93]
     have he3 : (⟨#[91]⟩ : ByteArray).size = 1 := rfl
     have he4 : (⟨#[93]⟩ : ByteArray).size = 1 := rfl
     have he5 := bsz' S
     have he6 : (⟨([91] ++ S).toArray⟩ : ByteArray).size = S.length + 1 := by rw [bsz']; simp
     simp only [List.cons_append, List.nil_append] at he1 he2 he6 ⊢
     refine walkBF (And.intro @cells_mk (And.intro he1 (And.intro he2 (And.intro he3 (And.intro he4 (And.intro he5 he6)))))) ?_
     refine retX Tryz.results104 ?_
     exact .c _
 · subst hk6
   have hF : tText (.mk 6 n s ks xs) = [123] ++ tKids (some ks) 0 xs ++ [125] := by rw [tText]; simp
   rw [hF] at hlen ⊢
   obtain ⟨F, hFF⟩ : ∃ F, F = tKids (some ks) 0 xs := ⟨_, rfl⟩
   rw [← hFF] at hlen ⊢
   simp only [List.length_append, List.length_cons, List.length_nil] at hlen
   refine walkBF (@cells_mk) ?_
   refine VC.loop (ι := {q : Nat × List UInt8 // q.1 ≤ xs.length ∧ q.2 ++ tKids (some ks) q.1 (xs.drop q.1) = F})
    (fun q => [(1, .ref 0 1 0 0), (3, .c (.v (.string ⟨q.1.2.toArray⟩))), (4, .c (.v (.int .i64 (q.1.1 : Int))))]) (fun q => [(0, ⟨false, 36, 5, [(JT.mk 6 n s ks xs).cells.map .c]⟩)]) 400 (fun q => xs.length - q.1.1) ⟨(0, []), Nat.zero_le _, by simp [hFF]⟩ ?_ ?_
   · exact weakZF (@cells_mk)
   rintro ⟨⟨i, S⟩, hi, hS⟩
   simp only [] at hi hS ⊢
   refine walkGF (@cells_mk) ?_
   refine VC.cond (by rfl) (by trivial) (fun hc => ?_) (fun hc => ?_)
   · have hlt : i < xs.length := by simp at hc; omega
     obtain ⟨x, hxi⟩ : ∃ x, xs[i]? = some x := ⟨xs[i], List.getElem?_eq_getElem hlt⟩
     have hxc : (xs.map JT.cells)[i]? = some x.cells := by rw [List.getElem?_map, hxi]; rfl
     have hw : IntKind.i64.wrap ((i : Int) + 1) = (i : Int) + 1 := wrap64_id (by omega) (by omega)
     have hxe : xs[i] = x := by rw [List.getElem?_eq_getElem hlt] at hxi; exact Option.some.inj hxi
     rw [List.drop_eq_getElem_cons hlt, hxe, tKids] at hS
     have hSl := congrArg List.length hS
     simp only [List.length_append] at hSl
     have hX := hx x (List.mem_of_getElem? hxi) (by omega)
     simp only [JT.av] at hX
     have hil : i < ks.length := by have := hky rfl; omega
     obtain ⟨ke, hke⟩ : ∃ ke, ks[i]? = some ke := ⟨ks[i], List.getElem?_eq_getElem hil⟩
     have hkc : (ks.map sPV)[i]? = some [.v (.string (str ke))] := by rw [List.getElem?_map, hke]; rfl
     have hKq := rquote_told ke (hks ke (List.mem_of_getElem? hke))
     have htk : tkey (some ks) i = mQuote ke ++ [58] := by simp [tkey, hke]
     rw [htk] at hS hSl
     simp only [List.length_append] at hSl
     by_cases h0 : 0 < i
     · have hd : decide ((i : Int) > 0) = true := by simp; omega
       rw [if_pos h0] at hS hSl
       simp only [List.length_cons, List.length_nil] at hSl
       obtain ⟨S1, hS1⟩ : ∃ S1, S1 = S ++ [44] := ⟨_, rfl⟩
       have hs1 : (⟨S.toArray⟩ : ByteArray) ++ ⟨#[44]⟩ = ⟨S1.toArray⟩ := by rw [hS1]; exact str_add S [44]
       have hl1 : S1.length ≤ S.length + 1 := by rw [hS1]; simp
       have hz0 : (⟨#[44]⟩ : ByteArray).size = 1 := rfl
       have hz1 := bsz' S
       have hs3 : (⟨S1.toArray⟩ : ByteArray) ++ ⟨(mQuote ke).toArray⟩ = ⟨(S1 ++ mQuote ke).toArray⟩ := str_add _ _
       have hs4 : (⟨(S1 ++ mQuote ke).toArray⟩ : ByteArray) ++ ⟨#[58]⟩ = ⟨(S1 ++ mQuote ke ++ [58]).toArray⟩ := str_add _ [58]
       obtain ⟨S2, hS2⟩ : ∃ S2, S2 = S1 ++ mQuote ke ++ [58] := ⟨_, rfl⟩
       rw [← hS2] at hs4
       have hl2 : S2.length = S1.length + (mQuote ke).length + 1 := by rw [hS2]; simp; omega
       have hs2 : (⟨S2.toArray⟩ : ByteArray) ++ ⟨(tText x).toArray⟩ = ⟨(S2 ++ tText x).toArray⟩ := str_add _ _
       have hz2 := bsz' S1
       have hz3 := bsz' (tText x)
       have hz4 := bsz' (mQuote ke)
       have hz5 : (⟨(S1 ++ mQuote ke).toArray⟩ : ByteArray).size = S1.length + (mQuote ke).length := by rw [bsz']; simp
       have hz6 := bsz' S2
       have hz7 : (⟨#[58]⟩ : ByteArray).size = 1 := rfl
       refine walkBF (And.intro @cells_mk (And.intro hd (And.intro hs1 (And.intro hz0 (And.intro hz1 (And.intro hkc (And.intro hxc (And.intro @len_cells (And.intro @take_cells @take_cellsC))))))))) ?_
       refine walkC (hKq) ?_
       refine walkBF (And.intro @str_eq (And.intro @cells_mk (And.intro hs3 (And.intro hs4 (And.intro hz2 (And.intro hz4 (And.intro hz5 (And.intro hz7 (And.intro hxc (And.intro @len_cells (And.intro @take_cells @take_cellsC))))))))))) ?_
       refine walkCF (And.intro @len_cells (And.intro @take_cells (And.intro @take_cellsC @pureL_c))) (hX) ?_
       refine walkBF (And.intro @str_eq (And.intro hs2 (And.intro hz6 (And.intro hz3 hw)))) ?_
       refine .next ⟨(i + 1, S2 ++ tText x), by simp only []; omega, by simp only []; rw [← hS, hS2, hS1]; simp⟩ ?_ (by simp only []; omega)
       simp only [cells_mk, Weak, eq_self, used_is, sc_any, sc_c, sc_pp, sc_ref, sc_row, sc_agg, sc_fn, ScL, some_imp, List.forall_mem_map, go_sem, Int.reduceBEq, Int.reduceLE, Int.reduceLT, Int.reduceNeg, Nat.reduceAdd, Nat.reduceEqDiff, Nat.reduceLT, Nat.reduceLeDiff, Nat.reduceMul, Nat.reduceSub, reduceCtorEq, ↓reduceIte]
       try exact cI (by omega)
     · have hd : decide ((i : Int) > 0) = false := by simp; omega
       rw [if_neg h0] at hS hSl
       simp only [List.length_cons, List.length_nil] at hSl
       obtain ⟨S1, hS1⟩ : ∃ S1, S1 = S ++ [] := ⟨_, rfl⟩
       have hs1 : S1 = S := by rw [hS1]; simp
       have hl1 : S1.length ≤ S.length + 1 := by rw [hS1]; simp
       have hz0 : (0 : Nat) = 0 := rfl
       have hz1 := bsz' S
       subst hs1
       have hs1 : (0 : Nat) = 0 := rfl
       have hs3 : (⟨S1.toArray⟩ : ByteArray) ++ ⟨(mQuote ke).toArray⟩ = ⟨(S1 ++ mQuote ke).toArray⟩ := str_add _ _
       have hs4 : (⟨(S1 ++ mQuote ke).toArray⟩ : ByteArray) ++ ⟨#[58]⟩ = ⟨(S1 ++ mQuote ke ++ [58]).toArray⟩ := str_add _ [58]
       obtain ⟨S2, hS2⟩ : ∃ S2, S2 = S1 ++ mQuote ke ++ [58] := ⟨_, rfl⟩
       rw [← hS2] at hs4
       have hl2 : S2.length = S1.length + (mQuote ke).length + 1 := by rw [hS2]; simp; omega
       have hs2 : (⟨S2.toArray⟩ : ByteArray) ++ ⟨(tText x).toArray⟩ = ⟨(S2 ++ tText x).toArray⟩ := str_add _ _
       have hz2 := bsz' S1
       have hz3 := bsz' (tText x)
       have hz4 := bsz' (mQuote ke)
       have hz5 : (⟨(S1 ++ mQuote ke).toArray⟩ : ByteArray).size = S1.length + (mQuote ke).length := by rw [bsz']; simp
       have hz6 := bsz' S2
       have hz7 : (⟨#[58]⟩ : ByteArray).size = 1 := rfl
       refine walkBF (And.intro @cells_mk (And.intro hd (And.intro hs1 (And.intro hz0 (And.intro hz1 (And.intro hkc (And.intro hxc (And.intro @len_cells (And.intro @take_cells @take_cellsC))))))))) ?_
       refine walkC (hKq) ?_
       refine walkBF (And.intro @str_eq (And.intro @cells_mk (And.intro hs3 (And.intro hs4 (And.intro hz2 (And.intro hz4 (And.intro hz5 (And.intro hz7 (And.intro hxc (And.intro @len_cells (And.intro @take_cells @take_cellsC))))))))))) ?_
       refine walkCF (And.intro @len_cells (And.intro @take_cells (And.intro @take_cellsC @pureL_c))) (hX) ?_
       refine walkBF (And.intro @str_eq (And.intro hs2 (And.intro hz6 (And.intro hz3 hw)))) ?_
       refine .next ⟨(i + 1, S2 ++ tText x), by simp only []; omega, by simp only []; rw [← hS, hS2, hS1]; simp⟩ ?_ (by simp only []; omega)
       simp only [cells_mk, Weak, eq_self, used_is, sc_any, sc_c, sc_pp, sc_ref, sc_row, sc_agg, sc_fn, ScL, some_imp, List.forall_mem_map, go_sem, Int.reduceBEq, Int.reduceLE, Int.reduceLT, Int.reduceNeg, Nat.reduceAdd, Nat.reduceEqDiff, Nat.reduceLT, Nat.reduceLeDiff, Nat.reduceMul, Nat.reduceSub, reduceCtorEq, ↓reduceIte]
       try exact cI (by omega)
   · have hge : i = xs.length := by simp at hc; omega
     subst hge
     rw [List.drop_length, tKids, List.append_nil] at hS
     subst hS
     have he1 : (⟨#[123]⟩ : ByteArray) ++ ⟨S.toArray⟩ = ⟨([123] ++ S).toArray⟩ := str_add [123] S
     have he2 : (⟨([123] ++ S).toArray⟩ : ByteArray) ++ ⟨#[125]⟩ = ⟨([123] ++ S ++ [125]).toArray⟩ := str_add ([123] ++ S) [125]
     have he3 : (⟨#[123]⟩ : ByteArray).size = 1 := rfl
     have he4 : (⟨#[125]⟩ : ByteArray).size = 1 := rfl
     have he5 := bsz' S
     have he6 : (⟨([123] ++ S).toArray⟩ : ByteArray).size = S.length + 1 := by rw [bsz']; simp
     simp only [List.cons_append, List.nil_append] at he1 he2 he6 ⊢
     refine walkBF (And.intro @cells_mk (And.intro he1 (And.intro he2 (And.intro he3 (And.intro he4 (And.intro he5 he6)))))) ?_
     refine retX Tryz.results104 ?_
     exact .c _

theorem rprint_told (t : JT) (h1 : t.sm 1000000) (h2 : tdeep t ≤ 1000) (hi : t.inr) (hl : (tText t).length ≤ 1000000000000000000) : Told Tryz.prog 57 [t.av] (.tup [.c (.v (.string (str (mPrint t).1))), .c (.v (.int .i64 (mPrint t).2))]) := by
 have hR := rright_told t h1 h2
 have hT := fun (h : jR t = true) => rtxt_told _ t (Nat.le_refl _) (sm_le (by omega) t h1) hi 0 (by rw [← h]; rfl) hl
 have hM := print_text t
 obtain ⟨M, hMM⟩ : ∃ M, M = mPrint t := ⟨_, rfl⟩
 rw [← hMM] at hM ⊢
 refine VC.told ent_57 Tryz.func57 rfl Tryz.ntmps57 (by simp) (by simp [AV.pureB, AV.pureL, JT.av, pureL_c]) (by simp [AV.pureB, AV.pureL]) fun hb => ?_
 clear hb
 refine walkGF (And.intro @JT.av_eq (And.intro @len_cells (And.intro @take_cells @take_cellsC))) ?_
 refine walkCF (And.intro @JT.av_eq (And.intro @len_cells (And.intro @take_cells (And.intro @take_cellsC @pureL_c)))) (hR) ?_
 refine walkGF (And.intro @JT.av_eq (And.intro @len_cells (And.intro @take_cells @take_cellsC))) ?_
 refine VC.cond (by rfl) (by trivial) (fun hc => ?_) (fun hc => ?_)
 · have hr : jR t = false := by simpa using hc
   rw [hr] at hM
   rw [hM]
   refine walkG ?_
   refine retX Tryz.results57 ?_
   exact ⟨.c _, .c _⟩
 have hr : jR t = true := by simpa using hc
 have hT := hT hr
 rw [if_pos hr] at hM
 have hz : (str (tText t)).size = (tText t).length := str_size _
 refine walkGF (And.intro @JT.av_eq (And.intro @len_cells (And.intro @take_cells @take_cellsC))) ?_
 refine walkCF (And.intro @JT.av_eq (And.intro @len_cells (And.intro @take_cells (And.intro @take_cellsC @pureL_c)))) (hT) ?_
 refine walkGF (hz) ?_
 refine VC.cond (by rfl) (by trivial) (fun hc2 => ?_) (fun hc2 => ?_)
 · rw [if_neg (by simp at hc2; omega)] at hM
   rw [hM]
   refine walkG ?_
   refine retX Tryz.results57 ?_
   exact ⟨.c _, .c _⟩
 · rw [if_pos (by simp at hc2; omega)] at hM
   rw [hM]
   refine walkG ?_
   refine retX Tryz.results57 ?_
   exact ⟨.c _, .c _⟩

noncomputable def ceq {α : Type} (a b : α) : Bool := @decide (a = b) (Classical.propDecidable _)
theorem ceq_iff {α : Type} (a b : α) : ceq a b = true ↔ a = b := by simp [ceq]
theorem ceq_false {α : Type} (a b : α) : ceq a b = false ↔ a ≠ b := by simp [ceq]
theorem ceq_self {α : Type} (a : α) : ceq a a = true := (ceq_iff a a).2 rfl

theorem ceq_field (a b : FT) : ceq a b = ((((a.name == b.name) && (a.aliases == b.aliases)) && (a.type == b.type)) && (a.has == b.has) && jeq a.dflt b.dflt) := by
 rw [Bool.eq_iff_iff]
 simp only [ceq_iff, Bool.and_eq_true, beq_iff_eq, jeq_iff]
 constructor
 · rintro rfl
   exact ⟨⟨⟨⟨rfl, rfl⟩, rfl⟩, rfl⟩, rfl⟩
 · rintro ⟨⟨⟨⟨h1, h2⟩, h3⟩, h4⟩, h5⟩
   cases a
   cases b
   simp_all
theorem ceq_node (a b : NT) : ceq a b = ((((((((((a.kind == b.kind) && (a.name == b.name)) && (a.aliases == b.aliases)) && ceq a.fields b.fields) && (a.symbols == b.symbols)) && (a.has == b.has)) && (a.dflt == b.dflt)) && (a.size == b.size)) && (a.items == b.items)) && (a.branches == b.branches)) := by
 rw [Bool.eq_iff_iff]
 simp only [ceq_iff, Bool.and_eq_true, beq_iff_eq]
 constructor
 · rintro rfl
   simp
 · rintro ⟨⟨⟨⟨⟨⟨⟨⟨⟨h1, h2⟩, h3⟩, h4⟩, h5⟩, h6⟩, h7⟩, h8⟩, h9⟩, h10⟩
   cases a
   cases b
   simp_all

theorem rsame_told : ∀ (m : Nat) (a b : JT), SizeOf.sizeOf a ≤ m → Told Tryz.prog 24 [a.av, b.av] (.c (.v (.bool (jeq a b)))) := by
 intro m
 induction m with
 | zero => intro a b ha; cases a; simp at ha
 | succ m ih =>
 intro a b ha
 cases a with
 | mk k n s ks xs =>
 cases b with
 | mk k' n' s' ks' xs' =>
 refine VC.told ent_24 Tryz.func24 rfl Tryz.ntmps24 (by simp) rfl rfl fun hb => ?_
 simp only [JT.av, cells_mk, List.map_cons, List.map_nil, abd_agg, abd_c, pbd_v, pbd_sl, List.mem_cons, List.not_mem_nil, or_false, forall_eq_or_imp, forall_eq, true_and, List.length_map] at hb ⊢
 have hx1 := hb.1.1.1
 have hk1 := hb.1.2.1
 clear hb
 refine walkGF (@str_toList) ?_
 refine VC.cond (by rfl) (by trivial) (fun hc => ?_) (fun hc => ?_)
 · have hne : jeq (.mk k n s ks xs) (.mk k' n' s' ks' xs') = false := by
    rw [jeq_false]
    intro e
    injection e with e1 e2 e3 e4 e5
    subst e1 e2 e3 e4 e5
    simp at hc
   refine walkG ?_
   refine ⟨.inr rfl, ?_⟩
   rw [Tryz.results24, hne]
   simp only [resOk, resV, go_sem, simprocAttr]
   exact .c _
 · simp only [Bool.or_eq_false_iff, bne_eq_false_iff_eq, Bool.not_eq_false', beq_iff_eq] at hc
   obtain ⟨⟨⟨⟨rfl, rfl⟩, rfl⟩, hkl⟩, hxl⟩ := hc
   have hkl : ks.length = ks'.length := by omega
   have hxl : xs.length = xs'.length := by omega
   refine walkG ?_
   refine VC.loop (ι := {i : Nat // i ≤ ks.length ∧ ks.take i = ks'.take i}) (fun i => [(2, .ref 0 1 0 0), (3, .ref 8 1 0 0), (5, .c (.v (.int .i64 i.1)))])
    (fun _ => [(0, ⟨false, 36, 5, [(JT.mk k n s ks xs).cells.map .c]⟩), (8, ⟨false, 36, 5, [(JT.mk k n s ks' xs').cells.map .c]⟩)]) 16 (fun i => ks.length - i.1) ⟨0, Nat.zero_le _, rfl⟩ ?_ ?_
   · simp only [cells_mk, Weak, eq_self, used_is, sc_any, sc_c, sc_pp, sc_ref, sc_row, sc_agg, sc_fn, ScL, some_imp, List.forall_mem_map, go_sem, Int.reduceBEq, Int.reduceLE, Int.reduceLT, Int.reduceNeg, Nat.reduceAdd, Nat.reduceEqDiff, Nat.reduceLT, Nat.reduceLeDiff, Nat.reduceMul, Nat.reduceSub, reduceCtorEq, ↓reduceIte]
     all_goals rfl
   rintro ⟨i, hi, ht⟩
   refine walkGF (@cells_mk) ?_
   refine VC.cond (by rfl) (by trivial) (fun hc => ?_) (fun hc => ?_)
   · simp only [decide_eq_true_eq] at hc
     obtain ⟨x, hx⟩ : ∃ x, ks[i]? = some x := ⟨ks[i], List.getElem?_eq_getElem (by omega)⟩
     obtain ⟨y, hy⟩ : ∃ y, ks'[i]? = some y := ⟨ks'[i], List.getElem?_eq_getElem (by omega)⟩
     have hw : IntKind.i64.wrap ((i : Int) + 1) = (i : Int) + 1 := wrap64_id (by omega) (by omega)
     have htn := taken_next hx hy ht
     (repeat (first | refine pass ?_ | refine VC.region (by rfl) (by rfl) ?_ | (refine AO.step fun K hK => ?_; simp only [cells_mk, List.getElem?_map, hx, hy, sPV, str_toList, go_sem, Int.reduceBEq, Int.reduceLE, Int.reduceLT, Int.reduceNeg, Nat.reduceAdd, Nat.reduceEqDiff, Nat.reduceLT, Nat.reduceLeDiff, Nat.reduceMul, Nat.reduceSub, reduceCtorEq, ↓reduceIte]; (first | refine gsel_skip ?_ | refine gsel_go ?_ | skip); (first | refine hK _ _ _ ?_ | refine ⟨by first | omega | exact ⟨_, rfl, rfl⟩ | exact fun _ => ⟨_, rfl, rfl⟩ | (intro h; simp only [cells_mk, List.getElem?_map, hx, hy, sPV, str_toList, h, true_and]; omega) | (clear hK; intro h; simp_all <;> omega), hK _ _ _ ?_⟩); clear hK K) | refine VC.draw mixP (by rfl) (by rfl) ?_ | refine ⟨okd_of (by kernel_rfl), ?_⟩ | refine BQ.other (by decide) ?_ | refine VC.seq ?_ | refine AO.nil ?_ | refine VC.block ?_))
     refine VC.cond (by rfl) (by trivial) (fun hc2 => ?_) (fun hc2 => ?_)
     · have hne : jeq (.mk k n s ks xs) (.mk k n s ks' xs') = false := by
        rw [jeq_false]
        intro e
        injection e with e1 e2 e3 e4 e5
        subst e4
        rw [hx] at hy
        obtain rfl := Option.some.inj hy
        simp at hc2
       refine walkG ?_
       refine ⟨.inr rfl, ?_⟩
       rw [Tryz.results24, hne]
       simp only [resOk, resV, go_sem, simprocAttr]
       exact .c _
     · have hxy : x = y := by simpa using hc2
       refine walkGF (hw) ?_
       refine .next ⟨i + 1, by omega, htn.2 hxy⟩ ?_ (by simp only []; omega)
       refine weakXF (@cells_mk) ?_
       exact cI (by omega)
   · simp only [decide_eq_false_iff_not] at hc
     obtain rfl : i = ks.length := by omega
     have hke : ks = ks' := by
      rw [List.take_length, hkl, List.take_length] at ht
      exact ht
     subst hke
     refine walkG ?_
     refine VC.loop (ι := {i : Nat // i ≤ xs.length ∧ xs.take i = xs'.take i}) (fun i => [(2, .ref 0 1 0 0), (3, .ref 8 1 0 0), (6, .c (.v (.int .i64 i.1)))])
      (fun _ => [(0, ⟨false, 36, 5, [(JT.mk k n s ks xs).cells.map .c]⟩), (8, ⟨false, 36, 5, [(JT.mk k n s ks xs').cells.map .c]⟩)]) 16 (fun i => xs.length - i.1) ⟨0, Nat.zero_le _, rfl⟩ ?_ ?_
     · simp only [cells_mk, Weak, eq_self, used_is, sc_any, sc_c, sc_pp, sc_ref, sc_row, sc_agg, sc_fn, ScL, some_imp, List.forall_mem_map, go_sem, Int.reduceBEq, Int.reduceLE, Int.reduceLT, Int.reduceNeg, Nat.reduceAdd, Nat.reduceEqDiff, Nat.reduceLT, Nat.reduceLeDiff, Nat.reduceMul, Nat.reduceSub, reduceCtorEq, ↓reduceIte]
       all_goals rfl
     rintro ⟨i, hi, ht⟩
     refine walkGF (@cells_mk) ?_
     refine VC.cond (by rfl) (by trivial) (fun hc => ?_) (fun hc => ?_)
     · simp only [decide_eq_true_eq] at hc
       obtain ⟨x, hx⟩ : ∃ x, xs[i]? = some x := ⟨xs[i], List.getElem?_eq_getElem (by omega)⟩
       obtain ⟨y, hy⟩ : ∃ y, xs'[i]? = some y := ⟨xs'[i], List.getElem?_eq_getElem (by omega)⟩
       have hw : IntKind.i64.wrap ((i : Int) + 1) = (i : Int) + 1 := wrap64_id (by omega) (by omega)
       have hcl := ih x y (by
        have h1 := List.sizeOf_lt_of_mem (List.mem_of_getElem? hx)
        simp at ha
        omega)
       (repeat (first | refine pass ?_ | refine VC.region (by rfl) (by rfl) ?_ | (refine AO.step fun K hK => ?_; simp only [cells_mk, List.getElem?_map, hx, hy, len_cells, take_cells, take_cellsC, go_sem, Int.reduceBEq, Int.reduceLE, Int.reduceLT, Int.reduceNeg, Nat.reduceAdd, Nat.reduceEqDiff, Nat.reduceLT, Nat.reduceLeDiff, Nat.reduceMul, Nat.reduceSub, reduceCtorEq, ↓reduceIte]; (first | refine gsel_skip ?_ | refine gsel_go ?_ | skip); (first | refine hK _ _ _ ?_ | refine ⟨by first | omega | exact ⟨_, rfl, rfl⟩ | exact fun _ => ⟨_, rfl, rfl⟩ | (intro h; simp only [cells_mk, List.getElem?_map, hx, hy, len_cells, take_cells, take_cellsC, h, true_and]; omega) | (clear hK; intro h; simp_all <;> omega), hK _ _ _ ?_⟩); clear hK K) | refine VC.draw mixP (by rfl) (by rfl) ?_ | refine ⟨okd_of (by kernel_rfl), ?_⟩ | refine BQ.other (by decide) ?_ | refine VC.seq ?_ | refine AO.nil ?_ | refine VC.block ?_))
       (refine AO.step fun K hK => ?_; simp only [go_sem, Int.reduceBEq, Int.reduceLE, Int.reduceLT, Int.reduceNeg, Nat.reduceAdd, Nat.reduceEqDiff, Nat.reduceLT, Nat.reduceLeDiff, Nat.reduceMul, Nat.reduceSub, reduceCtorEq, ↓reduceIte, pureL_c]; (first | refine gsel_go ?_ | skip))
       refine .inl ⟨_, hcl, hK _ _ _ ?_⟩
       clear hK K
       refine walkG ?_
       refine VC.cond (by rfl) (by trivial) (fun hc2 => ?_) (fun hc2 => ?_)
       · have hne : jeq (.mk k n s ks xs) (.mk k n s ks xs') = false := by
          rw [jeq_false]
          intro e
          injection e with e1 e2 e3 e4 e5
          subst e5
          rw [hx] at hy
          obtain rfl := Option.some.inj hy
          rw [jeq_self] at hc2
          simp at hc2
         refine walkG ?_
         refine ⟨.inr rfl, ?_⟩
         rw [Tryz.results24, hne]
         simp only [resOk, resV, go_sem, simprocAttr]
         exact .c _
       · have hxy : x = y := by
          rw [← jeq_iff]
          simpa using hc2
         refine walkGF (hw) ?_
         refine .next ⟨i + 1, by omega, ?_⟩ ?_ (by simp only []; omega)
         · rw [List.take_add_one, List.take_add_one, hx, hy, ht, hxy]
         refine weakXF (@cells_mk) ?_
         exact cI (by omega)
     · simp only [decide_eq_false_iff_not] at hc
       obtain rfl : i = xs.length := by omega
       have heq : xs = xs' := by
        rw [List.take_length, hxl, List.take_length] at ht
        exact ht
       subst heq
       refine walkG ?_
       refine ⟨.inr rfl, ?_⟩
       rw [Tryz.results24, jeq_self]
       simp only [resOk, resV, go_sem, simprocAttr]
       exact .c _

theorem take_nexty {α : Type} {ks ls : List α} {i : Nat} {x y : α} (hx : ks[i]? = some x) (hy : ls[i]? = some y) (h : ks.take i = ls.take i) (e : x = y) : ks.take (i + 1) = ls.take (i + 1) := by
 rw [List.take_add_one, List.take_add_one, hx, hy, h, e]
theorem ne_at {α : Type} {ks ls : List α} {i : Nat} {x y : α} (hx : ks[i]? = some x) (hy : ls[i]? = some y) (h : x ≠ y) : ks ≠ ls := by
 rintro rfl
 rw [hx] at hy
 exact h (Option.some.inj hy)
theorem take_end {α : Type} {ks ls : List α} {i : Nat} (h : ks.take i = ls.take i) (h1 : i = ks.length) (h2 : ks.length = ls.length) : ks = ls := by
 rw [h1, List.take_length, h2, List.take_length] at h
 exact h
theorem rtexts_told (ks ls : List (List UInt8)) : Told Tryz.prog 50 [.c (.sl 1 (ks.map sPV)), .c (.sl 1 (ls.map sPV))] (.c (.v (.bool (ks == ls)))) := by
 obtain ⟨V, hV⟩ : ∃ V, V = (ks == ls) := ⟨_, rfl⟩
 rw [← hV]
 refine VC.toldP ent_50 Tryz.func50 rfl Tryz.ntmps50 fun hb => ?_
 simp only [abd_c, pbd_sl, List.mem_cons, List.not_mem_nil, or_false, forall_eq_or_imp, forall_eq, true_and, List.length_map] at hb
 have hkb := hb.1.1
 clear hb
 refine walkG ?_
 refine VC.cond (by rfl) (by trivial) (fun hc => ?_) (fun hc => ?_)
 · have hf : V = false := by
    rw [hV, beq_eq_false_iff_ne]
    rintro rfl
    simp at hc
   subst hf
   refine walkG ?_
   refine retX Tryz.results50 ?_
   exact .c _
 have hll : ks.length = ls.length := by simp at hc; omega
 refine walkG ?_
 refine VC.loop (ι := {i : Nat // i ≤ ks.length ∧ ks.take i = ls.take i}) (fun q => [(0, .c (.sl 1 (ks.map sPV))), (1, .c (.sl 1 (ls.map sPV))), (5, .c (.v (.int .i64 (q.1 : Int))))]) (fun _ => []) 800 (fun q => ks.length - q.1) ⟨0, Nat.zero_le _, rfl⟩ ?_ ?_
 · exact weakZ
 rintro ⟨i, hi, ht⟩
 simp only []
 refine walkG ?_
 refine VC.cond (by rfl) (by trivial) (fun hc2 => ?_) (fun hc2 => ?_)
 · have hlt : i < ks.length := by simp at hc2; omega
   obtain ⟨x, hx⟩ : ∃ x, ks[i]? = some x := ⟨ks[i], List.getElem?_eq_getElem hlt⟩
   obtain ⟨y, hy⟩ : ∃ y, ls[i]? = some y := ⟨ls[i]'(by omega), List.getElem?_eq_getElem (by omega)⟩
   have hw : IntKind.i64.wrap ((i : Int) + 1) = (i : Int) + 1 := wrap64_id (by omega) (by omega)
   have hxp : (ks.map sPV)[i]? = some (sPV x) := by rw [List.getElem?_map, hx]; rfl
   have hyp : (ls.map sPV)[i]? = some (sPV y) := by rw [List.getElem?_map, hy]; rfl
   refine walkGF (And.intro hxp (And.intro hyp (And.intro @sPV_eq @str_toList))) ?_
   refine VC.cond (by rfl) (by trivial) (fun hc3 => ?_) (fun hc3 => ?_)
   · have hf : V = false := by
      rw [hV, beq_eq_false_iff_ne]
      exact ne_at hx hy (by simpa using hc3)
     subst hf
     refine walkG ?_
     refine retX Tryz.results50 ?_
     exact .c _
   · have hxy : x = y := by simpa using hc3
     refine walkGF (hw) ?_
     refine .next ⟨i + 1, by omega, take_nexty hx hy ht hxy⟩ ?_ (by simp only []; omega)
     simp only [Weak, eq_self, used_is, sc_any, sc_c, sc_pp, sc_ref, sc_row, sc_agg, sc_fn, ScL, some_imp, List.forall_mem_map, go_sem, Int.reduceBEq, Int.reduceLE, Int.reduceLT, Int.reduceNeg, Nat.reduceAdd, Nat.reduceEqDiff, Nat.reduceLT, Nat.reduceLeDiff, Nat.reduceMul, Nat.reduceSub, reduceCtorEq, ↓reduceIte]
     try exact cI (by omega)
 · have hie : i = ks.length := by simp at hc2; omega
   have hf : V = true := by
    rw [hV, beq_iff_eq]
    exact take_end ht hie hll
   subst hf
   refine walkG ?_
   refine retX Tryz.results50 ?_
   exact .c _
theorem rsimples_told (l : List (List UInt8)) (hl : l.length ≤ 1000000000) (hs : ∀ x ∈ l, x.length ≤ 1000000000) : Told Tryz.prog 147 [.c (.sl 1 (l.map sPV))] (.c (.v (.bool (allM simpleM l)))) := by
 obtain ⟨V, hV⟩ : ∃ V, V = allM simpleM l := ⟨_, rfl⟩
 rw [← hV]
 unfold allM at hV
 refine VC.toldP ent_147 Tryz.func147 rfl Tryz.ntmps147 fun hb => ?_
 clear hb
 refine walkG ?_
 refine VC.loop (ι := {i : Nat // i ≤ l.length ∧ ∀ (j : Nat) (x : List UInt8), j < i → l[j]? = some x → simpleM x = true}) (fun q => [(0, .c (.sl 1 (l.map sPV))), (3, .c (.v (.int .i64 (q.1 : Int))))]) (fun _ => []) 800 (fun q => l.length - q.1) ⟨0, Nat.zero_le _, fun j x h => by omega⟩ ?_ ?_
 · exact weakZ
 rintro ⟨i, hi, ht⟩
 simp only []
 refine walkG ?_
 refine VC.cond (by rfl) (by trivial) (fun hc => ?_) (fun hc => ?_)
 · have hlt : i < l.length := by simp at hc; omega
   obtain ⟨x, hx⟩ : ∃ x, l[i]? = some x := ⟨l[i], List.getElem?_eq_getElem hlt⟩
   have hw : IntKind.i64.wrap ((i : Int) + 1) = (i : Int) + 1 := wrap64_id (by omega) (by omega)
   have hxp : (l.map sPV)[i]? = some (sPV x) := by rw [List.getElem?_map, hx]; rfl
   have hS := rsimple_told x (hs x (List.mem_of_getElem? hx))
   refine walkGF (And.intro hxp @sPV_eq) ?_
   refine walkC (hS) ?_
   refine walkG ?_
   refine VC.cond (by rfl) (by trivial) (fun hc2 => ?_) (fun hc2 => ?_)
   · have hf : V = false := by
      have : l.all simpleM = false := by
       rw [List.all_eq_false]
       exact ⟨x, List.mem_of_getElem? hx, by simpa using hc2⟩
      rw [hV, this]
      simp
     subst hf
     refine walkG ?_
     refine retX Tryz.results147 ?_
     exact .c _
   · have hsx : simpleM x = true := by simpa using hc2
     refine walkGF (hw) ?_
     refine .next ⟨i + 1, by omega, ?_⟩ ?_ (by simp only []; omega)
     · intro j y hj hy
       by_cases hji : j < i
       · exact ht j y hji hy
       · obtain rfl : j = i := by omega
         rw [hx] at hy
         obtain rfl := Option.some.inj hy
         exact hsx
     simp only [Weak, eq_self, used_is, sc_any, sc_c, sc_pp, sc_ref, sc_row, sc_agg, sc_fn, ScL, some_imp, List.forall_mem_map, go_sem, Int.reduceBEq, Int.reduceLE, Int.reduceLT, Int.reduceNeg, Nat.reduceAdd, Nat.reduceEqDiff, Nat.reduceLT, Nat.reduceLeDiff, Nat.reduceMul, Nat.reduceSub, reduceCtorEq, ↓reduceIte]
     try exact cI (by omega)
 · have hie : i = l.length := by simp at hc; omega
   have hf : V = decide ((l.length : Int) ≤ 40) := by
    have : l.all simpleM = true := by
     rw [List.all_eq_true]
     intro y hy
     obtain ⟨j, hj⟩ := List.getElem?_of_mem hy
     exact ht j y (by have := (List.getElem?_eq_some_iff.1 hj).1; omega) hj
    rw [hV, this, Bool.and_true]
    exact decide_eq_decide.2 (by omega)
   rw [hf]
   refine walkG ?_
   refine retX Tryz.results147 ?_
   exact .c _
theorem nodup_take {l : List (List UInt8)} {i : Nat} {x : List UInt8} (hx : l[i]? = some x) (h : (l.take i).Nodup) (hn : ∀ (k : Nat) (y : List UInt8), k < i → l[k]? = some y → y ≠ x) : (l.take (i + 1)).Nodup := by
 rw [List.take_add_one, hx]
 simp only [Option.toList_some]
 rw [List.nodup_append]
 refine ⟨h, by simp, fun a ha b hb => ?_⟩
 obtain rfl := List.mem_singleton.1 hb
 obtain ⟨k, hk⟩ := List.getElem?_of_mem ha
 rw [List.getElem?_take] at hk
 split at hk
 · rename_i hki
   exact hn k a hki hk
 · simp at hk
theorem nodup_ne {l : List (List UInt8)} (h : l.Nodup) {i k : Nat} {x y : List UInt8} (hx : l[i]? = some x) (hy : l[k]? = some y) (hk : k < i) : y ≠ x := by
 obtain ⟨h1, rfl⟩ := List.getElem?_eq_some_iff.1 hx
 obtain ⟨h2, rfl⟩ := List.getElem?_eq_some_iff.1 hy
 intro e
 exact List.pairwise_iff_getElem.1 h k i h2 h1 hk e
theorem ronce_told (l : List (List UInt8)) (hl : l.length ≤ 1000000000) : Told Tryz.prog 92 [.c (.sl 1 (l.map sPV))] (.c (.v (.bool (decide l.Nodup)))) := by
 obtain ⟨V, hV⟩ : ∃ V, V = decide l.Nodup := ⟨_, rfl⟩
 rw [← hV]
 refine VC.toldP ent_92 Tryz.func92 rfl Tryz.ntmps92 fun hb => ?_
 clear hb
 refine walkG ?_
 refine VC.loop (ι := {i : Nat // i ≤ l.length ∧ (l.take i).Nodup}) (fun q => [(0, .c (.sl 1 (l.map sPV))), (3, .c (.v (.int .i64 (q.1 : Int))))]) (fun _ => []) 800 (fun q => l.length - q.1) ⟨0, Nat.zero_le _, by simp⟩ ?_ ?_
 · exact weakZ
 rintro ⟨i, hi, ht⟩
 simp only []
 refine walkG ?_
 refine VC.cond (by rfl) (by trivial) (fun hc => ?_) (fun hc => ?_)
 · have hlt : i < l.length := by simp at hc; omega
   obtain ⟨x, hx⟩ : ∃ x, l[i]? = some x := ⟨l[i], List.getElem?_eq_getElem hlt⟩
   have hw : IntKind.i64.wrap ((i : Int) + 1) = (i : Int) + 1 := wrap64_id (by omega) (by omega)
   have hxp : (l.map sPV)[i]? = some (sPV x) := by rw [List.getElem?_map, hx]; rfl
   refine walkG ?_
   refine VC.loop (ι := {k : Nat // k ≤ i ∧ ∀ (j : Nat) (y : List UInt8), j < k → l[j]? = some y → y ≠ x}) (fun q => [(0, .c (.sl 1 (l.map sPV))), (3, .c (.v (.int .i64 (i : Int)))), (4, .c (.v (.int .i64 (q.1 : Int))))]) (fun _ => []) 800 (fun q => i - q.1) ⟨0, Nat.zero_le _, fun j y h => by omega⟩ ?_ ?_
   · exact weakZ
   rintro ⟨k, hk, hn⟩
   simp only []
   refine walkG ?_
   refine VC.cond (by rfl) (by trivial) (fun hc2 => ?_) (fun hc2 => ?_)
   · have hki : k < i := by simp at hc2; omega
     obtain ⟨y, hy⟩ : ∃ y, l[k]? = some y := ⟨l[k]'(by omega), List.getElem?_eq_getElem (by omega)⟩
     have hwk : IntKind.i64.wrap ((k : Int) + 1) = (k : Int) + 1 := wrap64_id (by omega) (by omega)
     have hyp : (l.map sPV)[k]? = some (sPV y) := by rw [List.getElem?_map, hy]; rfl
     refine walkGF (And.intro hxp (And.intro hyp (And.intro @sPV_eq @str_toList))) ?_
     refine VC.cond (by rfl) (by trivial) (fun hc3 => ?_) (fun hc3 => ?_)
     · have hf : V = false := by
        rw [hV, decide_eq_false_iff_not]
        intro hd
        exact nodup_ne hd hx hy hki (by simpa using hc3)
       subst hf
       refine walkG ?_
       refine retX Tryz.results92 ?_
       exact .c _
     · have hyx : y ≠ x := by simpa using hc3
       refine walkGF (hwk) ?_
       refine .next ⟨k + 1, by omega, ?_⟩ ?_ (by simp only []; omega)
       · intro j z hj hz
         by_cases hji : j < k
         · exact hn j z hji hz
         · obtain rfl : j = k := by omega
           rw [hy] at hz
           obtain rfl := Option.some.inj hz
           exact hyx
       simp only [Weak, eq_self, used_is, sc_any, sc_c, sc_pp, sc_ref, sc_row, sc_agg, sc_fn, ScL, some_imp, List.forall_mem_map, go_sem, Int.reduceBEq, Int.reduceLE, Int.reduceLT, Int.reduceNeg, Nat.reduceAdd, Nat.reduceEqDiff, Nat.reduceLT, Nat.reduceLeDiff, Nat.reduceMul, Nat.reduceSub, reduceCtorEq, ↓reduceIte]
       try exact cI (by omega)
   · have hke : k = i := by simp at hc2; omega
     subst hke
     refine walkGF (hw) ?_
     refine .next ⟨k + 1, by omega, nodup_take hx ht hn⟩ ?_ (by simp only []; omega)
     simp only [Weak, eq_self, used_is, sc_any, sc_c, sc_pp, sc_ref, sc_row, sc_agg, sc_fn, ScL, some_imp, List.forall_mem_map, go_sem, Int.reduceBEq, Int.reduceLE, Int.reduceLT, Int.reduceNeg, Nat.reduceAdd, Nat.reduceEqDiff, Nat.reduceLT, Nat.reduceLeDiff, Nat.reduceMul, Nat.reduceSub, reduceCtorEq, ↓reduceIte]
     try exact cI (by omega)
 · have hie : i = l.length := by simp at hc; omega
   have hf : V = true := by
    rw [hV, decide_eq_true_eq]
    rw [hie, List.take_length] at ht
    exact ht
   subst hf
   refine walkG ?_
   refine retX Tryz.results92 ?_
   exact .c _

theorem rone_told (a b : NT) : Told Tryz.prog 43 [a.av, b.av] (.c (.v (.bool (ceq a b)))) := by
 obtain ⟨V, hV⟩ : ∃ V, V = ceq a b := ⟨_, rfl⟩
 rw [← hV]
 have hT1 := rtexts_told a.aliases b.aliases
 have hT2 := rtexts_told a.symbols b.symbols
 obtain ⟨t1, ht1⟩ : ∃ t, t = (a.aliases == b.aliases) := ⟨_, rfl⟩
 obtain ⟨t2, ht2⟩ : ∃ t, t = (a.symbols == b.symbols) := ⟨_, rfl⟩
 rw [← ht1] at hT1
 rw [← ht2] at hT2
 rw [NT.av_eq, NT.av_eq, ncells_mk, ncells_mk]
 refine VC.toldP ent_43 Tryz.func43 rfl Tryz.ntmps43 fun hb => ?_
 simp only [List.map_cons, List.map_nil, abd_agg, abd_c, pbd_v, pbd_sl, List.mem_cons, List.not_mem_nil, or_false, forall_eq_or_imp, forall_eq, true_and, List.length_map] at hb
 have hfl : a.fields.length ≤ 9223372036854775807 := hb.1.2.1.1
 have hbl : a.branches.length ≤ 9223372036854775807 := hb.1.2.2.2.1
 clear hb
 refine walkGF (@str_toList) ?_
 refine walkD (hT1) ?_
 refine walkGF (@str_toList) ?_
 refine walkD (hT2) ?_
 refine walkGF (@str_toList) ?_
 refine VC.cond (by rfl) (by trivial) (fun hc => ?_) (fun hc => ?_)
 · have hf : V = false := by
    cases h : V with
    | false => rfl
    | true =>
      rw [hV, ceq_iff] at h
      subst h
      simp [ht1, ht2] at hc
   subst hf
   refine walkG ?_
   refine retX Tryz.results43 ?_
   exact .c _
 simp only [Bool.or_eq_false_iff, bne_eq_false_iff_eq, Bool.not_eq_false', beq_iff_eq] at hc
 obtain ⟨⟨⟨⟨⟨⟨⟨⟨⟨h1, h2⟩, h3⟩, h4⟩, h5⟩, h6⟩, h7⟩, h8⟩, h9⟩, h10⟩ := hc
 have hbb : a.branches.length = b.branches.length := by omega
 have hff : a.fields.length = b.fields.length := by omega
 have e3 : a.aliases = b.aliases := by simpa [ht1] using h3
 have e4 : a.symbols = b.symbols := by simpa [ht2] using h4
 have hv : V = (ceq a.fields b.fields && (a.branches == b.branches)) := by
  rw [hV, ceq_node, h1, h2, e3, e4, h5, h6, h7, h8]
  simp
 clear hV hT1 hT2 ht1 ht2
 refine walkG ?_
 refine VC.loop (ι := {i : Nat // i ≤ a.branches.length ∧ a.branches.take i = b.branches.take i}) (fun q => [(2, .ref 0 1 0 0), (3, .ref 8 1 0 0), (5, .c (.v (.int .i64 (q.1 : Int))))])
  (fun _ => [(0, ⟨false, 33, 10, [a.cells.map .c]⟩), (8, ⟨false, 33, 10, [b.cells.map .c]⟩)]) 800 (fun q => a.branches.length - q.1) ⟨0, Nat.zero_le _, rfl⟩ ?_ ?_
 · simp only [ncells_mk, Weak, eq_self, used_is, sc_any, sc_c, sc_pp, sc_ref, sc_row, sc_agg, sc_fn, ScL, some_imp, List.forall_mem_map, go_sem, Int.reduceBEq, Int.reduceLE, Int.reduceLT, Int.reduceNeg, Nat.reduceAdd, Nat.reduceEqDiff, Nat.reduceLT, Nat.reduceLeDiff, Nat.reduceMul, Nat.reduceSub, reduceCtorEq, ↓reduceIte]
   try simp
 rintro ⟨i, hi, ht⟩
 simp only []
 refine walkGF (@ncells_mk) ?_
 refine VC.cond (by rfl) (by trivial) (fun hc => ?_) (fun hc => ?_)
 · have hlt : i < a.branches.length := by simp at hc; omega
   obtain ⟨x, hx⟩ : ∃ x, a.branches[i]? = some x := ⟨a.branches[i], List.getElem?_eq_getElem hlt⟩
   obtain ⟨y, hy⟩ : ∃ y, b.branches[i]? = some y := ⟨b.branches[i]'(by omega), List.getElem?_eq_getElem (by omega)⟩
   have hw : IntKind.i64.wrap ((i : Int) + 1) = (i : Int) + 1 := wrap64_id (by omega) (by omega)
   have hxp : (a.branches.map iPV)[i]? = some (iPV x) := by rw [List.getElem?_map, hx]; rfl
   have hyp : (b.branches.map iPV)[i]? = some (iPV y) := by rw [List.getElem?_map, hy]; rfl
   refine walkGF (And.intro @ncells_mk (And.intro hxp (And.intro hyp @iPV_eq))) ?_
   refine VC.cond (by rfl) (by trivial) (fun hc2 => ?_) (fun hc2 => ?_)
   · have hf : V = false := by
      have : (a.branches == b.branches) = false := by
       rw [beq_eq_false_iff_ne]
       exact ne_at hx hy (by simpa using hc2)
      rw [hv, this]
      simp
     subst hf
     refine walkG ?_
     refine retX Tryz.results43 ?_
     exact .c _
   · have hxy : x = y := by simpa using hc2
     refine walkGF (hw) ?_
     refine .next ⟨i + 1, by omega, take_nexty hx hy ht hxy⟩ ?_ (by simp only []; omega)
     simp only [ncells_mk, Weak, eq_self, used_is, sc_any, sc_c, sc_pp, sc_ref, sc_row, sc_agg, sc_fn, ScL, some_imp, List.forall_mem_map, go_sem, Int.reduceBEq, Int.reduceLE, Int.reduceLT, Int.reduceNeg, Nat.reduceAdd, Nat.reduceEqDiff, Nat.reduceLT, Nat.reduceLeDiff, Nat.reduceMul, Nat.reduceSub, reduceCtorEq, ↓reduceIte]
     try exact cI (by omega)
 have hie : i = a.branches.length := by simp at hc; omega
 have hbe : a.branches = b.branches := take_end ht hie hbb
 have hv2 : V = ceq a.fields b.fields := by rw [hv, hbe]; simp
 clear hv hc
 refine walkG ?_
 refine VC.loop (ι := {i : Nat // i ≤ a.fields.length ∧ a.fields.take i = b.fields.take i}) (fun q => [(2, .ref 0 1 0 0), (3, .ref 8 1 0 0), (6, .c (.v (.int .i64 (q.1 : Int))))])
  (fun _ => [(0, ⟨false, 33, 10, [a.cells.map .c]⟩), (8, ⟨false, 33, 10, [b.cells.map .c]⟩)]) 1600 (fun q => a.fields.length - q.1) ⟨0, Nat.zero_le _, rfl⟩ ?_ ?_
 · simp only [ncells_mk, Weak, eq_self, used_is, sc_any, sc_c, sc_pp, sc_ref, sc_row, sc_agg, sc_fn, ScL, some_imp, List.forall_mem_map, go_sem, Int.reduceBEq, Int.reduceLE, Int.reduceLT, Int.reduceNeg, Nat.reduceAdd, Nat.reduceEqDiff, Nat.reduceLT, Nat.reduceLeDiff, Nat.reduceMul, Nat.reduceSub, reduceCtorEq, ↓reduceIte]
   try simp
 clear hie ht hi i
 rintro ⟨i, hi, ht⟩
 simp only []
 refine walkGF (@ncells_mk) ?_
 refine VC.cond (by rfl) (by trivial) (fun hc => ?_) (fun hc => ?_)
 · have hlt : i < a.fields.length := by simp at hc; omega
   obtain ⟨x, hx⟩ : ∃ x, a.fields[i]? = some x := ⟨a.fields[i], List.getElem?_eq_getElem hlt⟩
   obtain ⟨y, hy⟩ : ∃ y, b.fields[i]? = some y := ⟨b.fields[i]'(by omega), List.getElem?_eq_getElem (by omega)⟩
   have hw : IntKind.i64.wrap ((i : Int) + 1) = (i : Int) + 1 := wrap64_id (by omega) (by omega)
   have hxp : (a.fields.map FT.cells)[i]? = some x.cells := by rw [List.getElem?_map, hx]; rfl
   have hyp : (b.fields.map FT.cells)[i]? = some y.cells := by rw [List.getElem?_map, hy]; rfl
   have hT := rtexts_told x.aliases y.aliases
   have hS := rsame_told _ x.dflt y.dflt (Nat.le_refl _)
   simp only [JT.av] at hS
   obtain ⟨u1, hu1⟩ : ∃ t, t = (x.aliases == y.aliases) := ⟨_, rfl⟩
   obtain ⟨u2, hu2⟩ : ∃ t, t = jeq x.dflt y.dflt := ⟨_, rfl⟩
   rw [← hu1] at hT
   rw [← hu2] at hS
   refine walkGF (And.intro @ncells_mk (And.intro hxp (And.intro hyp (And.intro @fcells_mk (And.intro @len_cells (And.intro @take_cells (And.intro @take_cellsC @str_toList))))))) ?_
   refine walkD (hT) ?_
   refine walkGF (And.intro @ncells_mk (And.intro hxp (And.intro hyp (And.intro @fcells_mk (And.intro @len_cells (And.intro @take_cells (And.intro @take_cellsC @str_toList))))))) ?_
   refine walkDF (@pureL_c) (hS) ?_
   refine walkG ?_
   refine VC.cond (by rfl) (by trivial) (fun hc2 => ?_) (fun hc2 => ?_)
   · have hne : x ≠ y := by
      rintro rfl
      simp [hu1, hu2, jeq_self] at hc2
     have hf : V = false := by
      rw [hv2, ceq_false]
      exact ne_at hx hy hne
     subst hf
     refine walkG ?_
     refine retX Tryz.results43 ?_
     exact .c _
   · have hxy : x = y := by
      have e := ceq_field x y
      simp only [Bool.or_eq_false_iff, bne_eq_false_iff_eq, Bool.not_eq_false', beq_iff_eq] at hc2
      obtain ⟨⟨⟨⟨g1, g2⟩, g3⟩, g4⟩, g5⟩ := hc2
      have g2 : x.aliases = y.aliases := by simpa [hu1] using g2
      rw [← ceq_iff, e, g1, g2, g3, g4, ← hu2, g5]
      simp
     refine walkGF (hw) ?_
     refine .next ⟨i + 1, by omega, take_nexty hx hy ht hxy⟩ ?_ (by simp only []; omega)
     simp only [ncells_mk, Weak, eq_self, used_is, sc_any, sc_c, sc_pp, sc_ref, sc_row, sc_agg, sc_fn, ScL, some_imp, List.forall_mem_map, go_sem, Int.reduceBEq, Int.reduceLE, Int.reduceLT, Int.reduceNeg, Nat.reduceAdd, Nat.reduceEqDiff, Nat.reduceLT, Nat.reduceLeDiff, Nat.reduceMul, Nat.reduceSub, reduceCtorEq, ↓reduceIte]
     try exact cI (by omega)
 · have hie : i = a.fields.length := by simp at hc; omega
   have hfe : a.fields = b.fields := take_end ht hie hff
   have hf : V = true := by
    rw [hv2, hfe, ceq_self]
   subst hf
   refine walkG ?_
   refine retX Tryz.results43 ?_
   exact .c _
end
end Go.Proofs.YtepneflbhpidbaaGreatDoor
