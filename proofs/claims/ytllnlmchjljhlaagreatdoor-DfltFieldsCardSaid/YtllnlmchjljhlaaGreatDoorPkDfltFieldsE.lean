/- Texts that lead to the law DfltFields, joined. -/
import Derived.Test.YtllnlmchjljhlaaGreatDoorPkDfltFieldsD
import Derived.Test.YtllnlmchjljhlaaGreatDoorPkDfltFieldsA
import Derived.Test.YtllnlmchjljhlaaGreatDoorPkDfltFieldsXAbB
import Derived.Lib.Bytealg
import Derived.Test.YtllnlmchjljhlaaGreatDoorPkDfltFieldsXTy
import Derived.Test.YtllnlmchjljhlaaGreatDoorPkDfltFieldsB
import Derived.Test.YtllnlmchjljhlaaGreatDoorPkDfltFieldsC
import Derived.WalkKit
import Derived.WalkLawsBesides
namespace Go.Proofs.YtllnlmchjljhlaaGreatDoor
open Go.RowKit
set_option linter.unusedVariables false
set_option linter.unusedSimpArgs false
section
attribute [local go_sem] opx opE ev okx gcond bnd okO AV.get AV.okb cAV upd_at putd_some putd_none wrs_nil wrs_cons look_nil look_cons st argT_at bpick_and bpick_or bpick_true bpick_false binV binI binS binVOk binOk isShift binSOk unV unVOk loadV loadP cellsA zeroA Blkd.len setE grown moreA moreR moreOk eqRes pv fillA fillE putSeg AV.cellish AV.pureL AV.pureB lentL_is ex_some AV.ren AV.renL renL_c Blkd.ren rho wrM renN lentOk rhoE keepM endOk tyA_2 tyA_3 tyA_4 tyA_5 tyA_6 tyA_7 tyA_8 tyA_9 tyA_10 tyA_11 tyA_12 tyA_13 tyA_14 tyA_15 tyA_16 tyA_17 tyA_18 tyA_19 tyA_21 tyA_22 tyA_23 tyA_24 tyA_29 tyA_30 tyA_31 tyA_32 tyA_33 tyA_34 tyA_35 tyA_36 tyA_37 tyA_38 tyA_39 tyA_40 tyA_41 tyA_42 tyA_43 tyA_49 tyA_85 tyA_89 tyA_99 tyA_100 tyA_101 tyA_105 tyA_106 tyA_107 tyA_108 tyA_109 tyA_111 tyA_112 tyA_113 tyA_114 tyA_123 tyA_126 tyA_127 tyA_128 tyA_129 tyA_130 tyA_153 tyA_163 tyA_164 tyA_165 tyA_179 tyA_185 tyA_191 tyA_192 tyA_193 tyA_194 tyA_195 tyA_196 tyA_209 tyA_213 tyA_214 tyA_215 tyA_241 tyA_248 tyA_274 tyA_275 tyA_276 tyA_292 tyA_294 tyA_302 tyA_307 tyA_315 tyA_319 tyA_321 tyA_324 tyA_325 tyA_326 tyA_327 tyA_328 tyA_329 tyA_330 tyA_332 tyA_333 Option.map_some Option.map_none Option.getD_some Option.getD_none Option.bind_some Option.bind_none List.getElem?_cons_zero List.getElem?_cons_succ List.getElem?_nil List.getElem?_toArray List.length_cons List.length_nil List.length_map List.forall_mem_map List.map_cons List.map_nil List.drop_zero List.drop_succ_cons List.drop_nil List.take_zero List.take_succ_cons List.take_nil List.mem_cons List.not_mem_nil or_false forall_eq_or_imp forall_eq List.set_cons_zero List.set_cons_succ List.cons_append List.nil_append List.append_nil List.foldl_cons List.foldl_nil List.replicate_succ List.replicate_zero List.all_cons List.all_nil if_true if_false Bool.false_eq_true ne_eq not_false_eq_true not_true_eq_false true_and and_true and_self true_implies imp_self implies_true forall_const beq_self_eq_true Bool.and_true Bool.true_and Bool.and_false Bool.false_and Bool.or_true Bool.true_or Bool.or_false Bool.false_or Bool.not_true Bool.not_false Bool.not_eq_eq_eq_not intKindOf Value.oneCell' Int.toNat_natCast beq_true beq_false Bool.not_eq_true false_implies false_or true_or or_true Nat.zero_add Nat.add_zero decide_true decide_false Int.cast_ofNat_Int Int.toNat_zero Int.toNat_one eq_self

set_option maxRecDepth 100000 in
set_option maxHeartbeats 1600000 in
theorem pbits_told (n : Int) (h1 : -9223372036854775808 ≤ n) (h2 : n ≤ 9223372036854775807) (sign bias digits : Nat) (hs : sign ≤ 9223372036854775808) (hb1 : 1 ≤ bias) (hb2 : bias ≤ 1023) (hd1 : 23 ≤ digits) (hd2 : digits ≤ 52) (htot : bitsM n sign bias digits < 18446744073709551616) :
    Told Tryz.prog 231 [.c (.v (.int .i64 n)), .c (.v (.int .u64 (sign : Int))), .c (.v (.int .i64 (bias : Int))), .c (.v (.int .i64 (digits : Int)))] (.c (.v (.int .u64 (bitsM n sign bias digits : Int)))) := by
  by_cases h0 : n = 0
  · subst h0
    rw [show bitsM 0 sign bias digits = 0 from rfl]
    refine VC.told ent_231 Tryz.func231 rfl Tryz.ntmps231 (by simp) (by first | rfl | simp [AV.pureB, AV.pureL, pureL_c, pures]) (by first | rfl | simp [AV.pureB, AV.pureL, pureL_c, pures]) fun hb => ?_
    clear hb
    refine walkB ?_
    refine ⟨by first | exact .inr rfl | exact .inl rfl, ?_⟩; rw [Tryz.results231]; simp only [resOk, resV, go_sem, simprocAttr]
    exact .c _
  have e0 : (n == 0) = false := beq_eq_false_iff_ne.2 h0
  have hu0 : n.natAbs ≠ 0 := by omega
  obtain ⟨u, hu⟩ : ∃ u, u = n.natAbs := ⟨_, rfl⟩
  have hul : u < 18446744073709551616 := by omega
  have hB := zbits_told u hul
  have hb64 : nBits u ≤ 64 := nBits_lt (by omega)
  have hb0 : 1 ≤ nBits u := by unfold nBits; rw [if_neg (by omega)]; omega
  obtain ⟨H, hH⟩ : ∃ H, H = nBits u - 1 := ⟨_, rfl⟩
  have hw1 : IntKind.i64.wrap ((nBits u : Int) - 1) = (H : Int) := by rw [wrap64_id (by omega) (by omega)]; omega
  obtain ⟨M, hM⟩ : ∃ M, M = mantM u digits := ⟨_, rfl⟩
  obtain ⟨E, hE⟩ : ∃ E, E = bias + H - 1 := ⟨_, rfl⟩
  obtain ⟨SH, hSH⟩ : ∃ SH, SH = E * 2 ^ digits := ⟨_, rfl⟩
  have hT : bitsM n sign bias digits = (if n < 0 then sign else 0) + SH + M := by
    rw [hSH, hM, hE, hH, hu]
    unfold bitsM
    rw [if_neg h0]
  rw [hT] at htot ⊢
  have hw2 : IntKind.i64.wrap ((bias : Int) + (H : Int)) = ((bias + H : Nat) : Int) := by rw [wrap64_id (by omega) (by omega)]; rfl
  have hw3 : IntKind.i64.wrap (((bias + H : Nat) : Int) - 1) = (E : Int) := by rw [wrap64_id (by omega) (by omega)]; omega
  have hw4 : IntKind.u64.wrap (E : Int) = (E : Int) := by rw [IntKind.wrap_u64]; omega
  have hw5 : IntKind.u64.wrap (digits : Int) = (digits : Int) := by rw [IntKind.wrap_u64]; omega
  have s1 := u64_shl E digits (by omega) (by rw [← hSH]; omega)
  rw [← hSH] at s1
  -- what the closure does
  obtain ⟨z, hz, hC⟩ : ∃ z : Int, IntKind.i64.wrap ((digits : Int) - (H : Int)) = z ∧ ToldM Tryz.prog 260 [.c (.v (.int .i64 z)), .ref 1000000 1 0 0] [mantB u] [some (mantB M)] (.tup []) := by
    by_cases hle : H ≤ digits
    · refine ⟨((digits - H : Nat) : Int), by rw [wrap64_id (by omega) (by omega)]; omega, ?_⟩
      have hMe : M = u * 2 ^ (digits - H) := by rw [hM, mantM, ← hH, if_pos hle]
      have := bits1_up u (digits - H) (by omega) (by rw [← hMe]; omega)
      rw [← hMe] at this
      exact this
    · refine ⟨-((H - digits : Nat) : Int), by rw [wrap64_id (by omega) (by omega)]; omega, ?_⟩
      have hMe : M = roundM u (H - digits) := by rw [hM, mantM, ← hH, if_neg hle]
      rw [hMe]
      exact bits1_down u (H - digits) hul (by omega) (by omega)
  unfold mantB at hC
  clear hT hM hSH hE
  (try simp only [go_sem, Int.reduceBEq, Int.reduceLE, Int.reduceLT, Int.reduceNeg, Nat.reduceAdd, Nat.reduceEqDiff, Nat.reduceLT, Nat.reduceLeDiff, Nat.reduceMul, Nat.reduceSub, reduceCtorEq, ↓reduceIte] at s1)
  by_cases hn : n < 0
  · rw [if_pos hn] at htot ⊢
    have e1 : decide (n < 0) = true := by simpa using hn
    have g1 : IntKind.u64.wrap (0 - IntKind.u64.wrap n) = (u : Int) := by rw [IntKind.wrap_u64, IntKind.wrap_u64]; omega
    have g2 : IntKind.u64.wrap (-IntKind.u64.wrap n) = (u : Int) := by rw [IntKind.wrap_u64, IntKind.wrap_u64]; omega
    have a1 : IntKind.u64.wrap ((sign : Int) + (SH : Int)) = ((sign + SH : Nat) : Int) := by rw [IntKind.wrap_u64]; omega
    have a2 : IntKind.u64.wrap (((sign + SH : Nat) : Int) + (M : Int)) = ((sign + SH + M : Nat) : Int) := by rw [IntKind.wrap_u64]; omega
    clear hu hH
    generalize nBits u = B at *
    generalize sign + SH + M = tot at *
    generalize sign + SH = part at *
    generalize bias + H = bh at *
    refine VC.told ent_231 Tryz.func231 rfl Tryz.ntmps231 (by simp) (by first | rfl | simp [AV.pureB, AV.pureL, pureL_c, pures]) (by first | rfl | simp [AV.pureB, AV.pureL, pureL_c, pures]) fun hb => ?_
    clear hb
    refine walkBF (And.intro e0 (And.intro e1 (And.intro g1 g2))) ?_
    refine walkC (hB) ?_
    refine walkGF (And.intro hw1 hz) ?_
    ((refine AO.step fun K hK => ?_; simp only [go_sem, Int.reduceBEq, Int.reduceLE, Int.reduceLT, Int.reduceNeg, Nat.reduceAdd, Nat.reduceEqDiff, Nat.reduceLT, Nat.reduceLeDiff, Nat.reduceMul, Nat.reduceSub, reduceCtorEq, ↓reduceIte]; (first | refine gsel_go ?_ | skip)); refine .inr (.inr (.inl ⟨?vy1, [128], ?va1, ?vl1, ?vm1, ?cond1, ?cont1⟩)); (case cond1 => ((repeat' apply And.intro) <;> (try ((with_reducible show ToldM _ _ _ _ _ _); exact hC))); (all_goals first | trivial | (simp only [go_sem, simprocAttr]; done) | (simp; done) | rfl)); (first | refine hK _ _ _ ?_ | (simp only [go_sem, simprocAttr]; first | refine hK _ _ _ ?_ | refine ⟨rfl, hK _ _ _ ?_⟩)); clear hK K)
    refine walkGF (And.intro hw2 (And.intro hw3 (And.intro hw4 (And.intro hw5 (And.intro s1 (And.intro a1 a2)))))) ?_
    refine ⟨by first | exact .inr rfl | exact .inl rfl, ?_⟩; rw [Tryz.results231]; simp only [resOk, resV, go_sem, simprocAttr]
    exact .c _
  · rw [if_neg hn] at htot ⊢
    have e1 : decide (n < 0) = false := by simpa using hn
    have g1 : IntKind.u64.wrap n = (u : Int) := by rw [IntKind.wrap_u64]; omega
    have a1 : IntKind.u64.wrap (0 + (SH : Int)) = (SH : Int) := by rw [IntKind.wrap_u64]; omega
    have a2 : IntKind.u64.wrap ((SH : Int) + (M : Int)) = ((0 + SH + M : Nat) : Int) := by rw [IntKind.wrap_u64]; omega
    clear hu hH
    (try simp only [go_sem, Int.reduceBEq, Int.reduceLE, Int.reduceLT, Int.reduceNeg, Nat.reduceAdd, Nat.reduceEqDiff, Nat.reduceLT, Nat.reduceLeDiff, Nat.reduceMul, Nat.reduceSub, reduceCtorEq, ↓reduceIte] at a1)
    generalize nBits u = B at *
    generalize 0 + SH + M = tot at *
    generalize bias + H = bh at *
    refine VC.told ent_231 Tryz.func231 rfl Tryz.ntmps231 (by simp) (by first | rfl | simp [AV.pureB, AV.pureL, pureL_c, pures]) (by first | rfl | simp [AV.pureB, AV.pureL, pureL_c, pures]) fun hb => ?_
    clear hb
    refine walkBF (And.intro e0 (And.intro e1 g1)) ?_
    refine walkC (hB) ?_
    refine walkGF (And.intro hw1 hz) ?_
    ((refine AO.step fun K hK => ?_; simp only [go_sem, Int.reduceBEq, Int.reduceLE, Int.reduceLT, Int.reduceNeg, Nat.reduceAdd, Nat.reduceEqDiff, Nat.reduceLT, Nat.reduceLeDiff, Nat.reduceMul, Nat.reduceSub, reduceCtorEq, ↓reduceIte]; (first | refine gsel_go ?_ | skip)); refine .inr (.inr (.inl ⟨?vy2, [112], ?va2, ?vl2, ?vm2, ?cond2, ?cont2⟩)); (case cond2 => ((repeat' apply And.intro) <;> (try ((with_reducible show ToldM _ _ _ _ _ _); exact hC))); (all_goals first | trivial | (simp only [go_sem, simprocAttr]; done) | (simp; done) | rfl)); (first | refine hK _ _ _ ?_ | (simp only [go_sem, simprocAttr]; first | refine hK _ _ _ ?_ | refine ⟨rfl, hK _ _ _ ?_⟩)); clear hK K)
    refine walkGF (And.intro hw2 (And.intro hw3 (And.intro hw4 (And.intro hw5 (And.intro s1 (And.intro a1 a2)))))) ?_
    refine ⟨by first | exact .inr rfl | exact .inl rfl, ?_⟩; rw [Tryz.results231]; simp only [resOk, resV, go_sem, simprocAttr]
    exact .c _
set_option maxRecDepth 100000 in
set_option maxHeartbeats 400000 in
theorem pdouble_told (n : Int) (h1 : -9223372036854775808 ≤ n) (h2 : n ≤ 9223372036854775807) : Told Tryz.prog 178 [.c (.v (.int .i64 n))] (.c (.v (.int .u64 (dblM n : Int)))) := by
  have h : Told Tryz.prog 231 [.c (.v (.int .i64 n)), .c (.v (.int .u64 9223372036854775808)), .c (.v (.int .i64 1023)), .c (.v (.int .i64 52))] (.c (.v (.int .u64 (dblM n : Int)))) :=
    pbits_told n h1 h2 9223372036854775808 1023 52 (by omega) (by omega) (by omega) (by omega) (by omega) (dblM_lt n h1 h2)
  generalize dblM n = F at *
  refine VC.told ent_178 Tryz.func178 rfl Tryz.ntmps178 (by simp) (by first | rfl | simp [AV.pureB, AV.pureL, pureL_c, pures]) (by first | rfl | simp [AV.pureB, AV.pureL, pureL_c, pures]) fun hb => ?_
  clear hb
  refine walkG ?_
  refine walkC (h) ?_
  refine walkG ?_
  refine ⟨by first | exact .inr rfl | exact .inl rfl, ?_⟩; rw [Tryz.results178]; simp only [resOk, resV, go_sem, simprocAttr]
  exact .c _
set_option maxRecDepth 100000 in
set_option maxHeartbeats 400000 in
theorem pfloat_told (n : Int) (h1 : -9223372036854775808 ≤ n) (h2 : n ≤ 9223372036854775807) : Told Tryz.prog 177 [.c (.v (.int .i64 n))] (.c (.v (.int .u32 (fltM n : Int)))) := by
  have hl := fltM_lt n h1 h2
  have h : Told Tryz.prog 231 [.c (.v (.int .i64 n)), .c (.v (.int .u64 2147483648)), .c (.v (.int .i64 127)), .c (.v (.int .i64 23))] (.c (.v (.int .u64 (fltM n : Int)))) :=
    pbits_told n h1 h2 2147483648 127 23 (by omega) (by omega) (by omega) (by omega) (by omega) (by unfold fltM at hl; omega)
  generalize fltM n = F at *
  have hw : IntKind.u32.wrap (F : Int) = (F : Int) := by rw [IntKind.wrap_u32]; omega
  refine VC.told ent_177 Tryz.func177 rfl Tryz.ntmps177 (by simp) (by first | rfl | simp [AV.pureB, AV.pureL, pureL_c, pures]) (by first | rfl | simp [AV.pureB, AV.pureL, pureL_c, pures]) fun hb => ?_
  clear hb
  refine walkG ?_
  refine walkC (h) ?_
  refine walkGF (hw) ?_
  refine ⟨by first | exact .inr rfl | exact .inl rfl, ?_⟩; rw [Tryz.results177]; simp only [resOk, resV, go_sem, simprocAttr]
  exact .c _

theorem andl31 : ∀ y : Nat, y < 256 → IntKind.u8.wrap ((BitVec.ofInt IntKind.u8.bits ((y : Nat) : Int) &&& BitVec.ofInt IntKind.u8.bits 31).toNat : Int) = ((y % 32 : Nat) : Int) := by decide +kernel
theorem andl15 : ∀ y : Nat, y < 256 → IntKind.u8.wrap ((BitVec.ofInt IntKind.u8.bits ((y : Nat) : Int) &&& BitVec.ofInt IntKind.u8.bits 15).toNat : Int) = ((y % 16 : Nat) : Int) := by decide +kernel
theorem andl7 : ∀ y : Nat, y < 256 → IntKind.u8.wrap ((BitVec.ofInt IntKind.u8.bits ((y : Nat) : Int) &&& BitVec.ofInt IntKind.u8.bits 7).toNat : Int) = ((y % 8 : Nat) : Int) := by decide +kernel
theorem and63 : ∀ y : Nat, y < 256 → IntKind.u8.wrap ((BitVec.ofInt IntKind.u8.bits ((y : Nat) : Int) &&& BitVec.ofInt IntKind.u8.bits 63).toNat : Int) = ((y % 64 : Nat) : Int) := by decide +kernel
theorem or63 (v d : Nat) (hv : v < 524288) (hd : d < 64) : IntKind.i32.wrap ((BitVec.ofInt IntKind.i32.bits ((v * 64 : Nat) : Int) ||| BitVec.ofInt IntKind.i32.bits ((d : Nat) : Int)).toNat : Int) = ((v * 64 + d : Nat) : Int) := by
  show IntKind.i32.wrap ((BitVec.ofInt 32 ((v * 64 : Nat) : Int) ||| BitVec.ofInt 32 ((d : Nat) : Int)).toNat : Int) = _
  have h := Nat.shiftLeft_add_eq_or_of_lt (i := 6) (b := d) hd v
  rw [Nat.shiftLeft_eq, show (2 : Nat) ^ 6 = 64 from rfl] at h
  rw [BitVec.ofInt_natCast, BitVec.ofInt_natCast, BitVec.toNat_or, BitVec.toNat_ofNat, BitVec.toNat_ofNat, Nat.mod_eq_of_lt (by omega), Nat.mod_eq_of_lt (by omega), ← h, IntKind.wrap_i32]
  omega
theorem ufvV_lt (x : UInt8) : ufv x < 128 := by
  have := x.toNat_lt
  unfold ufv
  repeat' split
  all_goals omega
theorem uvalV_lt (l : List UInt8) (p : Nat) : ∀ k, uval l p k < 128 * 64 ^ k := by
  intro k
  induction k with
  | zero => simpa [uval] using ufvV_lt _
  | succ k ih => simp only [uval]; rw [Nat.pow_succ]; omega
def uvc (l : List UInt8) (p : Nat) : Nat := if uerr l p = 0 then uval l p (ulen l p - 1) else 0
set_option maxRecDepth 100000 in
set_option maxHeartbeats 400000 in
theorem ufirstV_told0 {x : UInt8} (h0 : x.toNat < 128) : Told Tryz.prog 262 [.c (.v (.int .u8 (x.toNat : Int)))] (.tup [.c (.v (.int .i64 (ufirst x : Int))), .c (.v (.int .i32 (ufv x : Int)))]) := by
  have hu : ufirst x = 1 := by unfold ufirst; repeat' split <;> try omega
  have hv : ufv x = x.toNat := by unfold ufv; repeat' split <;> first | rfl | omega
  have hx := x.toNat_lt
  rw [hu, hv]
  have e0 : decide ((x.toNat : Int) < 128) = true := by simp; omega
  have g : IntKind.i32.wrap (x.toNat : Int) = (x.toNat : Int) := by rw [IntKind.wrap_i32]; omega
  clear hu hv
  refine VC.told ent_262 Tryz.func262 rfl Tryz.ntmps262 (by simp) (by first | rfl | simp [AV.pureB, AV.pureL, pureL_c, pures]) (by first | rfl | simp [AV.pureB, AV.pureL, pureL_c, pures]) fun hb => ?_
  clear hb
  refine walkBF (And.intro e0 g) ?_
  refine ⟨by first | exact .inr rfl | exact .inl rfl, ?_⟩; rw [Tryz.results262]; simp only [resOk, resV, go_sem, simprocAttr]
  exact ⟨.c _, .c _⟩
set_option maxRecDepth 100000 in
set_option maxHeartbeats 400000 in
theorem ufirstV_told1 {x : UInt8} (h0 : ¬ x.toNat < 128) (h1 : x.toNat < 194) : Told Tryz.prog 262 [.c (.v (.int .u8 (x.toNat : Int)))] (.tup [.c (.v (.int .i64 (ufirst x : Int))), .c (.v (.int .i32 (ufv x : Int)))]) := by
  have hu : ufirst x = 0 := by unfold ufirst; repeat' split <;> try omega
  have hv : ufv x = 0 := by unfold ufv; repeat' split <;> first | rfl | omega
  have hx := x.toNat_lt
  rw [hu, hv]
  have e0 : decide ((x.toNat : Int) < 128) = false := by simp; omega
  have e1 : decide ((x.toNat : Int) < 194) = true := by simp; omega
  clear hu hv
  refine VC.told ent_262 Tryz.func262 rfl Tryz.ntmps262 (by simp) (by first | rfl | simp [AV.pureB, AV.pureL, pureL_c, pures]) (by first | rfl | simp [AV.pureB, AV.pureL, pureL_c, pures]) fun hb => ?_
  clear hb
  refine walkBF (And.intro e0 e1) ?_
  refine ⟨by first | exact .inr rfl | exact .inl rfl, ?_⟩; rw [Tryz.results262]; simp only [resOk, resV, go_sem, simprocAttr]
  exact ⟨.c _, .c _⟩
set_option maxRecDepth 100000 in
set_option maxHeartbeats 400000 in
theorem ufirstV_told2 {x : UInt8} (h0 : ¬ x.toNat < 128) (h1 : ¬ x.toNat < 194) (h2 : x.toNat < 224) : Told Tryz.prog 262 [.c (.v (.int .u8 (x.toNat : Int)))] (.tup [.c (.v (.int .i64 (ufirst x : Int))), .c (.v (.int .i32 (ufv x : Int)))]) := by
  have hu : ufirst x = 2 := by unfold ufirst; repeat' split <;> try omega
  have hv : ufv x = x.toNat % 32 := by unfold ufv; repeat' split <;> first | rfl | omega
  have hx := x.toNat_lt
  rw [hu, hv]
  have e0 : decide ((x.toNat : Int) < 128) = false := by simp; omega
  have e1 : decide ((x.toNat : Int) < 194) = false := by simp; omega
  have e2 : decide ((x.toNat : Int) < 224) = true := by simp; omega
  have hm := andl31 x.toNat hx
  have g : IntKind.i32.wrap ((x.toNat % 32 : Nat) : Int) = ((x.toNat % 32 : Nat) : Int) := by rw [IntKind.wrap_i32]; omega
  (try simp only [go_sem, Int.reduceBEq, Int.reduceLE, Int.reduceLT, Int.reduceNeg, Nat.reduceAdd, Nat.reduceEqDiff, Nat.reduceLT, Nat.reduceLeDiff, Nat.reduceMul, Nat.reduceSub, reduceCtorEq, ↓reduceIte] at hm)
  clear hu hv
  refine VC.told ent_262 Tryz.func262 rfl Tryz.ntmps262 (by simp) (by first | rfl | simp [AV.pureB, AV.pureL, pureL_c, pures]) (by first | rfl | simp [AV.pureB, AV.pureL, pureL_c, pures]) fun hb => ?_
  clear hb
  refine walkBF (And.intro e0 (And.intro e1 (And.intro e2 (And.intro hm g)))) ?_
  refine ⟨by first | exact .inr rfl | exact .inl rfl, ?_⟩; rw [Tryz.results262]; simp only [resOk, resV, go_sem, simprocAttr]
  exact ⟨.c _, .c _⟩
set_option maxRecDepth 100000 in
set_option maxHeartbeats 400000 in
theorem ufirstV_told3 {x : UInt8} (h0 : ¬ x.toNat < 128) (h1 : ¬ x.toNat < 194) (h2 : ¬ x.toNat < 224) (h3 : x.toNat < 240) : Told Tryz.prog 262 [.c (.v (.int .u8 (x.toNat : Int)))] (.tup [.c (.v (.int .i64 (ufirst x : Int))), .c (.v (.int .i32 (ufv x : Int)))]) := by
  have hu : ufirst x = 3 := by unfold ufirst; repeat' split <;> try omega
  have hv : ufv x = x.toNat % 16 := by unfold ufv; repeat' split <;> first | rfl | omega
  have hx := x.toNat_lt
  rw [hu, hv]
  have e0 : decide ((x.toNat : Int) < 128) = false := by simp; omega
  have e1 : decide ((x.toNat : Int) < 194) = false := by simp; omega
  have e2 : decide ((x.toNat : Int) < 224) = false := by simp; omega
  have e3 : decide ((x.toNat : Int) < 240) = true := by simp; omega
  have hm := andl15 x.toNat hx
  have g : IntKind.i32.wrap ((x.toNat % 16 : Nat) : Int) = ((x.toNat % 16 : Nat) : Int) := by rw [IntKind.wrap_i32]; omega
  (try simp only [go_sem, Int.reduceBEq, Int.reduceLE, Int.reduceLT, Int.reduceNeg, Nat.reduceAdd, Nat.reduceEqDiff, Nat.reduceLT, Nat.reduceLeDiff, Nat.reduceMul, Nat.reduceSub, reduceCtorEq, ↓reduceIte] at hm)
  clear hu hv
  refine VC.told ent_262 Tryz.func262 rfl Tryz.ntmps262 (by simp) (by first | rfl | simp [AV.pureB, AV.pureL, pureL_c, pures]) (by first | rfl | simp [AV.pureB, AV.pureL, pureL_c, pures]) fun hb => ?_
  clear hb
  refine walkBF (And.intro e0 (And.intro e1 (And.intro e2 (And.intro e3 (And.intro hm g))))) ?_
  refine ⟨by first | exact .inr rfl | exact .inl rfl, ?_⟩; rw [Tryz.results262]; simp only [resOk, resV, go_sem, simprocAttr]
  exact ⟨.c _, .c _⟩
set_option maxRecDepth 100000 in
set_option maxHeartbeats 400000 in
theorem ufirstV_told4 {x : UInt8} (h0 : ¬ x.toNat < 128) (h1 : ¬ x.toNat < 194) (h2 : ¬ x.toNat < 224) (h3 : ¬ x.toNat < 240) (h4 : x.toNat < 245) : Told Tryz.prog 262 [.c (.v (.int .u8 (x.toNat : Int)))] (.tup [.c (.v (.int .i64 (ufirst x : Int))), .c (.v (.int .i32 (ufv x : Int)))]) := by
  have hu : ufirst x = 4 := by unfold ufirst; repeat' split <;> try omega
  have hv : ufv x = x.toNat % 8 := by unfold ufv; repeat' split <;> first | rfl | omega
  have hx := x.toNat_lt
  rw [hu, hv]
  have e0 : decide ((x.toNat : Int) < 128) = false := by simp; omega
  have e1 : decide ((x.toNat : Int) < 194) = false := by simp; omega
  have e2 : decide ((x.toNat : Int) < 224) = false := by simp; omega
  have e3 : decide ((x.toNat : Int) < 240) = false := by simp; omega
  have e4 : decide ((x.toNat : Int) < 245) = true := by simp; omega
  have hm := andl7 x.toNat hx
  have g : IntKind.i32.wrap ((x.toNat % 8 : Nat) : Int) = ((x.toNat % 8 : Nat) : Int) := by rw [IntKind.wrap_i32]; omega
  (try simp only [go_sem, Int.reduceBEq, Int.reduceLE, Int.reduceLT, Int.reduceNeg, Nat.reduceAdd, Nat.reduceEqDiff, Nat.reduceLT, Nat.reduceLeDiff, Nat.reduceMul, Nat.reduceSub, reduceCtorEq, ↓reduceIte] at hm)
  clear hu hv
  refine VC.told ent_262 Tryz.func262 rfl Tryz.ntmps262 (by simp) (by first | rfl | simp [AV.pureB, AV.pureL, pureL_c, pures]) (by first | rfl | simp [AV.pureB, AV.pureL, pureL_c, pures]) fun hb => ?_
  clear hb
  refine walkBF (And.intro e0 (And.intro e1 (And.intro e2 (And.intro e3 (And.intro e4 (And.intro hm g)))))) ?_
  refine ⟨by first | exact .inr rfl | exact .inl rfl, ?_⟩; rw [Tryz.results262]; simp only [resOk, resV, go_sem, simprocAttr]
  exact ⟨.c _, .c _⟩
set_option maxRecDepth 100000 in
set_option maxHeartbeats 400000 in
theorem ufirstV_told5 {x : UInt8} (h0 : ¬ x.toNat < 128) (h1 : ¬ x.toNat < 194) (h2 : ¬ x.toNat < 224) (h3 : ¬ x.toNat < 240) (h4 : ¬ x.toNat < 245) : Told Tryz.prog 262 [.c (.v (.int .u8 (x.toNat : Int)))] (.tup [.c (.v (.int .i64 (ufirst x : Int))), .c (.v (.int .i32 (ufv x : Int)))]) := by
  have hu : ufirst x = 0 := by unfold ufirst; repeat' split <;> try omega
  have hv : ufv x = 0 := by unfold ufv; repeat' split <;> first | rfl | omega
  have hx := x.toNat_lt
  rw [hu, hv]
  have e0 : decide ((x.toNat : Int) < 128) = false := by simp; omega
  have e1 : decide ((x.toNat : Int) < 194) = false := by simp; omega
  have e2 : decide ((x.toNat : Int) < 224) = false := by simp; omega
  have e3 : decide ((x.toNat : Int) < 240) = false := by simp; omega
  have e4 : decide ((x.toNat : Int) < 245) = false := by simp; omega
  clear hu hv
  refine VC.told ent_262 Tryz.func262 rfl Tryz.ntmps262 (by simp) (by first | rfl | simp [AV.pureB, AV.pureL, pureL_c, pures]) (by first | rfl | simp [AV.pureB, AV.pureL, pureL_c, pures]) fun hb => ?_
  clear hb
  refine walkBF (And.intro e0 (And.intro e1 (And.intro e2 (And.intro e3 e4)))) ?_
  refine ⟨by first | exact .inr rfl | exact .inl rfl, ?_⟩; rw [Tryz.results262]; simp only [resOk, resV, go_sem, simprocAttr]
  exact ⟨.c _, .c _⟩
theorem ufirstV_told (x : UInt8) : Told Tryz.prog 262 [.c (.v (.int .u8 (x.toNat : Int)))] (.tup [.c (.v (.int .i64 (ufirst x : Int))), .c (.v (.int .i32 (ufv x : Int)))]) := by
  by_cases h0 : x.toNat < 128
  · exact ufirstV_told0 h0
  by_cases h1 : x.toNat < 194
  · exact ufirstV_told1 h0 h1
  by_cases h2 : x.toNat < 224
  · exact ufirstV_told2 h0 h1 h2
  by_cases h3 : x.toNat < 240
  · exact ufirstV_told3 h0 h1 h2 h3
  by_cases h4 : x.toNat < 245
  · exact ufirstV_told4 h0 h1 h2 h3 h4
  · exact ufirstV_told5 h0 h1 h2 h3 h4
set_option maxRecDepth 100000 in
set_option maxHeartbeats 800000 in
theorem utakeV_told (l : List UInt8) (p : Nat) (hp : p ≤ l.length) (hbig : l.length ≤ 9223372036854775000) : Told Tryz.prog 233 [.c (.sl 1 (bytePV l)), .c (.v (.int .i64 (p : Int)))] (.tup [.c (.v (.int .i32 (uvc l p : Int))), .c (.v (.int .i64 (unext l p : Int))), .c (.v (.int .i64 (uerr l p : Int)))]) := by
  have hlen : (bytePV l).length = l.length := by simp [bytePV]
  refine VC.told ent_233 Tryz.func233 rfl Tryz.ntmps233 (by simp) (by rfl) (by rfl) fun hb => ?_
  clear hb
  have e1 : ((p : Int) < 0) = False := eq_false (by omega)
  have e2 : ((p : Int) > (l.length : Int)) = False := eq_false (by omega)
  refine walkGF (And.intro e1 (And.intro e2 hlen)) ?_
  refine VC.condF (by rfl) (by trivial) ?_
  refine walkGF (hlen) ?_
  refine VC.cond (by rfl) (by trivial) (fun hc => ?_) (fun hc => ?_)
  · have he : p = l.length := by simp at hc; omega
    have hu : uerr l p = 10 := by unfold uerr; rw [if_neg (by omega)]
    have hn : unext l p = p := by unfold unext; rw [if_neg (by omega)]
    rw [hu, hn, show uvc l p = 0 from if_neg (by omega)]
    refine walkG ?_
    refine ⟨.inr rfl, ?_⟩
    rw [Tryz.results233]
    simp only [resOk, resV, go_sem, simprocAttr]
    exact ⟨.c _, .c _, .c _⟩
  have hlt : p < l.length := by simp at hc; omega
  clear hc
  have hfirst := ufirstV_told (byteAt l p)
  rw [show (ufv (byteAt l p) : Int) = (uval l p 0 : Int) from rfl] at hfirst
  have hat := pv_at hlt
  refine walkGF (And.intro hlen hat) ?_
  (refine AO.step fun K hK => ?_; simp only [go_sem, Int.reduceBEq, Int.reduceLE, Int.reduceLT, Int.reduceNeg, Nat.reduceAdd, Nat.reduceEqDiff, Nat.reduceLT, Nat.reduceLeDiff, Nat.reduceMul, Nat.reduceSub, reduceCtorEq, ↓reduceIte, hat]; (first | refine gsel_go ?_ | skip))
  refine .inl ⟨_, hfirst, hK _ _ _ ?_⟩
  clear hK K hfirst
  refine walkG ?_
  refine VC.cond (by rfl) (by trivial) (fun hc => ?_) (fun hc => ?_)
  · have hf : ufirst (byteAt l p) = 0 := by simp at hc; omega
    have hu : uerr l p = 11 := by unfold uerr; rw [if_pos hlt, if_pos hf]
    have hn : unext l p = p := by unfold unext; rw [if_neg (by omega)]
    rw [hu, hn, show uvc l p = 0 from if_neg (by omega)]
    refine walkG ?_
    refine ⟨.inr rfl, ?_⟩
    rw [Tryz.results233]
    simp only [resOk, resV, go_sem, simprocAttr]
    exact ⟨.c _, .c _, .c _⟩
  have hf : ufirst (byteAt l p) ≠ 0 := by simp at hc; omega
  clear hc
  have hue : uerr l p = ustat l p (ufirst (byteAt l p) - 1) := by unfold uerr; rw [if_pos hlt, if_neg hf]
  have hf4 : ufirst (byteAt l p) ≤ 4 := by unfold ufirst; repeat' split <;> try omega
  obtain ⟨n, hn⟩ : ∃ n, n = ufirst (byteAt l p) := ⟨_, rfl⟩
  have hul : ulen l p = n := hn.symm
  rw [← hn] at hf hf4 hue
  refine walkGF (hn.symm) ?_
  refine VC.loop (ι := {q : Nat // 1 ≤ q ∧ q ≤ n ∧ ustat l p (q - 1) = 0}) (fun q => [(0, .c (.sl 1 (bytePV l))), (1, .c (.v (.int .i64 (p : Int)))), (4, .c (.v (.int .i32 (uval l p (q.1 - 1) : Int)))), (7, .c (.v (.int .i64 (n : Int)))), (8, .c (.v (.int .i64 (q.1 : Int))))])
    (fun _ => []) 0 (fun q => n - q.1) ⟨1, Nat.le_refl _, by omega, rfl⟩ ?_ ?_
  · simp only [← hn, Weak, eq_self, used_is, sc_any, sc_c, sc_pp, sc_ref, sc_row, sc_agg, sc_fn, ScL, some_imp, List.forall_mem_map, go_sem, Int.reduceBEq, Int.reduceLE, Int.reduceLT, Int.reduceNeg, Nat.reduceAdd, Nat.reduceEqDiff, Nat.reduceLT, Nat.reduceLeDiff, Nat.reduceMul, Nat.reduceSub, reduceCtorEq, ↓reduceIte]
    all_goals first | rfl | exact cI (by omega)
  rintro ⟨i, hi1, hi2, hst⟩
  simp only [] at hi1 hi2 hst ⊢
  refine walkG ?_
  refine VC.cond (by rfl) (by trivial) (fun hc => ?_) (fun hc => ?_)
  · have hin : i < n := by simp at hc; omega
    clear hc
    have hw1 : IntKind.i64.wrap ((p : Int) + (i : Int)) = (p : Int) + (i : Int) := wrap64_id (by omega) (by omega)
    have hw2 : IntKind.i64.wrap ((i : Int) + 1) = (i : Int) + 1 := wrap64_id (by omega) (by omega)
    refine walkGF (And.intro hlen hw1) ?_
    refine VC.cond (by rfl) (by trivial) (fun hc => ?_) (fun hc => ?_)
    · have hpi : p + i = l.length := by simp at hc; omega
      have hsp : ustep l p i = 10 := by unfold ustep; rw [if_neg (by omega)]
      have hu : uerr l p = 10 := by rw [hue, ustat_bad hi1 hin hst (by omega), hsp]
      have hnx : unext l p = p := by unfold unext; rw [if_neg (by omega)]
      rw [hu, hnx, show uvc l p = 0 from if_neg (by omega)]
      refine walkG ?_
      refine ⟨.inr rfl, ?_⟩
      rw [Tryz.results233]
      simp only [resOk, resV, go_sem, simprocAttr]
      exact ⟨.c _, .c _, .c _⟩
    have hpi : p + i < l.length := by
      have : p + i ≠ l.length := by simp at hc; omega
      have hall : p + i ≤ l.length := by
        have h0 := hst
        cases hi : i with
        | zero => omega
        | succ k =>
          rw [hi] at h0
          cases k with
          | zero => omega
          | succ k =>
            simp only [Nat.add_sub_cancel, ustat] at h0
            split at h0
            · unfold ustep at h0
              split at h0
              · omega
              · simp at h0
            · rename_i h1; exact absurd h0 h1
      omega
    clear hc
    have hat2 := pv_at hpi
    have hti : ((p : Int) + (i : Int)).toNat = p + i := by omega
    have hsec := usec_told (byteAt l p) (byteAt l (p + i))
    have hcb := cont_bit (byteAt l (p + i))
    (try simp only [go_sem, Int.reduceBEq, Int.reduceLE, Int.reduceLT, Int.reduceNeg, Nat.reduceAdd, Nat.reduceEqDiff, Nat.reduceLT, Nat.reduceLeDiff, Nat.reduceMul, Nat.reduceSub, reduceCtorEq, ↓reduceIte] at hcb)
    refine walkGF (And.intro hlen (And.intro hw1 (And.intro hti (And.intro hat2 (And.intro hat hcb))))) ?_
    (refine AO.step fun K hK => ?_; simp only [go_sem, Int.reduceBEq, Int.reduceLE, Int.reduceLT, Int.reduceNeg, Nat.reduceAdd, Nat.reduceEqDiff, Nat.reduceLT, Nat.reduceLeDiff, Nat.reduceMul, Nat.reduceSub, reduceCtorEq, ↓reduceIte, hat, hcb]; (first | refine gsel_go ?_ | skip))
    refine .inl ⟨_, fun _ => hsec, hK _ _ _ ?_⟩
    clear hK K hsec
    refine walkG ?_
    refine VC.cond (by rfl) (by trivial) (fun hc => ?_) (fun hc => ?_)
    · have hsp : ustep l p i = 11 := by
        unfold ustep
        rw [if_pos hpi, if_neg]
        simp at hc
        rintro ⟨g1, g2⟩
        rcases hc with hc | hc
        · simp [hc] at g1
        · have := g2 (by omega)
          simp_all
      have hu : uerr l p = 11 := by rw [hue, ustat_bad hi1 hin hst (by omega), hsp]
      have hnx : unext l p = p := by unfold unext; rw [if_neg (by omega)]
      rw [hu, hnx, show uvc l p = 0 from if_neg (by omega)]
      refine walkG ?_
      refine ⟨.inr rfl, ?_⟩
      rw [Tryz.results233]
      simp only [resOk, resV, go_sem, simprocAttr]
      exact ⟨.c _, .c _, .c _⟩
    · have hsp : ustep l p i = 0 := by
        unfold ustep
        rw [if_pos hpi, if_pos]
        simp at hc
        refine ⟨hc.1, fun h1 => ?_⟩
        exact hc.2 (by omega)
      have hst2 : ustat l p i = 0 := by
        cases hi : i with
        | zero => omega
        | succ k =>
          rw [hi] at hst hsp
          exact ustat_next (by simpa using hst) hsp
      clear hc
      have hfl : n ≤ 4 := hf4
      have hv : uval l p i = uval l p (i - 1) * 64 + (byteAt l (p + i)).toNat % 64 := by
        obtain ⟨k, rfl⟩ : ∃ k, i = k + 1 := ⟨i - 1, by omega⟩
        rfl
      have hvl : uval l p (i - 1) < 524288 := by
        have g1 := uvalV_lt l p (i - 1)
        have g2 : (64 : Nat) ^ (i - 1) ≤ 64 ^ 2 := Nat.pow_le_pow_right (by omega) (by omega)
        omega
      have hy := (byteAt l (p + i)).toNat_lt
      generalize uval l p (i - 1) = v at *
      generalize (byteAt l (p + i)).toNat = y at *
      have hm := and63 y hy
      have g1 : IntKind.i32.wrap ((v : Int) * 2 ^ min (Int.toNat 6) 32) = ((v * 64 : Nat) : Int) := by
        rw [show (2 : Int) ^ min (Int.toNat 6) 32 = 64 from rfl, IntKind.wrap_i32]
        omega
      have g2 : IntKind.i32.wrap ((y % 64 : Nat) : Int) = ((y % 64 : Nat) : Int) := by rw [IntKind.wrap_i32]; omega
      have g3 := or63 v (y % 64) hvl (Nat.mod_lt _ (by omega))
      rw [← hv] at g3
      (try simp only [go_sem, Int.reduceBEq, Int.reduceLE, Int.reduceLT, Int.reduceNeg, Nat.reduceAdd, Nat.reduceEqDiff, Nat.reduceLT, Nat.reduceLeDiff, Nat.reduceMul, Nat.reduceSub, reduceCtorEq, ↓reduceIte] at hm)
      (try simp only [go_sem, Int.reduceBEq, Int.reduceLE, Int.reduceLT, Int.reduceNeg, Nat.reduceAdd, Nat.reduceEqDiff, Nat.reduceLT, Nat.reduceLeDiff, Nat.reduceMul, Nat.reduceSub, reduceCtorEq, ↓reduceIte] at g3)
      refine walkGF (And.intro hw2 (And.intro hm (And.intro g1 (And.intro g2 g3)))) ?_
      refine .next ⟨i + 1, by omega, by omega, by simpa using hst2⟩ ?_ (by simp only []; omega)
      simp only [Nat.add_sub_cancel, Weak, eq_self, used_is, sc_any, sc_c, sc_pp, sc_ref, sc_row, sc_agg, sc_fn, ScL, some_imp, List.forall_mem_map, go_sem, Int.reduceBEq, Int.reduceLE, Int.reduceLT, Int.reduceNeg, Nat.reduceAdd, Nat.reduceEqDiff, Nat.reduceLT, Nat.reduceLeDiff, Nat.reduceMul, Nat.reduceSub, reduceCtorEq, ↓reduceIte]
      exact cI (by omega)
  · have hin : i = n := by simp at hc; omega
    subst hin
    have hu : uerr l p = 0 := by rw [hue, hst]
    have hnx : unext l p = p + i := by unfold unext; rw [if_pos hu, hul]
    have hbd := ulen_bound hu
    have hw1 : IntKind.i64.wrap ((p : Int) + (i : Int)) = ((p + i : Nat) : Int) := by rw [wrap64_id (by omega) (by omega)]; omega
    have huv : uvc l p = uval l p (i - 1) := by unfold uvc; rw [if_pos hu, hul]
    rw [hu, hnx, huv]
    refine walkGF (hw1) ?_
    refine ⟨.inr rfl, ?_⟩
    rw [Tryz.results233]
    simp only [resOk, resV, go_sem, simprocAttr]
    exact ⟨.c _, .c _, .c _⟩
section
section
variable {P : Program} {N : Nat} {Q : Exit → ASt → Prop}
theorem VC.nilH {c : Code} {t : Nat → AV} {h : Nat → Option Blkd} {n : Nat} (j o : Nat) (T : TypeId) (z : Nat) (B : Blkd) (e : List AV) (hB : h j = some B) (hrow : B.row = false) (he : B.elems = [e]) (ho : e[o]? = some (.c (.v (.slice none 0 0)))) (hn : Nat.ble (n + 1) L0 = true)
    (hv : VC P N c ⟨t, upd (upd h n (some ⟨true, T, z, []⟩)) j (some ⟨false, B.T, B.z, [e.set o (.row n 0)]⟩), n + 8⟩ Q) : VC P N c ⟨t, h, n⟩ Q := ⟨fun C a W r => by
  obtain ⟨ro, φ, r⟩ := r
  have hn := Nat.le_of_ble_eq_true hn
  have hnu : ¬ Used n n := fun hu => by unfold Used at hu; omega
  have hjn : j ≠ n := fun e => hnu (e ▸ (r.scH j B hB).1)
  have r2 : Rel C (fun j => Used n j ∨ j = n) N t (upd h n (some ⟨true, T, z, []⟩)) ro (upd φ n (.slice none 0 0)) a W :=
    r.block (W' := W) (Keeps.refl _ _) (fun b hb => by simp [blkOf] at hb) (.inr hnu)
      ⟨fun i e he => by simp at he, fun e he => by simp at he, [], ⟨rfl, fun j x v hx => by simp at hx⟩, by rw [if_pos rfl, upd_same]; exact World.ownsRow_nil W 0 T z⟩ (fun e he => by simp at he)
  have r3 := r2.take (used' := Used (n + 8)) fun j hj => by
    unfold Used at hj ⊢
    omega
  have hB3 : upd h n (some ⟨true, T, z, []⟩) j = some B := by rw [upd_ne _ _ hjn]; exact hB
  obtain ⟨b1, b2, vs, b3, b4⟩ := r3.hp j B hB3
  have helen : e.length = B.z := b1 0 e (by rw [he]; rfl)
  have hol := (List.getElem?_eq_some_iff.1 ho).1
  rw [he, List.flatten_cons, List.flatten_nil, List.append_nil] at b3
  have hg : ∀ k B', Used (n + 8) k → upd (upd h n (some ⟨true, T, z, []⟩)) j (some ⟨false, B.T, B.z, [e.set o (.row n 0)]⟩) k = some B' → ∃ B0, upd h n (some ⟨true, T, z, []⟩) k = some B0 ∧ (B0.len < B'.len ∨ (B0.len = B'.len ∧ B0.z = B'.z ∧ upd (upd φ n (.slice none 0 0)) j (upd φ n (.slice none 0 0) j) k = upd φ n (.slice none 0 0) k)) := by
    intro k B' hk hB'
    by_cases hkj : k = j
    · subst hkj
      rw [upd_same] at hB'
      obtain rfl := Option.some.inj hB'
      exact ⟨B, hB3, .inr ⟨by unfold Blkd.len; rw [he]; rfl, rfl, by rw [upd_same]⟩⟩
    · rw [upd_ne _ _ hkj] at hB'
      exact ⟨B', hB', .inr ⟨rfl, rfl, upd_ne _ _ hkj⟩⟩
  have hnew : ∀ (i : Nat) (x : AV), (e.set o (.row n 0))[i]? = some x → (i = o ∧ x = .row n 0) ∨ (i ≠ o ∧ e[i]? = some x) := by
    intro i x hx
    by_cases hio : i = o
    · subst hio
      rw [List.getElem?_set_self hol] at hx
      exact .inl ⟨rfl, (Option.some.inj hx).symm⟩
    · rw [List.getElem?_set_ne (fun e => hio e.symm)] at hx
      exact .inr ⟨hio, hx⟩
  have hrow0 : ∀ v : Value, v = .slice none 0 0 → Rep W ro (upd (upd φ n (.slice none 0 0)) j (upd φ n (.slice none 0 0) j)) (upd (upd h n (some ⟨true, T, z, []⟩)) j (some ⟨false, B.T, B.z, [e.set o (.row n 0)]⟩)) (.row n 0) v := by
    rintro v rfl
    refine .row rfl fun B' hB' _ => ?_
    rw [upd_ne _ _ (fun e => hjn e.symm), upd_same]
  have hscn : Sc (fun k => Used (n + 8) k ∨ k = j) (upd (upd h n (some ⟨true, T, z, []⟩)) j (some ⟨false, B.T, B.z, [e.set o (.row n 0)]⟩)) (.row n 0) := by
    refine .row (.inl (by unfold Used; omega)) fun B' hB' => Nat.zero_le _
  have r4 := r3.block (W' := W) (ℓ := j) (B := ⟨false, B.T, B.z, [e.set o (.row n 0)]⟩) (v := upd φ n (.slice none 0 0) j) (Keeps.refl _ _) (fun b hb => .inr ⟨B, hB3, hb⟩)
    (.inl ⟨B, hB3, .inr ⟨by unfold Blkd.len; rw [he]; rfl, rfl, rfl⟩⟩)
    ⟨fun i e' he' => by
        match i, he' with
        | 0, he' => obtain rfl := Option.some.inj he'; simpa using helen,
      fun e' he' x hx => by
        obtain rfl := List.mem_singleton.1 he'
        obtain ⟨i, hi, hxi⟩ := List.getElem_of_mem hx
        rcases hnew i x (by rw [List.getElem?_eq_getElem hi, hxi]) with ⟨_, rfl⟩ | ⟨_, h5⟩
        · rfl
        · exact b2 e (by rw [he]; exact List.mem_singleton.2 rfl) x (List.mem_of_getElem? h5),
      vs, by
        refine ⟨by simpa using b3.1, fun i x v hx hvv => ?_⟩
        simp only [List.flatten_cons, List.flatten_nil, List.append_nil] at hx
        rcases hnew i x hx with ⟨rfl, rfl⟩ | ⟨_, h5⟩
        · exact hrow0 v (rep_prim (b3.2 i _ v ho hvv))
        · exact (b3.2 i x v h5 hvv).map ((r3.scH j B hB3).2 e (by rw [he]; exact List.mem_singleton.2 rfl) x (List.mem_of_getElem? h5)) (fun _ _ => rfl) (fun _ h => h) hg, by
        rw [if_neg (by simp)]
        rw [if_neg (by simp [hrow])] at b4
        rw [upd_same]
        exact b4⟩
    (fun e' he' x hx => by
      obtain rfl := List.mem_singleton.1 he'
      obtain ⟨i, hi, hxi⟩ := List.getElem_of_mem hx
      rcases hnew i x (by rw [List.getElem?_eq_getElem hi, hxi]) with ⟨_, rfl⟩ | ⟨_, h5⟩
      · exact hscn
      · refine ((r3.scH j B hB3).2 e (by rw [he]; exact List.mem_singleton.2 rfl) x (List.mem_of_getElem? h5)).map (fun k hk => .inl hk) fun k B' hk hB' => ?_
        obtain ⟨B0, h6, h7⟩ := hg k B' hk hB'
        exact ⟨B0, h6, by rcases h7 with h7 | h7 <;> omega⟩)
  have r5 := r4.take (used' := Used (n + 8)) fun k hk => by
    rcases hk with hk | rfl
    · exact hk
    · have := (r.scH k B hB).1
      unfold Used at this ⊢
      simp only [] at this
      omega
  exact hv.out C a W ⟨ro, _, r5⟩⟩
end
end

def bA (l : List UInt8) : List (List AV) := l.map fun b => [AV.c (.v (.int .u8 (b.toNat : Int)))]
theorem bA_len (l : List UInt8) : (bA l).length = l.length := by simp [bA]
theorem bA_one (l : List UInt8) (x : UInt8) : bA l ++ [[AV.c (.v (.int .u8 (x.toNat : Int)))]] = bA (l ++ [x]) := by simp [bA]
theorem bA_nil : bA [] = [] := rfl
theorem bA_sc {used : Nat → Prop} {h : Nat → Option Blkd} (l : List UInt8) : (∀ e ∈ bA l, ∀ x ∈ e, Sc used h x) = True := eq_true fun e he x hx => by
  obtain ⟨b, _, rfl⟩ := List.mem_map.1 he
  simp at hx
  subst hx
  exact .c
def bB (l : List UInt8) : Blkd := ⟨true, 5, 1, bA l⟩

theorem compK_told (k : Int) : Told Tryz.prog 100 [.c (.v (.int .i64 k))] (.c (.v (.bool (compK k)))) := by
  obtain ⟨V, hV⟩ : ∃ V, V = compK k := ⟨_, rfl⟩
  rw [← hV]
  unfold compK at hV
  replace hV := Lib.hid hV
  refine VC.told ent_100 Tryz.func100 rfl Tryz.ntmps100 (by simp) (by first | rfl | simp [AV.pureB, AV.pureL, pureL_c, pures]) (by first | rfl | simp [AV.pureB, AV.pureL, pureL_c, pures]) fun hb => ?_
  clear hb
  refine walkG ?_
  refine ⟨by first | exact .inr rfl | exact .inl rfl, ?_⟩; rw [Tryz.results100]; simp only [resOk, resV, go_sem, simprocAttr]
  rw [hV.out]
  exact .c _
theorem frz_v {K : Nat → Bool} {h : Nat → Option Blkd} (k n b : Int) : Frz K h (.agg [.c (.v (.int .i64 k)), .c (.v (.int .i64 n)), .c (.v (.int .u64 b)), .c (.v (.slice none 0 0)), .c (.v (.slice none 0 0)), .c (.v (.slice none 0 0))]) (VT.mk k n b [] [] []).av := by
  rw [VT.av_eq, vcells_mk]
  exact Frz.aggL (.cons (.c _) (.cons (.c _) (.cons (.c _) (.cons (.nil 1) (.cons (.nil 6) (.cons (.nil 1) .nil))))))
theorem jcells_acc (j : JT) : j.cells = [.v (.int .i64 j.kd), .v (.int .i64 j.num), .v (.string (str j.txt)), .sl 5 (j.its.map JT.cells), .sl 1 (j.keys.map sPV)] := by
  cases j with
  | mk k n s ks xs =>
    rw [cells_mk]
    rfl
set_option maxRecDepth 100000 in
set_option maxHeartbeats 1600000 in
theorem number13_told (k : Int) (hk : k = 3 ∨ k = 4 ∨ k = 5 ∨ k = 6) (j : JT) (hi : j.inr) (hj : rshape j = true) : Told Tryz.prog 101 [.c (.v (.int .i64 k)), j.av] (.tup [(numS k j).1.av, .c (.v (.bool (numS k j).2))]) := by
  obtain ⟨_, _, i1, i2⟩ := rshape_acc hj hi
  unfold numS
  rw [JT.av_eq, jcells_acc]
  generalize j.its = its
  generalize j.keys = keys
  generalize j.txt = txt
  generalize j.kd = kd at *
  generalize j.num = num at *
  have hD := pdouble_told num i1 i2
  have hF := pfloat_told num i1 i2
  have hFl := fltM_lt num i1 i2
  generalize dblM num = D at *
  generalize fltM num = F at *
  have hw : IntKind.u64.wrap (F : Int) = (F : Int) := by rw [IntKind.wrap_u64]; omega
  rcases hk with rfl | rfl | rfl | rfl
  · rw [if_pos rfl]
    obtain ⟨b1, h1⟩ : ∃ b : Bool, b = (kd == 3) := ⟨_, rfl⟩
    obtain ⟨b2, h2⟩ : ∃ b : Bool, b = decide (num ≥ -2147483648) := ⟨_, rfl⟩
    obtain ⟨b3, h3⟩ : ∃ b : Bool, b = decide (num ≤ 2147483647) := ⟨_, rfl⟩
    rw [show decide (-2147483648 ≤ num) = decide (num ≥ -2147483648) from rfl, ← h1, ← h2, ← h3]
    cases b1 <;> cases b2 <;> cases b3
    all_goals
      refine VC.told ent_101 Tryz.func101 rfl Tryz.ntmps101 (by simp) (by first | rfl | simp [AV.pureB, AV.pureL, pureL_c, pures]) (by first | rfl | simp [AV.pureB, AV.pureL, pureL_c, pures]) fun hb => ?_
      clear hb
      refine walkBF (And.intro h1.symm (And.intro h2.symm h3.symm)) ?_
      refine ⟨by first | exact .inr rfl | exact .inl rfl, ?_⟩; rw [Tryz.results101]; simp only [resOk, resV, go_sem, simprocAttr]
      exact ⟨frz_v _ _ _, .c _⟩
  · rw [if_neg (by decide), if_pos rfl]
    refine VC.told ent_101 Tryz.func101 rfl Tryz.ntmps101 (by simp) (by first | rfl | simp [AV.pureB, AV.pureL, pureL_c, pures]) (by first | rfl | simp [AV.pureB, AV.pureL, pureL_c, pures]) fun hb => ?_
    clear hb
    refine walkB ?_
    refine ⟨by first | exact .inr rfl | exact .inl rfl, ?_⟩; rw [Tryz.results101]; simp only [resOk, resV, go_sem, simprocAttr]
    exact ⟨frz_v _ _ _, .c _⟩
  · rw [if_neg (by decide), if_neg (by decide), if_pos rfl]
    refine VC.told ent_101 Tryz.func101 rfl Tryz.ntmps101 (by simp) (by first | rfl | simp [AV.pureB, AV.pureL, pureL_c, pures]) (by first | rfl | simp [AV.pureB, AV.pureL, pureL_c, pures]) fun hb => ?_
    clear hb
    refine walkB ?_
    refine walkC (hF) ?_
    refine walkBF (hw) ?_
    refine ⟨by first | exact .inr rfl | exact .inl rfl, ?_⟩; rw [Tryz.results101]; simp only [resOk, resV, go_sem, simprocAttr]
    exact ⟨frz_v _ _ _, .c _⟩
  · rw [if_neg (by decide), if_neg (by decide), if_neg (by decide)]
    refine VC.told ent_101 Tryz.func101 rfl Tryz.ntmps101 (by simp) (by first | rfl | simp [AV.pureB, AV.pureL, pureL_c, pures]) (by first | rfl | simp [AV.pureB, AV.pureL, pureL_c, pures]) fun hb => ?_
    clear hb
    refine walkB ?_
    refine walkC (hD) ?_
    refine walkB ?_
    refine ⟨by first | exact .inr rfl | exact .inl rfl, ?_⟩; rw [Tryz.results101]; simp only [resOk, resV, go_sem, simprocAttr]
    exact ⟨frz_v _ _ _, .c _⟩
set_option maxRecDepth 100000 in
set_option maxHeartbeats 1600000 in
theorem latin_told (s : List UInt8) (hs : s.length ≤ 1000000) : Told Tryz.prog 182 [.c (.v (.string (str s)))] (.tup [.c (.sl 1 (bytePV ((latF s 0).getD []))), .c (.v (.bool (latF s 0).isSome))]) := by
  have hlen : (bytePV s).length = s.length := by simp [bytePV]
  have hbs : bytePV (str s).data.toList = bytePV s := by rw [str_dl]
  obtain ⟨V, hV⟩ : ∃ V, V = latF s 0 := ⟨_, rfl⟩
  rw [← hV]
  refine VC.told ent_182 Tryz.func182 rfl Tryz.ntmps182 (by simp) (by first | rfl | simp [AV.pureB, AV.pureL, pureL_c, pures]) (by first | rfl | simp [AV.pureB, AV.pureL, pureL_c, pures]) fun hb => ?_
  clear hb
  refine walkGF (And.intro @str_size hbs) ?_
  refine VC.nil 5 5 1 (by rfl) (by trivial) (by rfl) ?_
  refine VC.loop (ι := {q : Nat × List UInt8 // q.1 ≤ s.length ∧ q.2.length ≤ q.1 ∧ V = (latF s q.1).map (q.2 ++ ·) ∧ (q.2 = [] → q.1 = 0)}) (fun q => [(0, .c (.v (.string (str s)))), (4, .c (.sl 1 (bytePV s))), (5, .row 56 q.1.2.length), (6, .c (.v (.int .i64 (q.1.1 : Int))))])
    (fun q => [(56, ⟨true, 5, 1, bA q.1.2⟩)]) 200 (fun q => s.length - q.1.1) ⟨(0, []), Nat.zero_le _, Nat.le_refl _, by rw [hV]; cases latF s 0 <;> rfl, fun _ => rfl⟩ ?_ ?_
  · simp only [bA_len, bA_sc, bA_nil, Weak, eq_self, used_is, sc_any, sc_c, sc_pp, sc_ref, sc_row, sc_agg, sc_fn, ScL, some_imp, List.forall_mem_map, go_sem, Int.reduceBEq, Int.reduceLE, Int.reduceLT, Int.reduceNeg, Nat.reduceAdd, Nat.reduceEqDiff, Nat.reduceLT, Nat.reduceLeDiff, Nat.reduceMul, Nat.reduceSub, reduceCtorEq, ↓reduceIte]
    all_goals first | rfl | simp [bA]
  rintro ⟨⟨p, o⟩, hp, hol, hVp, hoe⟩
  simp only [] at hp hol hVp hoe ⊢
  by_cases hlt : p < s.length
  rotate_left
  · have e0 : decide ((p : Int) < (s.length : Int)) = false := by simp; omega
    have hVo : V = some o := by
      rw [hVp, latF_end hlt]
      simp
    by_cases ho : o = []
    · have : p = 0 := hoe ho
      obtain rfl : s = [] := List.eq_nil_of_length_eq_zero (by omega)
      subst ho
      refine walkGF (And.intro hlen e0) ?_
      refine VC.condF (by rfl) (by trivial) ?_
      refine walkGF (@bA_len) ?_
      refine ⟨by first | exact .inr rfl | exact .inl rfl, ?_⟩; rw [Tryz.results182]; simp only [resOk, resV, go_sem, simprocAttr]
      rw [hVo]
      exact ⟨frz_rA (f := fun b : UInt8 => [PV.v (.int .u8 (b.toNat : Int))]) (l := []) (T := 5) rfl rfl rfl (by simp), frz_c (by rw [str_toList, show (⟨#[]⟩ : ByteArray).toList = [] from str_toList []]; rfl)⟩
    · have hpos : 0 < o.length := List.length_pos_iff.2 ho
      have e1 : decide ((o.length : Int) > 0) = true := by simp; omega
      refine walkGF (And.intro hlen e0) ?_
      refine VC.condF (by rfl) (by trivial) ?_
      refine walkGF (And.intro @bA_len e1) ?_
      refine ⟨by first | exact .inr rfl | exact .inl rfl, ?_⟩; rw [Tryz.results182]; simp only [resOk, resV, go_sem, simprocAttr]
      rw [hVo]
      exact ⟨frz_rA (f := fun b : UInt8 => [PV.v (.int .u8 (b.toNat : Int))]) (l := o) (T := 5) rfl rfl rfl (by simp), .c _⟩
  have e0 : decide ((p : Int) < (s.length : Int)) = true := by simp; omega
  have hT := utakeV_told s p hp (by omega)
  by_cases hu : uerr s p = 0
  rotate_left
  · rw [latF_bad hlt hu] at hVp
    replace hVp : V = none := hVp
    have e1 : ((uerr s p : Int) != 0) = true := by simp; omega
    generalize uvc s p = uc at *
    generalize unext s p = nx at *
    generalize uerr s p = ue at *
    refine walkBF (And.intro hlen e0) ?_
    refine walkC (hT) ?_
    refine walkBF (e1) ?_
    refine ⟨by first | exact .inr rfl | exact .inl rfl, ?_⟩; rw [Tryz.results182]; simp only [resOk, resV, go_sem, simprocAttr]
    rw [hVp]
    exact ⟨.nil 1, .c _⟩
  have hbd := ulen_bound hu
  have hnx : unext s p = p + ulen s p := by unfold unext; rw [if_pos hu]
  have huc : uvc s p = uchr s p := by unfold uvc uchr; rw [if_pos hu]
  rw [latF_next hlt hu] at hVp
  rw [hu, hnx, huc] at hT
  generalize uchr s p = c at *
  by_cases hc : c ≤ 255
  · have e1 : decide ((c : Int) > 255) = false := by simp; omega
    have g1 : IntKind.u8.wrap (c : Int) = ((UInt8.ofNat c).toNat : Int) := by
      rw [UInt8.toNat_ofNat', IntKind.wrap_u8]
      omega
    have hone : bA o ++ [[AV.c (.v (.int .u8 ((UInt8.ofNat c).toNat : Int)))]] = bA (o ++ [UInt8.ofNat c]) := bA_one o _
    rw [if_pos hc] at hVp
    generalize UInt8.ofNat c = x at *
    obtain ⟨o2, ho2⟩ : ∃ o2, o2 = o ++ [x] := ⟨_, rfl⟩
    have hl2 : o.length + 1 = o2.length := by rw [ho2]; simp
    rw [← ho2] at hone
    have hV2 : V = (latF s (p + ulen s p)).map (o2 ++ ·) := by
      rw [hVp, ho2]
      cases latF s (p + ulen s p) with
      | none => rfl
      | some r => simp
    refine walkBF (And.intro hlen e0) ?_
    refine walkC (hT) ?_
    refine walkBF (And.intro e1 (And.intro g1 (And.intro @bA_len (And.intro hone hl2)))) ?_
    refine .next ⟨(p + ulen s p, o2), hbd.2, by simp only []; omega, hV2, fun h => by replace h : o2 = [] := h; rw [h] at hl2; simp at hl2⟩ ?_ (by simp only []; omega)
    simp only [bA_len, bA_sc, Weak, eq_self, used_is, sc_any, sc_c, sc_pp, sc_ref, sc_row, sc_agg, sc_fn, ScL, some_imp, List.forall_mem_map, go_sem, Int.reduceBEq, Int.reduceLE, Int.reduceLT, Int.reduceNeg, Nat.reduceAdd, Nat.reduceEqDiff, Nat.reduceLT, Nat.reduceLeDiff, Nat.reduceMul, Nat.reduceSub, reduceCtorEq, ↓reduceIte]
    all_goals first | rfl | exact ⟨rfl, Nat.le_refl _⟩ | exact Nat.le_refl _
  · have e1 : decide ((c : Int) > 255) = true := by simp; omega
    rw [if_neg hc] at hVp
    replace hVp : V = none := hVp
    have hne : ((str s).toList == (⟨#[]⟩ : ByteArray).toList) = false := by
      rw [str_toList, show (⟨#[]⟩ : ByteArray).toList = [] from str_toList []]
      cases s with
      | nil => simp at hlt
      | cons a b => rfl
    refine walkBF (And.intro hlen e0) ?_
    refine walkC (hT) ?_
    refine walkBF (e1) ?_
    refine ⟨by first | exact .inr rfl | exact .inl rfl, ?_⟩; rw [Tryz.results182]; simp only [resOk, resV, go_sem, simprocAttr]
    rw [hVp]
    exact ⟨.nil 1, frz_c (by rw [hne]; rfl)⟩

theorem cut_mant (neg : Bool) (u d : Nat) (h0 : u ≠ 0) (h64 : u.log2 < 64) : Ieee.Toward.even.cut neg (u <<< (d - u.log2)) (u.log2 - d) = mantM u d := by
  have hb : nBits u - 1 = u.log2 := by unfold nBits; rw [if_neg h0]; omega
  unfold Ieee.Toward.cut mantM
  rw [hb]
  by_cases h : u.log2 ≤ d
  · rw [if_pos h, show u.log2 - d = 0 by omega, ← Nat.shiftLeft_eq]
    generalize u <<< (d - u.log2) = z
    have hg : (1 : Nat) <<< min 0 (z.log2 + 2) = 1 := by
      rw [Nat.zero_min]
      rfl
    simp only [hg, Nat.div_one, Nat.mod_one]
    simp
  · rw [if_neg h, show d - u.log2 = 0 by omega]
    obtain ⟨k, hk⟩ : ∃ k, u.log2 - d = k + 1 := ⟨u.log2 - d - 1, by omega⟩
    have e1 : (1 : Nat) <<< min (k + 1) ((u <<< 0).log2 + 2) = 2 ^ (k + 1) := by
      rw [Nat.shiftLeft_eq, Nat.one_mul, Nat.shiftLeft_zero, Nat.min_eq_left (by omega)]
    rw [hk]
    simp only [e1]
    have h2 : (2 : Nat) ^ (k + 1) = 2 * 2 ^ k := by rw [Nat.pow_succ]; omega
    unfold roundM
    rw [if_neg (by omega), Nat.add_sub_cancel, Nat.shiftLeft_zero]
    rw [if_neg (show ¬ 64 < k + 1 by omega)]
    · generalize u / 2 ^ (k + 1) = low
      generalize hr : u % 2 ^ (k + 1) = rest
      rw [h2]
      generalize 2 ^ k = g
      by_cases c : g < rest ∨ rest = g ∧ low % 2 = 1
      · rw [if_pos c]
        have : (decide (2 * g < 2 * rest) || (2 * g == 2 * rest && low % 2 == 1)) = true := by
          simp only [Bool.or_eq_true, decide_eq_true_eq, Bool.and_eq_true, beq_iff_eq]
          omega
        rw [this]
        rfl
      · rw [if_neg c]
        have : (decide (2 * g < 2 * rest) || (2 * g == 2 * rest && low % 2 == 1)) = false := by
          rw [Bool.eq_false_iff]
          simp only [ne_eq, Bool.or_eq_true, decide_eq_true_eq, Bool.and_eq_true, beq_iff_eq]
          omega
        rw [this]
        rfl
theorem dbl_near (n : Int) (h1 : -9223372036854775808 ≤ n) (h2 : n ≤ 9223372036854775807) : FloatKind.nearest .f64 n = dblM n := by
  show Ieee.double.nearest (decide (n < 0)) n.natAbs 0 = dblM n
  unfold dblM bitsM Ieee.Format.nearest
  by_cases h0 : n = 0
  · subst h0
    rw [if_pos (show (0 : Int).natAbs = 0 from rfl), if_pos rfl]
    rfl
  have hu : n.natAbs ≠ 0 := by omega
  have hb : nBits n.natAbs - 1 = n.natAbs.log2 := by unfold nBits; rw [if_neg hu]; omega
  have hl : n.natAbs.log2 < 64 := (Nat.log2_lt hu).2 (by omega)
  have hm := mantM_le n.natAbs 52 hu
  have hc := cut_mant (decide (n < 0)) n.natAbs 52 hu hl
  rw [if_neg hu, if_neg h0, hb]
  have hf : (Ieee.double.fractionBits : Int) = 52 := rfl
  have hp : Ieee.double.leastPlace = -1074 := by decide
  have hB : Ieee.double.binade = 4503599627370496 := by decide
  have hI : Ieee.double.infRung = 9218868437227405312 := by decide
  have hS : Ieee.double.signWeight = 9223372036854775808 := by decide
  simp only []
  rw [hf, hp, hB, hI]
  generalize n.natAbs.log2 = L at *
  have e1 : max ((0 : Int) + (L : Int) - 52) (-1074) = (L : Int) - 52 := by omega
  rw [e1]
  have e2 : ((0 : Int) - ((L : Int) - 52)).toNat = 52 - L := by omega
  have e3 : ((L : Int) - 52 - 0).toNat = L - 52 := by omega
  have e4 : ((L : Int) - 52 - (-1074)).toNat = L + 1022 := by omega
  rw [e2, e3, e4, hc]
  generalize mantM n.natAbs 52 = m at *
  rw [show (2 : Nat) ^ (52 + 1) = 9007199254740992 from rfl] at hm
  rw [show (2 : Nat) ^ 52 = 4503599627370496 from rfl, Nat.min_eq_left (by omega), show 1023 + L - 1 = L + 1022 by omega]
  unfold Ieee.Format.word
  rw [hS]
  generalize (L + 1022) * 4503599627370496 = Q
  by_cases hn : n < 0
  · rw [decide_eq_true hn, if_pos rfl, if_pos hn, Nat.add_assoc]
  · rw [decide_eq_false hn, if_neg (by decide), if_neg hn, Nat.zero_add]
theorem flt_near (n : Int) (h1 : -9223372036854775808 ≤ n) (h2 : n ≤ 9223372036854775807) : FloatKind.nearest .f32 n = fltM n := by
  show Ieee.single.nearest (decide (n < 0)) n.natAbs 0 = fltM n
  unfold fltM bitsM Ieee.Format.nearest
  by_cases h0 : n = 0
  · subst h0
    rw [if_pos (show (0 : Int).natAbs = 0 from rfl), if_pos rfl]
    rfl
  have hu : n.natAbs ≠ 0 := by omega
  have hb : nBits n.natAbs - 1 = n.natAbs.log2 := by unfold nBits; rw [if_neg hu]; omega
  have hl : n.natAbs.log2 < 64 := (Nat.log2_lt hu).2 (by omega)
  have hm := mantM_le n.natAbs 23 hu
  have hc := cut_mant (decide (n < 0)) n.natAbs 23 hu hl
  rw [if_neg hu, if_neg h0, hb]
  have hf : (Ieee.single.fractionBits : Int) = 23 := rfl
  have hp : Ieee.single.leastPlace = -149 := by decide
  have hB : Ieee.single.binade = 8388608 := by decide
  have hI : Ieee.single.infRung = 2139095040 := by decide
  have hS : Ieee.single.signWeight = 2147483648 := by decide
  simp only []
  rw [hf, hp, hB, hI]
  generalize n.natAbs.log2 = L at *
  have e1 : max ((0 : Int) + (L : Int) - 23) (-149) = (L : Int) - 23 := by omega
  rw [e1]
  have e2 : ((0 : Int) - ((L : Int) - 23)).toNat = 23 - L := by omega
  have e3 : ((L : Int) - 23 - 0).toNat = L - 23 := by omega
  have e4 : ((L : Int) - 23 - (-149)).toNat = L + 126 := by omega
  rw [e2, e3, e4, hc]
  generalize mantM n.natAbs 23 = m at *
  rw [show (2 : Nat) ^ (23 + 1) = 16777216 from rfl] at hm
  rw [show (2 : Nat) ^ 23 = 8388608 from rfl, Nat.min_eq_left (by omega), show 127 + L - 1 = L + 126 by omega]
  unfold Ieee.Format.word
  rw [hS]
  generalize (L + 126) * 8388608 = Q
  by_cases hn : n < 0
  · rw [decide_eq_true hn, if_pos rfl, if_pos hn, Nat.add_assoc]
  · rw [decide_eq_false hn, if_neg (by decide), if_neg hn, Nat.zero_add]

theorem cvN_uval {l : List UInt8} {p n : Nat} (h : UForm l p n) : cvN l p n = (uval l p (n - 1) : Int) := by
  unfold UForm at h
  unfold cvN
  rcases h with ⟨rfl, h0, h1⟩ | ⟨rfl, h0, h1, h2, h3, h4⟩ | ⟨rfl, h0, h1, h2, h3, h4, h5, h6, h7, h8⟩ | ⟨rfl, h0, h1, h2, h3, h4, h5, h6, h7, h8, h9, h10⟩
  · have e : uval l p (1 - 1) = bN l p := by
      show ufv (byteAt l p) = _
      unfold ufv
      rw [if_pos (by unfold bN at h1; exact h1)]
      rfl
    rw [if_pos rfl, e]
  · have e : uval l p (2 - 1) = bN l p % 32 * 64 + bN l (p + 1) % 64 := by
      show ufv (byteAt l p) * 64 + (byteAt l (p + 1)).toNat % 64 = _
      unfold bN at h1 h2
      unfold ufv
      rw [if_neg (by omega), if_neg (by omega), if_pos (by omega)]
      rfl
    rw [if_neg (by decide), if_pos rfl, e]
    omega
  · have e : uval l p (3 - 1) = (bN l p % 16 * 64 + bN l (p + 1) % 64) * 64 + bN l (p + 2) % 64 := by
      show (ufv (byteAt l p) * 64 + (byteAt l (p + 1)).toNat % 64) * 64 + (byteAt l (p + 2)).toNat % 64 = _
      unfold bN at h1 h2
      unfold ufv
      rw [if_neg (by omega), if_neg (by omega), if_neg (by omega), if_pos (by omega)]
      rfl
    rw [if_neg (by decide), if_neg (by decide), if_pos rfl, e]
    omega
  · have e : uval l p (4 - 1) = ((bN l p % 8 * 64 + bN l (p + 1) % 64) * 64 + bN l (p + 2) % 64) * 64 + bN l (p + 3) % 64 := by
      show ((ufv (byteAt l p) * 64 + (byteAt l (p + 1)).toNat % 64) * 64 + (byteAt l (p + 2)).toNat % 64) * 64 + (byteAt l (p + 3)).toNat % 64 = _
      unfold bN at h1 h2
      unfold ufv
      rw [if_neg (by omega), if_neg (by omega), if_neg (by omega), if_neg (by omega), if_pos (by omega)]
      rfl
    rw [if_neg (by decide), if_neg (by decide), if_neg (by decide), e]
    omega
theorem wholeV_chr {l : List UInt8} {p : Nat} (h : uerr l p = 0) : wholeV l p = (uchr l p : Int) := by
  unfold wholeV uchr
  rw [if_pos h]
  exact cvN_uval (uerr_form h)
set_option maxRecDepth 100000 in
set_option maxHeartbeats 1600000 in
theorem rtakeV_told (l : List UInt8) (p : Nat) (hp : p ≤ l.length) (hbig : l.length ≤ 1000000) : ∃ v nx e : Int, Told Tryz.prog 191 [.c (.sl 1 (bytePV l)), .c (.v (.int .i64 (p : Int)))] (.tup [.c (.v (.int .i64 v)), .c (.v (.int .i64 nx)), .c (.v (.int .i64 e))]) ∧
    (uerr l p = 0 → e = 0 ∧ nx = (p : Int) + (ulen l p : Int) ∧ v = wholeV l p) ∧ (uerr l p ≠ 0 → e ≠ 0) := by
  have hlen : (bytePV l).length = l.length := by simp [bytePV]
  have hdr : ((bytePV l).take l.length).drop p = bytePV (l.drop p) := by rw [← hlen, List.take_length]; simp [bytePV, List.map_drop]
  have hW := rwhole_told (l.drop p) (by simp; omega)
  rw [wholeV_drop] at hW
  have e1 : decide ((p : Int) < 0) = false := by simp
  have e2 : decide ((p : Int) > (l.length : Int)) = false := by simp; omega
  obtain ⟨z, hz⟩ : ∃ z, z = wholeV l p := ⟨_, rfl⟩
  rw [← hz] at hW
  have hdl : (bytePV (l.drop p)).length = l.length - p := by simp [bytePV]
  by_cases hz0 : 0 ≤ z
  · obtain ⟨u1, u2, u3⟩ := wholeV_len (l := l) (p := p) (by omega)
    have hci := isChr_iff.1 u2
    obtain ⟨c, rfl⟩ : ∃ c : Nat, z = (c : Int) := ⟨z.toNat, by omega⟩
    rw [← hz] at u2 u3 hci
    rw [Int.toNat_natCast] at u3
    have hP := rput_told c (by omega)
    have e3 : decide ((c : Int) ≥ 0) = true := by simp
    have hul : (bytePV (uenc c)).length = (uenc c).length := by simp [bytePV]
    have hlb := uenc_len c
    have hw : IntKind.i64.wrap ((p : Int) + ((uenc c).length : Int)) = (p : Int) + ((uenc c).length : Int) := wrap64_id (by omega) (by omega)
    refine ⟨(c : Int), (p : Int) + ((uenc c).length : Int), 0, ?_, fun _ => ⟨rfl, by rw [u3], hz⟩, fun h => absurd u1 h⟩
    refine VC.told ent_191 Tryz.func191 rfl Tryz.ntmps191 (by simp) (by first | rfl | simp [AV.pureB, AV.pureL, pureL_c, pures]) (by first | rfl | simp [AV.pureB, AV.pureL, pureL_c, pures]) fun hb => ?_
    clear hb
    refine walkBF (And.intro hlen (And.intro e1 (And.intro e2 hdr))) ?_
    refine walkC (hW) ?_
    refine walkBF (e3) ?_
    refine walkC (hP) ?_
    refine walkGF (And.intro hul hw) ?_
    refine ⟨by first | exact .inr rfl | exact .inl rfl, ?_⟩; rw [Tryz.results191]; simp only [resOk, resV, go_sem, simprocAttr]
    exact ⟨.c _, .c _, .c _⟩
  · have hu : uerr l p ≠ 0 := by
      intro h
      have hf := uerr_form h
      have := wtest_n (form_test hf)
      have h2 := (isChr_iff (c := cvN l p (ulen l p))).1 (by
        have ht := form_test hf
        unfold wtest at ht
        simp only [Bool.and_eq_true] at ht
        exact ht.1)
      omega
    have e3 : decide (z ≥ 0) = false := by simp; omega
    have hws : IntKind.i64.wrap ((l.length : Int) - (p : Int)) = (l.length : Int) - (p : Int) := wrap64_id (by omega) (by omega)
    by_cases h4 : l.length - p < 4
    · have e4 : decide ((l.length : Int) - (p : Int) < 4) = true := by simp; omega
      obtain ⟨b, hB⟩ := rbegun_told (l.drop p) (by simp; omega)
      cases b with
      | true =>
        refine ⟨0, (p : Int), 10, ?_, fun h => absurd h hu, fun _ => by decide⟩
        refine VC.told ent_191 Tryz.func191 rfl Tryz.ntmps191 (by simp) (by first | rfl | simp [AV.pureB, AV.pureL, pureL_c, pures]) (by first | rfl | simp [AV.pureB, AV.pureL, pureL_c, pures]) fun hb => ?_
        clear hb
        refine walkBF (And.intro hlen (And.intro e1 (And.intro e2 hdr))) ?_
        refine walkC (hW) ?_
        refine walkBF (And.intro e3 (And.intro hws (And.intro e4 (And.intro hlen hdr)))) ?_
        refine walkC (hB) ?_
        refine walkB ?_
        refine ⟨by first | exact .inr rfl | exact .inl rfl, ?_⟩; rw [Tryz.results191]; simp only [resOk, resV, go_sem, simprocAttr]
        exact ⟨.c _, .c _, .c _⟩
      | false =>
        refine ⟨0, (p : Int), 11, ?_, fun h => absurd h hu, fun _ => by decide⟩
        refine VC.told ent_191 Tryz.func191 rfl Tryz.ntmps191 (by simp) (by first | rfl | simp [AV.pureB, AV.pureL, pureL_c, pures]) (by first | rfl | simp [AV.pureB, AV.pureL, pureL_c, pures]) fun hb => ?_
        clear hb
        refine walkBF (And.intro hlen (And.intro e1 (And.intro e2 hdr))) ?_
        refine walkC (hW) ?_
        refine walkBF (And.intro e3 (And.intro hws (And.intro e4 (And.intro hlen hdr)))) ?_
        refine walkC (hB) ?_
        refine walkB ?_
        refine ⟨by first | exact .inr rfl | exact .inl rfl, ?_⟩; rw [Tryz.results191]; simp only [resOk, resV, go_sem, simprocAttr]
        exact ⟨.c _, .c _, .c _⟩
    · have e4 : decide ((l.length : Int) - (p : Int) < 4) = false := by simp; omega
      refine ⟨0, (p : Int), 11, ?_, fun h => absurd h hu, fun _ => by decide⟩
      refine VC.told ent_191 Tryz.func191 rfl Tryz.ntmps191 (by simp) (by first | rfl | simp [AV.pureB, AV.pureL, pureL_c, pures]) (by first | rfl | simp [AV.pureB, AV.pureL, pureL_c, pures]) fun hb => ?_
      clear hb
      refine walkBF (And.intro hlen (And.intro e1 (And.intro e2 hdr))) ?_
      refine walkC (hW) ?_
      refine walkBF (And.intro e3 (And.intro hws (And.intro e4 hlen))) ?_
      refine ⟨by first | exact .inr rfl | exact .inl rfl, ?_⟩; rw [Tryz.results191]; simp only [resOk, resV, go_sem, simprocAttr]
      exact ⟨.c _, .c _, .c _⟩
set_option maxRecDepth 100000 in
theorem rdouble_any (n : Int) (w : World) : Calls Tryz.prog 113 #[.int .i64 n] w fun e w' => e = .returned (.int .u64 (floatOfInt .f64 n)) ∧ w' = w := by
  go_enter Tryz.func113, Tryz.ntmps113
  go_wp2_with fail
  rw [run_callFunc_extern Tryz.func190 (by kernel_rfl) (by kernel_rfl) (by kernel_rfl) (e := Extern.MathFloatBits.float64bits) (by kernel_rfl)]
  rw [show Sem.run Tryz.prog (Extern.MathFloatBits.float64bits #[Value.float .f64 (floatOfInt .f64 n)]) w = Result.ok (Value.int .u64 (floatOfInt .f64 n : Int)) w from rfl]
  simp only [Result.andThen]
  rw [Oper.upon_value]
  go_wp2
  go_ret
  exact ⟨rfl, rfl⟩
theorem rdouble_told (n : Int) (h1 : -9223372036854775808 ≤ n) (h2 : n ≤ 9223372036854775807) : Told Tryz.prog 113 [.c (.v (.int .i64 n))] (.c (.v (.int .u64 (dblM n : Int)))) := by
  have h := told_plain (xs := [.int .i64 n]) (r := .int .u64 (floatOfInt .f64 n : Int)) ent_113 rfl fun W => rdouble_any n W
  rw [show floatOfInt .f64 n = dblM n from dbl_near n h1 h2] at h
  exact h
set_option maxRecDepth 100000 in
theorem rfloat_any (n : Int) (w : World) : Calls Tryz.prog 112 #[.int .i64 n] w fun e w' => e = .returned (.int .u32 (floatOfInt .f32 n)) ∧ w' = w := by
  go_enter Tryz.func112, Tryz.ntmps112
  go_wp2_with fail
  rw [run_callFunc_extern Tryz.func189 (by kernel_rfl) (by kernel_rfl) (by kernel_rfl) (e := Extern.MathFloatBits.float32bits) (by kernel_rfl)]
  rw [show Sem.run Tryz.prog (Extern.MathFloatBits.float32bits #[Value.float .f32 (floatOfInt .f32 n)]) w = Result.ok (Value.int .u32 (floatOfInt .f32 n : Int)) w from rfl]
  simp only [Result.andThen]
  rw [Oper.upon_value]
  go_wp2
  go_ret
  exact ⟨rfl, rfl⟩
theorem rfloat_told (n : Int) (h1 : -9223372036854775808 ≤ n) (h2 : n ≤ 9223372036854775807) : Told Tryz.prog 112 [.c (.v (.int .i64 n))] (.c (.v (.int .u32 (fltM n : Int)))) := by
  have h := told_plain (xs := [.int .i64 n]) (r := .int .u32 (floatOfInt .f32 n : Int)) ent_112 rfl fun W => rfloat_any n W
  rw [show floatOfInt .f32 n = fltM n from flt_near n h1 h2] at h
  exact h
set_option maxRecDepth 100000 in
set_option maxHeartbeats 1600000 in
theorem rlatin_told (s : List UInt8) (hs : s.length ≤ 1000000) : Told Tryz.prog 114 [.c (.v (.string (str s)))] (.tup [.c (.sl 1 (bytePV ((latF s 0).getD []))), .c (.v (.bool (latF s 0).isSome))]) := by
  have hlen : (bytePV s).length = s.length := by simp [bytePV]
  have hbs : bytePV (str s).data.toList = bytePV s := by rw [str_dl]
  obtain ⟨V, hV⟩ : ∃ V, V = latF s 0 := ⟨_, rfl⟩
  rw [← hV]
  refine VC.told ent_114 Tryz.func114 rfl Tryz.ntmps114 (by simp) (by first | rfl | simp [AV.pureB, AV.pureL, pureL_c, pures]) (by first | rfl | simp [AV.pureB, AV.pureL, pureL_c, pures]) fun hb => ?_
  clear hb
  refine walkGF (And.intro @str_size hbs) ?_
  refine VC.nil 4 5 1 (by rfl) (by trivial) (by rfl) ?_
  refine VC.loop (ι := {q : Nat × List UInt8 // q.1 ≤ s.length ∧ q.2.length ≤ q.1 ∧ V = (latF s q.1).map (q.2 ++ ·)}) (fun q => [(5, .c (.sl 1 (bytePV s))), (4, .row 56 q.1.2.length), (6, .c (.v (.int .i64 (q.1.1 : Int))))])
    (fun q => [(56, ⟨true, 5, 1, bA q.1.2⟩)]) 200 (fun q => s.length - q.1.1) ⟨(0, []), Nat.zero_le _, Nat.le_refl _, by rw [hV]; cases latF s 0 <;> rfl⟩ ?_ ?_
  · simp only [bA_len, bA_sc, bA_nil, Weak, eq_self, used_is, sc_any, sc_c, sc_pp, sc_ref, sc_row, sc_agg, sc_fn, ScL, some_imp, List.forall_mem_map, go_sem, Int.reduceBEq, Int.reduceLE, Int.reduceLT, Int.reduceNeg, Nat.reduceAdd, Nat.reduceEqDiff, Nat.reduceLT, Nat.reduceLeDiff, Nat.reduceMul, Nat.reduceSub, reduceCtorEq, ↓reduceIte]
    all_goals first | rfl | simp [bA]
  rintro ⟨⟨p, o⟩, hp, hol, hVp⟩
  simp only [] at hp hol hVp ⊢
  by_cases hlt : p < s.length
  rotate_left
  · have e0 : decide ((p : Int) < (s.length : Int)) = false := by simp; omega
    have hVo : V = some o := by
      rw [hVp, latF_end hlt]
      simp
    refine walkGF (And.intro hlen e0) ?_
    refine VC.condF (by rfl) (by trivial) ?_
    refine walkGF (@bA_len) ?_
    refine ⟨by first | exact .inr rfl | exact .inl rfl, ?_⟩; rw [Tryz.results114]; simp only [resOk, resV, go_sem, simprocAttr]
    rw [hVo]
    exact ⟨frz_rA (f := fun b : UInt8 => [PV.v (.int .u8 (b.toNat : Int))]) (l := o) (T := 5) rfl rfl rfl (by simp), .c _⟩
  have e0 : decide ((p : Int) < (s.length : Int)) = true := by simp; omega
  obtain ⟨c, nx, e, hT, g1, g2⟩ := rtakeV_told s p hp (by omega)
  by_cases hu : uerr s p = 0
  rotate_left
  · rw [latF_bad hlt hu] at hVp
    replace hVp : V = none := hVp
    have e1 : (e != 0) = true := by simpa using g2 hu
    refine walkBF (And.intro hlen e0) ?_
    refine walkC (hT) ?_
    refine walkBF (e1) ?_
    refine ⟨by first | exact .inr rfl | exact .inl rfl, ?_⟩; rw [Tryz.results114]; simp only [resOk, resV, go_sem, simprocAttr]
    rw [hVp]
    exact ⟨.nil 1, .c _⟩
  have hbd := ulen_bound hu
  obtain ⟨rfl, rfl, rfl⟩ := g1 hu
  rw [latF_next hlt hu] at hVp
  rw [wholeV_chr hu] at hT
  generalize uchr s p = c at *
  have ez : ((0 : Int) != 0) = false := rfl
  by_cases hc : c ≤ 255
  · have e1 : decide ((c : Int) > 255) = false := by simp; omega
    have g1 : IntKind.u8.wrap (c : Int) = ((UInt8.ofNat c).toNat : Int) := by
      rw [UInt8.toNat_ofNat', IntKind.wrap_u8]
      omega
    have hone : bA o ++ [[AV.c (.v (.int .u8 ((UInt8.ofNat c).toNat : Int)))]] = bA (o ++ [UInt8.ofNat c]) := bA_one o _
    rw [if_pos hc] at hVp
    generalize UInt8.ofNat c = x at *
    obtain ⟨o2, ho2⟩ : ∃ o2, o2 = o ++ [x] := ⟨_, rfl⟩
    have hl2 : o.length + 1 = o2.length := by rw [ho2]; simp
    rw [← ho2] at hone
    have hV2 : V = (latF s (p + ulen s p)).map (o2 ++ ·) := by
      rw [hVp, ho2]
      cases latF s (p + ulen s p) with
      | none => rfl
      | some r => simp
    refine walkBF (And.intro hlen e0) ?_
    refine walkC (hT) ?_
    refine walkBF (And.intro e1 (And.intro g1 (And.intro @bA_len (And.intro hone hl2)))) ?_
    refine .next ⟨(p + ulen s p, o2), hbd.2, by simp only []; omega, hV2⟩ ?_ (by simp only []; omega)
    simp only [bA_len, bA_sc, Weak, eq_self, used_is, sc_any, sc_c, sc_pp, sc_ref, sc_row, sc_agg, sc_fn, ScL, some_imp, List.forall_mem_map, go_sem, Int.reduceBEq, Int.reduceLE, Int.reduceLT, Int.reduceNeg, Nat.reduceAdd, Nat.reduceEqDiff, Nat.reduceLT, Nat.reduceLeDiff, Nat.reduceMul, Nat.reduceSub, reduceCtorEq, ↓reduceIte]
    all_goals first | rfl | exact ⟨rfl, Nat.le_refl _⟩ | exact ⟨cI (by omega), Nat.le_refl _⟩ | exact Nat.le_refl _
  · have e1 : decide ((c : Int) > 255) = true := by simp; omega
    rw [if_neg hc] at hVp
    replace hVp : V = none := hVp
    refine walkBF (And.intro hlen e0) ?_
    refine walkC (hT) ?_
    refine walkBF (e1) ?_
    refine ⟨by first | exact .inr rfl | exact .inl rfl, ?_⟩; rw [Tryz.results114]; simp only [resOk, resV, go_sem, simprocAttr]
    rw [hVp]
    exact ⟨.nil 1, .c _⟩

theorem frz_vb {K : Nat → Bool} {h : Nat → Option Blkd} (k n b : Int) (s : List UInt8) : Frz K h (.agg [.c (.v (.int .i64 k)), .c (.v (.int .i64 n)), .c (.v (.int .u64 b)), .c (.sl 1 (bytePV s)), .c (.v (.slice none 0 0)), .c (.v (.slice none 0 0))]) (VT.mk k n b s [] []).av := by
  rw [VT.av_eq, vcells_mk]
  exact Frz.aggL (.cons (.c _) (.cons (.c _) (.cons (.c _) (.cons (.c _) (.cons (.nil 6) (.cons (.nil 1) .nil))))))
set_option maxRecDepth 100000 in
set_option maxHeartbeats 1600000 in
theorem text13_told (n : NT) (hk : n.kind = 7 ∨ n.kind = 8 ∨ n.kind = 14) (j : JT) (ht : j.txt.length ≤ 1000000) : Told Tryz.prog 105 [n.av, j.av] (.tup [(textS n j).1.av, .c (.v (.bool (textS n j).2))]) := by
  unfold textS
  rw [JT.av_eq, jcells_acc, NT.av_eq, ncells_mk]
  generalize j.its = its
  generalize j.keys = keys
  generalize j.txt = txt at *
  generalize j.kd = kd at *
  generalize j.num = num at *
  by_cases h4 : kd = 4
  rotate_left
  · have e4 : (kd != 4) = true := by simpa using h4
    rw [if_neg h4]
    refine VC.told ent_105 Tryz.func105 rfl Tryz.ntmps105 (by simp) (by first | rfl | simp [AV.pureB, AV.pureL, pureL_c, pures]) (by first | rfl | simp [AV.pureB, AV.pureL, pureL_c, pures]) fun hb => ?_
    clear hb
    refine walkBF (e4) ?_
    refine ⟨by first | exact .inr rfl | exact .inl rfl, ?_⟩; rw [Tryz.results105]; simp only [resOk, resV, go_sem, simprocAttr]
    exact ⟨frz_v _ _ _, .c _⟩
  have e4 : (kd != 4) = false := by simpa using h4
  rw [if_pos h4]
  by_cases h8 : n.kind = 8
  · have e8 : (n.kind == 8) = true := by simpa using h8
    have hbs : bytePV (str txt).data.toList = bytePV txt := by rw [str_dl]
    have hlen : (bytePV txt).length = txt.length := by simp [bytePV]
    have e20 : decide ((txt.length : Int) ≤ 20000) = decide (txt.length ≤ 20000) := decide_eq_decide.2 (by omega)
    rw [if_pos h8]
    refine VC.told ent_105 Tryz.func105 rfl Tryz.ntmps105 (by simp) (by first | rfl | simp [AV.pureB, AV.pureL, pureL_c, pures]) (by first | rfl | simp [AV.pureB, AV.pureL, pureL_c, pures]) fun hb => ?_
    clear hb
    refine walkBF (And.intro e4 (And.intro e8 (And.intro @str_size (And.intro hbs hlen)))) ?_
    refine ⟨by first | exact .inr rfl | exact .inl rfl, ?_⟩; rw [Tryz.results105]; simp only [resOk, resV, go_sem, simprocAttr]
    rw [e20, h8]
    exact ⟨frz_vb _ _ _ _, .c _⟩
  have e8 : (n.kind == 8) = false := by simpa using h8
  rw [if_neg h8]
  have hL := latin_told txt ht
  cases hl : latF txt 0 with
  | none =>
    rw [hl] at hL
    simp only [Option.getD_none, Option.isSome_none] at hL
    simp only []
    refine VC.told ent_105 Tryz.func105 rfl Tryz.ntmps105 (by simp) (by first | rfl | simp [AV.pureB, AV.pureL, pureL_c, pures]) (by first | rfl | simp [AV.pureB, AV.pureL, pureL_c, pures]) fun hb => ?_
    clear hb
    refine walkBF (And.intro e4 e8) ?_
    refine walkC (hL) ?_
    refine walkB ?_
    refine ⟨by first | exact .inr rfl | exact .inl rfl, ?_⟩; rw [Tryz.results105]; simp only [resOk, resV, go_sem, simprocAttr]
    exact ⟨frz_vb _ _ _ _, .c _⟩
  | some b =>
    rw [hl] at hL
    simp only [Option.getD_some, Option.isSome_some] at hL
    simp only []
    have hlen : (bytePV b).length = b.length := by simp [bytePV]
    have e20 : decide ((b.length : Int) ≤ 20000) = decide (b.length ≤ 20000) := decide_eq_decide.2 (by omega)
    obtain ⟨b1, h1⟩ : ∃ q : Bool, q = decide ((b.length : Int) ≤ 20000) := ⟨_, rfl⟩
    obtain ⟨b2, h2⟩ : ∃ q : Bool, q = (n.kind == 7) := ⟨_, rfl⟩
    obtain ⟨b3, h3⟩ : ∃ q : Bool, q = ((b.length : Int) == n.size) := ⟨_, rfl⟩
    rw [← e20, ← h1, ← h2, ← h3]
    clear e20
    cases b1 <;> cases b2 <;> cases b3
    all_goals
      refine VC.told ent_105 Tryz.func105 rfl Tryz.ntmps105 (by simp) (by first | rfl | simp [AV.pureB, AV.pureL, pureL_c, pures]) (by first | rfl | simp [AV.pureB, AV.pureL, pureL_c, pures]) fun hb => ?_
      clear hb
      refine walkBF (And.intro e4 e8) ?_
      refine walkC (hL) ?_
      refine walkBF (And.intro hlen (And.intro h1.symm (And.intro h2.symm h3.symm))) ?_
      refine ⟨by first | exact .inr rfl | exact .inl rfl, ?_⟩; rw [Tryz.results105]; simp only [resOk, resV, go_sem, simprocAttr]
      exact ⟨frz_vb _ _ _ _, .c _⟩

def JOk (j : JT) : Prop := rshape j = true ∧ j.inr ∧ j.sm 1000000
theorem jok_mem {k n : Int} {s : List UInt8} {ks : List (List UInt8)} {xs : List JT} (h : JOk (.mk k n s ks xs)) : ∀ x ∈ xs, JOk x := fun x hx => by
  obtain ⟨h1, h2, h3⟩ := h
  simp only [JT.sm] at h3
  exact ⟨(rshape_parts h1).2.2.2.2 x hx, jinr_mem h2 x hx, smL_mem h3.2.2.2.2 x hx⟩
theorem jok_get {j i : JT} {key : List UInt8} (h : JOk j) (hg : jget j key = some i) : JOk i := by
  cases j with
  | mk k n s ks xs =>
  unfold jget at hg
  simp only [] at hg
  split at hg
  · exact jok_mem h i (List.mem_of_getElem? hg)
  · simp at hg
def xSB (ns : List NT) (r : Int) (c : Nat) : Blkd := ⟨false, 101, 3, [[.c (.sl 10 (ns.map NT.cells)), .c (.v (.int .i64 r)), .c (.v (.int .i64 (c : Int)))]]⟩
def SayT (ns : List NT) (r : Int) (f : Say) (dep : Int) : Prop := ∀ (a : Int) (j : JT) (c : Nat), 0 ≤ a → a < (ns.length : Int) → JOk j → c ≤ 1000 →
  ToldM Tryz.prog 66 [.ref 1000000 1 0 0, .c (.v (.int .i64 a)), j.av, .c (.v (.int .i64 dep))] [xSB ns r c] [some (xSB ns r (f a j c).2.2)] (.tup [(f a j c).1.av, .c (.v (.bool (f a j c).2.1))])
def SayC (f : Say) : Prop := ∀ a j c, (f a j c).2.1 = true → (f a j c).2.2 ≤ 1000
theorem rA_vone (l : List VT) (x : VT) : rA VT.cells l ++ [x.cells.map .c] = rA VT.cells (l ++ [x]) := by simp [rA]
set_option maxRecDepth 100000 in
set_option maxHeartbeats 3200000 in
theorem record13_told (ns : List NT) (r : Int) (f : Say) (dep : Int) (hT : SayT ns r f dep) (hC : SayC f) (n : NT) (hn : n.sm 1000000) (hkid : ∀ fd ∈ n.fields, 0 ≤ fd.type ∧ fd.type < (ns.length : Int)) (hdf : ∀ fd ∈ n.fields, fd.has = true → JOk fd.dflt)
    (j : JT) (hj : JOk j) (c0 : Nat) (hc0 : c0 ≤ 1000) :
    ToldM Tryz.prog 103 [.ref 1000000 1 0 0, n.av, j.av, .c (.v (.int .i64 dep))] [xSB ns r c0] [some (xSB ns r (recF f j n.fields c0).2)] (.tup [.c (.sl 6 (((recF f j n.fields c0).1.getD []).map VT.cells)), .c (.v (.bool ((recF f j n.fields c0).1.isSome && j.kd == 6)))]) := by
  have hfl := hn.2.2.2.2.2.1
  obtain ⟨R1, hR1⟩ : ∃ R1, R1 = (recF f j n.fields c0).1 := ⟨_, rfl⟩
  obtain ⟨R2, hR2⟩ : ∃ R2, R2 = (recF f j n.fields c0).2 := ⟨_, rfl⟩
  rw [← hR1, ← hR2]
  have hG := fun key => get_told j key
  rw [JT.av_eq] at hG ⊢
  rw [NT.av_eq, ncells_mk]
  unfold xSB
  refine VC.toldM ent_103 [] Tryz.func103 rfl Tryz.ntmps103 (by simp) (by simp only [ScM, zOk, inL, eq_self, used_is, sc_any, sc_c, sc_pp, sc_ref, sc_row, sc_agg, sc_tup, sc_fn, ScL, some_imp, List.forall_mem_map, Nat.le_refl, go_sem, simprocAttr]) (by simp only [ScM, zOk, inL, eq_self, used_is, sc_any, sc_c, sc_pp, sc_ref, sc_row, sc_agg, sc_tup, sc_fn, ScL, some_imp, List.forall_mem_map, Nat.le_refl, go_sem, simprocAttr]) (by simp only [ScM, zOk, inL, eq_self, used_is, sc_any, sc_c, sc_pp, sc_ref, sc_row, sc_agg, sc_tup, sc_fn, ScL, some_imp, List.forall_mem_map, Nat.le_refl, go_sem, simprocAttr]) (by simp only [ScM, zOk, inL, eq_self, used_is, sc_any, sc_c, sc_pp, sc_ref, sc_row, sc_agg, sc_tup, sc_fn, ScL, some_imp, List.forall_mem_map, Nat.le_refl, go_sem, simprocAttr]) (by simp) fun hb hbL => ?_
  clear hb hbL
  refine walkGF (And.intro @len_cells (And.intro @take_cells @take_cellsC)) ?_
  refine VC.nil 10 43 6 (by rfl) (by trivial) (by rfl) ?_
  refine VC.loop (ι := {q : Nat × List VT × Nat // q.1 ≤ n.fields.length ∧ q.2.1.length = q.1 ∧ q.2.2 ≤ 1000 ∧ R1 = (recF f j (n.fields.drop q.1) q.2.2).1.map (q.2.1 ++ ·) ∧ R2 = (recF f j (n.fields.drop q.1) q.2.2).2})
    (fun q => [(0, .ref 1000000 1 0 0), (3, .c (.v (.int .i64 dep))), (5, .ref 0 1 0 0), (6, .ref 8 1 0 0), (10, .row 72 q.1.2.1.length), (17, .c (.sl 9 (n.fields.map FT.cells))), (18, .c (.v (.int .i64 (n.fields.length : Int)))), (19, .c (.v (.int .i64 (q.1.1 : Int))))])
    (fun q => [(0, ⟨false, 33, 10, [n.cells.map .c]⟩), (8, ⟨false, 36, 5, [j.cells.map .c]⟩), (72, ⟨true, 43, 6, rA VT.cells q.1.2.1⟩), (1000000, xSB ns r q.1.2.2)]) 800 (fun q => n.fields.length - q.1.1)
    ⟨(0, [], c0), Nat.zero_le _, rfl, hc0, by rw [hR1]; simp, by rw [hR2]; rfl⟩ ?_ ?_
  · simp only [ncells_mk, rA_len, rA_sc, xSB, Weak, eq_self, used_is, sc_any, sc_c, sc_pp, sc_ref, sc_row, sc_agg, sc_fn, ScL, some_imp, List.forall_mem_map, go_sem, Int.reduceBEq, Int.reduceLE, Int.reduceLT, Int.reduceNeg, Nat.reduceAdd, Nat.reduceEqDiff, Nat.reduceLT, Nat.reduceLeDiff, Nat.reduceMul, Nat.reduceSub, reduceCtorEq, ↓reduceIte]
    rfl
  rintro ⟨⟨i, out, c⟩, hi, hol, hc, h1, h2⟩
  simp only [] at hi hol hc h1 h2 ⊢
  unfold xSB
  have hl : (rA VT.cells out).length = i := by rw [rA_len, hol]
  refine walkG ?_
  refine VC.cond (by rfl) (by trivial) (fun hcc => ?_) (fun hcc => ?_)
  rotate_left
  · have hie : i = n.fields.length := by simp at hcc; omega
    have e1 : R1 = some out := by
      rw [h1, hie, List.drop_length, recF]
      simp
    have e2 : c = R2 := by rw [h2, hie, List.drop_length, recF]
    subst e2
    refine walkGF (And.intro @jcells_acc hl) ?_
    refine ⟨by first | exact .inr rfl | exact .inl rfl, ?_⟩; rw [Tryz.results103]; simp only [rA_len, resOk, resV, go_sem, simprocAttr]
    rw [e1]
    exact ⟨frz_rA (f := VT.cells) (l := out) (T := 43) rfl rfl rfl fun x _ => len_vcells x, .c _⟩
  have hlt : i < n.fields.length := by simp at hcc; omega
  obtain ⟨fd, hx⟩ : ∃ fd, n.fields[i]? = some fd := ⟨n.fields[i], List.getElem?_eq_getElem hlt⟩
  have hmem := List.mem_of_getElem? hx
  have hxq : (n.fields.map FT.cells)[i]? = some fd.cells := by rw [List.getElem?_map, hx]; rfl
  have hw : IntKind.i64.wrap ((i : Int) + 1) = (i : Int) + 1 := wrap64_id (by omega) (by omega)
  have hdr : n.fields.drop i = fd :: n.fields.drop (i + 1) := by
    rw [List.drop_eq_getElem_cons hlt]
    congr 1
    exact Option.some.inj ((List.getElem?_eq_getElem hlt).symm.trans hx)
  obtain ⟨ka, kb⟩ := hkid fd hmem
  have hGf := hG fd.name
  -- what is said of the field
  have hend : ∀ t : JT, fieldJ j fd = some t → (∃ (v : VT) (c2 : Nat), c2 ≤ 1000 ∧ ToldM Tryz.prog 66 [.ref 1000000 1 0 0, .c (.v (.int .i64 fd.type)), t.av, .c (.v (.int .i64 dep))] [xSB ns r c] [some (xSB ns r c2)] (.tup [v.av, .c (.v (.bool true))]) ∧
        R1 = (recF f j (n.fields.drop (i + 1)) c2).1.map ((out ++ [v]) ++ ·) ∧ R2 = (recF f j (n.fields.drop (i + 1)) c2).2)
      ∨ (∃ v : VT, ToldM Tryz.prog 66 [.ref 1000000 1 0 0, .c (.v (.int .i64 fd.type)), t.av, .c (.v (.int .i64 dep))] [xSB ns r c] [some (xSB ns r R2)] (.tup [v.av, .c (.v (.bool false))]) ∧ R1 = none) := by
    intro t hF
    have hjt : JOk t := by
      unfold fieldJ at hF
      cases hg : jget j fd.name with
      | some i =>
        rw [hg] at hF
        obtain rfl := Option.some.inj hF
        exact jok_get hj hg
      | none =>
        rw [hg] at hF
        simp only [] at hF
        split at hF
        · rename_i hh
          obtain rfl := Option.some.inj hF
          exact hdf fd hmem hh
        · simp at hF
    have hS := hT fd.type t c ka kb hjt hc
    rw [hdr, recF, hF] at h1 h2
    simp only [] at h1 h2
    by_cases hok : (f fd.type t c).2.1 = true
    · have hc2 := hC _ _ _ hok
      rw [if_pos hok] at h1 h2
      rw [hok] at hS
      refine .inl ⟨_, _, hc2, hS, ?_, h2⟩
      rw [h1]
      simp only []
      cases (recF f j (n.fields.drop (i + 1)) (f fd.type t c).2.2).1 with
      | none => rfl
      | some q => simp
    · rw [if_neg hok] at h1 h2
      rw [show (f fd.type t c).2.1 = false by simpa using hok, ← h2] at hS
      exact .inr ⟨_, hS, h1⟩
  cases hg : jget j fd.name with
  | some t =>
    rw [hg] at hGf
    simp only [Option.getD_some, Option.isSome_some] at hGf
    have hF : fieldJ j fd = some t := by rw [fieldJ, hg]
    rw [JT.av_eq] at hGf
    rcases hend t hF with ⟨v, c2, hc2, hS, g1, g2⟩ | ⟨v, hS, g1⟩
    · rw [JT.av_eq, VT.av_eq] at hS
      unfold xSB at hS
      refine walkGF (And.intro hxq (And.intro @fcells_mk (And.intro @len_fcells (And.intro @take_fcells (And.intro @take_fcellsC (And.intro @len_cells (And.intro @take_cells @take_cellsC))))))) ?_
      refine walkCF (@pureL_c) (hGf) ?_
      refine walkBF (And.intro @len_cells (And.intro @take_cells @take_cellsC)) ?_
      ((refine AO.step fun K hK => ?_; simp only [go_sem, Int.reduceBEq, Int.reduceLE, Int.reduceLT, Int.reduceNeg, Nat.reduceAdd, Nat.reduceEqDiff, Nat.reduceLT, Nat.reduceLeDiff, Nat.reduceMul, Nat.reduceSub, reduceCtorEq, ↓reduceIte, len_cells, take_cells, take_cellsC]; (first | refine gsel_go ?_ | skip)); refine .inr (.inr (.inl ⟨?vy1, [1000000], ?va1, ?vl1, ?vm1, ?cond1, ?cont1⟩)); (case cond1 => ((repeat' apply And.intro) <;> (try ((with_reducible show ToldM _ _ _ _ _ _); exact hS))); (all_goals first | trivial | (simp only [len_cells, take_cells, take_cellsC, go_sem, simprocAttr]; done) | (simp; done) | rfl)); (first | refine hK _ _ _ ?_ | (simp only [len_cells, take_cells, take_cellsC, go_sem, simprocAttr]; first | refine hK _ _ _ ?_ | refine ⟨rfl, hK _ _ _ ?_⟩)); clear hK K)
      refine walkBF (And.intro @len_vcells (And.intro @take_vcells (And.intro @take_vcellsC (And.intro hl (And.intro @rA_vone hw))))) ?_
      refine .next ⟨(i + 1, out ++ [v], c2), by simp only []; omega, by simp [hol], hc2, g1, g2⟩ ?_ (by simp only []; omega)
      simp only [ncells_mk, rA_len, rA_sc, xSB, Weak, eq_self, used_is, sc_any, sc_c, sc_pp, sc_ref, sc_row, sc_agg, sc_fn, ScL, some_imp, List.forall_mem_map, go_sem, Int.reduceBEq, Int.reduceLE, Int.reduceLT, Int.reduceNeg, Nat.reduceAdd, Nat.reduceEqDiff, Nat.reduceLT, Nat.reduceLeDiff, Nat.reduceMul, Nat.reduceSub, reduceCtorEq, ↓reduceIte]
      exact ⟨⟨by simp, cI (by omega)⟩, by simp⟩
    · rw [JT.av_eq, VT.av_eq] at hS
      unfold xSB at hS
      refine walkGF (And.intro hxq (And.intro @fcells_mk (And.intro @len_fcells (And.intro @take_fcells (And.intro @take_fcellsC (And.intro @len_cells (And.intro @take_cells @take_cellsC))))))) ?_
      refine walkCF (@pureL_c) (hGf) ?_
      refine walkBF (And.intro @len_cells (And.intro @take_cells @take_cellsC)) ?_
      ((refine AO.step fun K hK => ?_; simp only [go_sem, Int.reduceBEq, Int.reduceLE, Int.reduceLT, Int.reduceNeg, Nat.reduceAdd, Nat.reduceEqDiff, Nat.reduceLT, Nat.reduceLeDiff, Nat.reduceMul, Nat.reduceSub, reduceCtorEq, ↓reduceIte, len_cells, take_cells, take_cellsC]; (first | refine gsel_go ?_ | skip)); refine .inr (.inr (.inl ⟨?vy2, [1000000], ?va2, ?vl2, ?vm2, ?cond2, ?cont2⟩)); (case cond2 => ((repeat' apply And.intro) <;> (try ((with_reducible show ToldM _ _ _ _ _ _); exact hS))); (all_goals first | trivial | (simp only [len_cells, take_cells, take_cellsC, go_sem, simprocAttr]; done) | (simp; done) | rfl)); (first | refine hK _ _ _ ?_ | (simp only [len_cells, take_cells, take_cellsC, go_sem, simprocAttr]; first | refine hK _ _ _ ?_ | refine ⟨rfl, hK _ _ _ ?_⟩)); clear hK K)
      refine walkBF (And.intro @len_vcells (And.intro @take_vcells (And.intro @take_vcellsC (And.intro hl (And.intro @rA_vone hw))))) ?_
      refine ⟨by first | exact .inr rfl | exact .inl rfl, ?_⟩; rw [Tryz.results103]; simp only [rA_len, resOk, resV, go_sem, simprocAttr]
      rw [g1]
      exact ⟨.nil 6, .c _⟩
  | none =>
    rw [hg] at hGf
    simp only [Option.getD_none, Option.isSome_none] at hGf
    rw [JT.av_eq] at hGf
    cases hh : fd.has with
    | false =>
      have g1 : R1 = none := by
        rw [h1, hdr, recF, fieldJ, hg]
        simp [hh]
      have g2 : c = R2 := by
        rw [h2, hdr, recF, fieldJ, hg]
        simp [hh]
      subst g2
      refine walkGF (And.intro hxq (And.intro @fcells_mk (And.intro @len_fcells (And.intro @take_fcells (And.intro @take_fcellsC (And.intro @len_cells (And.intro @take_cells @take_cellsC))))))) ?_
      refine walkCF (@pureL_c) (hGf) ?_
      refine walkBF (And.intro @len_cells (And.intro @take_cells (And.intro @take_cellsC (And.intro @fcells_mk hh)))) ?_
      refine ⟨by first | exact .inr rfl | exact .inl rfl, ?_⟩; rw [Tryz.results103]; simp only [rA_len, resOk, resV, go_sem, simprocAttr]
      rw [g1]
      exact ⟨.nil 6, .c _⟩
    | true =>
      have hz : (List.map AV.c zJ.cells).drop 5 = [] := by rw [zJ_cells]; rfl
      have hF : fieldJ j fd = some fd.dflt := by
        rw [fieldJ, hg]
        simp [hh]
      rcases hend fd.dflt hF with ⟨v, c2, hc2, hS, g1, g2⟩ | ⟨v, hS, g1⟩
      · rw [JT.av_eq, VT.av_eq] at hS
        unfold xSB at hS
        refine walkGF (And.intro hxq (And.intro @fcells_mk (And.intro @len_fcells (And.intro @take_fcells (And.intro @take_fcellsC (And.intro @len_cells (And.intro @take_cells @take_cellsC))))))) ?_
        refine walkCF (@pureL_c) (hGf) ?_
        refine walkBF (And.intro @len_cells (And.intro @take_cells (And.intro @take_cellsC (And.intro @fcells_mk (And.intro hh hz))))) ?_
        ((refine AO.step fun K hK => ?_; simp only [go_sem, Int.reduceBEq, Int.reduceLE, Int.reduceLT, Int.reduceNeg, Nat.reduceAdd, Nat.reduceEqDiff, Nat.reduceLT, Nat.reduceLeDiff, Nat.reduceMul, Nat.reduceSub, reduceCtorEq, ↓reduceIte, len_cells, take_cells, take_cellsC]; (first | refine gsel_go ?_ | skip)); refine .inr (.inr (.inl ⟨?vy3, [1000000], ?va3, ?vl3, ?vm3, ?cond3, ?cont3⟩)); (case cond3 => ((repeat' apply And.intro) <;> (try ((with_reducible show ToldM _ _ _ _ _ _); exact hS))); (all_goals first | trivial | (simp only [len_cells, take_cells, take_cellsC, go_sem, simprocAttr]; done) | (simp; done) | rfl)); (first | refine hK _ _ _ ?_ | (simp only [len_cells, take_cells, take_cellsC, go_sem, simprocAttr]; first | refine hK _ _ _ ?_ | refine ⟨rfl, hK _ _ _ ?_⟩)); clear hK K)
        refine walkBF (And.intro @len_vcells (And.intro @take_vcells (And.intro @take_vcellsC (And.intro hl (And.intro @rA_vone hw))))) ?_
        refine .next ⟨(i + 1, out ++ [v], c2), by simp only []; omega, by simp [hol], hc2, g1, g2⟩ ?_ (by simp only []; omega)
        simp only [ncells_mk, rA_len, rA_sc, xSB, Weak, eq_self, used_is, sc_any, sc_c, sc_pp, sc_ref, sc_row, sc_agg, sc_fn, ScL, some_imp, List.forall_mem_map, go_sem, Int.reduceBEq, Int.reduceLE, Int.reduceLT, Int.reduceNeg, Nat.reduceAdd, Nat.reduceEqDiff, Nat.reduceLT, Nat.reduceLeDiff, Nat.reduceMul, Nat.reduceSub, reduceCtorEq, ↓reduceIte]
        exact ⟨⟨by simp, cI (by omega)⟩, by simp⟩
      · rw [JT.av_eq, VT.av_eq] at hS
        unfold xSB at hS
        refine walkGF (And.intro hxq (And.intro @fcells_mk (And.intro @len_fcells (And.intro @take_fcells (And.intro @take_fcellsC (And.intro @len_cells (And.intro @take_cells @take_cellsC))))))) ?_
        refine walkCF (@pureL_c) (hGf) ?_
        refine walkBF (And.intro @len_cells (And.intro @take_cells (And.intro @take_cellsC (And.intro @fcells_mk (And.intro hh hz))))) ?_
        ((refine AO.step fun K hK => ?_; simp only [go_sem, Int.reduceBEq, Int.reduceLE, Int.reduceLT, Int.reduceNeg, Nat.reduceAdd, Nat.reduceEqDiff, Nat.reduceLT, Nat.reduceLeDiff, Nat.reduceMul, Nat.reduceSub, reduceCtorEq, ↓reduceIte, len_cells, take_cells, take_cellsC]; (first | refine gsel_go ?_ | skip)); refine .inr (.inr (.inl ⟨?vy4, [1000000], ?va4, ?vl4, ?vm4, ?cond4, ?cont4⟩)); (case cond4 => ((repeat' apply And.intro) <;> (try ((with_reducible show ToldM _ _ _ _ _ _); exact hS))); (all_goals first | trivial | (simp only [len_cells, take_cells, take_cellsC, go_sem, simprocAttr]; done) | (simp; done) | rfl)); (first | refine hK _ _ _ ?_ | (simp only [len_cells, take_cells, take_cellsC, go_sem, simprocAttr]; first | refine hK _ _ _ ?_ | refine ⟨rfl, hK _ _ _ ?_⟩)); clear hK K)
        refine walkBF (And.intro @len_vcells (And.intro @take_vcells (And.intro @take_vcellsC (And.intro hl (And.intro @rA_vone hw))))) ?_
        refine ⟨by first | exact .inr rfl | exact .inl rfl, ?_⟩; rw [Tryz.results103]; simp only [rA_len, resOk, resV, go_sem, simprocAttr]
        rw [g1]
        exact ⟨.nil 6, .c _⟩

set_option maxRecDepth 100000 in
theorem long13_told (k : List UInt8) : Told Tryz.prog 181 [.c (.v (.string (str k)))] (.c (.v (.bool (decide (20000 < k.length))))) := by
  have e : decide ((k.length : Int) > 20000) = decide (20000 < k.length) := decide_eq_decide.2 (by omega)
  refine VC.told ent_181 Tryz.func181 rfl Tryz.ntmps181 (by simp) (by first | rfl | simp [AV.pureB, AV.pureL, pureL_c, pures]) (by first | rfl | simp [AV.pureB, AV.pureL, pureL_c, pures]) fun hb => ?_
  clear hb
  refine walkGF (@str_size) ?_
  refine ⟨by first | exact .inr rfl | exact .inl rfl, ?_⟩; rw [Tryz.results181]; simp only [resOk, resV, go_sem, simprocAttr]
  rw [e]
  exact .c _
set_option maxRecDepth 100000 in
set_option maxHeartbeats 3200000 in
theorem items13_told (ns : List NT) (r : Int) (f : Say) (dep : Int) (hT : SayT ns r f dep) (hC : SayC f) (n : NT) (ha : 0 ≤ n.items) (hb' : n.items < (ns.length : Int)) (j : JT) (hj : JOk j) (c0 : Nat) (hc0 : c0 ≤ 1000) :
    ToldM Tryz.prog 104 [.ref 1000000 1 0 0, n.av, j.av, .c (.v (.int .i64 dep))] [xSB ns r c0] [some (xSB ns r (itemsF f n.items j c0).2)] (.tup [.c (.sl 6 (((itemsF f n.items j c0).1.getD []).map VT.cells)), .c (.v (.bool (itemsF f n.items j c0).1.isSome))]) := by
  have hits : ∀ x ∈ j.its, JOk x := by
    cases j with
    | mk k m s ks xs => exact jok_mem hj
  have hsm : j.its.length ≤ 1000000 := by
    cases j with
    | mk k m s ks xs =>
      have h3 := hj.2.2
      simp only [JT.sm] at h3
      exact h3.2.2.2.1
  have hAny := cnfS_told (g := 181) (fs := []) (cs := []) rfl rfl j.keys (fun k => decide (20000 < k.length)) fun x _ => long13_told x
  unfold itemsF
  rw [NT.av_eq, ncells_mk, JT.av_eq]
  simp only [jcells_acc]
  generalize j.its = its at *
  generalize j.kd = kd at *
  generalize j.num = num at *
  generalize j.txt = txt at *
  obtain ⟨B, hB⟩ : ∃ B, B = j.keys.any fun k => decide (20000 < k.length) := ⟨_, rfl⟩
  rw [← hB] at hAny ⊢
  generalize j.keys = keys at *
  unfold xSB
  by_cases h300 : 300 < its.length
  · have e1 : decide ((its.length : Int) > 300) = true := by simp; omega
    rw [if_pos (.inl h300)]
    refine VC.toldM ent_104 [] Tryz.func104 rfl Tryz.ntmps104 (by simp) (by simp only [ScM, zOk, inL, eq_self, used_is, sc_any, sc_c, sc_pp, sc_ref, sc_row, sc_agg, sc_tup, sc_fn, ScL, some_imp, List.forall_mem_map, Nat.le_refl, go_sem, simprocAttr]) (by simp only [ScM, zOk, inL, eq_self, used_is, sc_any, sc_c, sc_pp, sc_ref, sc_row, sc_agg, sc_tup, sc_fn, ScL, some_imp, List.forall_mem_map, Nat.le_refl, go_sem, simprocAttr]) (by simp only [ScM, zOk, inL, eq_self, used_is, sc_any, sc_c, sc_pp, sc_ref, sc_row, sc_agg, sc_tup, sc_fn, ScL, some_imp, List.forall_mem_map, Nat.le_refl, go_sem, simprocAttr]) (by simp only [ScM, zOk, inL, eq_self, used_is, sc_any, sc_c, sc_pp, sc_ref, sc_row, sc_agg, sc_tup, sc_fn, ScL, some_imp, List.forall_mem_map, Nat.le_refl, go_sem, simprocAttr]) (by simp) fun hb hbL => ?_
    clear hb hbL
    refine walkBF (e1) ?_
    refine ⟨by first | exact .inr rfl | exact .inl rfl, ?_⟩; rw [Tryz.results104]; simp only [resOk, resV, go_sem, simprocAttr]
    exact ⟨.nil 6, .c _⟩
  have e1 : decide ((its.length : Int) > 300) = false := by simp; omega
  cases B with
  | true =>
    rw [if_pos (.inr rfl)]
    refine VC.toldM ent_104 [] Tryz.func104 rfl Tryz.ntmps104 (by simp) (by simp only [ScM, zOk, inL, eq_self, used_is, sc_any, sc_c, sc_pp, sc_ref, sc_row, sc_agg, sc_tup, sc_fn, ScL, some_imp, List.forall_mem_map, Nat.le_refl, go_sem, simprocAttr]) (by simp only [ScM, zOk, inL, eq_self, used_is, sc_any, sc_c, sc_pp, sc_ref, sc_row, sc_agg, sc_tup, sc_fn, ScL, some_imp, List.forall_mem_map, Nat.le_refl, go_sem, simprocAttr]) (by simp only [ScM, zOk, inL, eq_self, used_is, sc_any, sc_c, sc_pp, sc_ref, sc_row, sc_agg, sc_tup, sc_fn, ScL, some_imp, List.forall_mem_map, Nat.le_refl, go_sem, simprocAttr]) (by simp only [ScM, zOk, inL, eq_self, used_is, sc_any, sc_c, sc_pp, sc_ref, sc_row, sc_agg, sc_tup, sc_fn, ScL, some_imp, List.forall_mem_map, Nat.le_refl, go_sem, simprocAttr]) (by simp) fun hb hbL => ?_
    clear hb hbL
    refine walkGF (e1) ?_
    refine walkC (hAny) ?_
    refine walkB ?_
    refine ⟨by first | exact .inr rfl | exact .inl rfl, ?_⟩; rw [Tryz.results104]; simp only [resOk, resV, go_sem, simprocAttr]
    exact ⟨.nil 6, .c _⟩
  | false =>
  rw [if_neg (fun h => Or.elim h h300 (by decide))]
  obtain ⟨R1, hR1⟩ : ∃ R1, R1 = (itsF f n.items its c0).1 := ⟨_, rfl⟩
  obtain ⟨R2, hR2⟩ : ∃ R2, R2 = (itsF f n.items its c0).2 := ⟨_, rfl⟩
  rw [← hR1, ← hR2]
  refine VC.toldM ent_104 [] Tryz.func104 rfl Tryz.ntmps104 (by simp) (by simp only [ScM, zOk, inL, eq_self, used_is, sc_any, sc_c, sc_pp, sc_ref, sc_row, sc_agg, sc_tup, sc_fn, ScL, some_imp, List.forall_mem_map, Nat.le_refl, go_sem, simprocAttr]) (by simp only [ScM, zOk, inL, eq_self, used_is, sc_any, sc_c, sc_pp, sc_ref, sc_row, sc_agg, sc_tup, sc_fn, ScL, some_imp, List.forall_mem_map, Nat.le_refl, go_sem, simprocAttr]) (by simp only [ScM, zOk, inL, eq_self, used_is, sc_any, sc_c, sc_pp, sc_ref, sc_row, sc_agg, sc_tup, sc_fn, ScL, some_imp, List.forall_mem_map, Nat.le_refl, go_sem, simprocAttr]) (by simp only [ScM, zOk, inL, eq_self, used_is, sc_any, sc_c, sc_pp, sc_ref, sc_row, sc_agg, sc_tup, sc_fn, ScL, some_imp, List.forall_mem_map, Nat.le_refl, go_sem, simprocAttr]) (by simp) fun hb hbL => ?_
  clear hb hbL
  refine walkGF (e1) ?_
  refine walkC (hAny) ?_
  refine walkB ?_
  refine VC.nil 10 43 6 (by rfl) (by trivial) (by rfl) ?_
  refine VC.loop (ι := {q : Nat × List VT × Nat // q.1 ≤ its.length ∧ q.2.1.length = q.1 ∧ q.2.2 ≤ 1000 ∧ R1 = (itsF f n.items (its.drop q.1) q.2.2).1.map (q.2.1 ++ ·) ∧ R2 = (itsF f n.items (its.drop q.1) q.2.2).2})
    (fun q => [(0, .ref 1000000 1 0 0), (3, .c (.v (.int .i64 dep))), (5, .ref 0 1 0 0), (10, .row 144 q.1.2.1.length), (25, .c (.sl 5 (its.map JT.cells))), (26, .c (.v (.int .i64 (its.length : Int)))), (27, .c (.v (.int .i64 (q.1.1 : Int))))])
    (fun q => [(0, ⟨false, 33, 10, [n.cells.map .c]⟩), (144, ⟨true, 43, 6, rA VT.cells q.1.2.1⟩), (1000000, xSB ns r q.1.2.2)]) 800 (fun q => its.length - q.1.1)
    ⟨(0, [], c0), Nat.zero_le _, rfl, hc0, by rw [hR1]; simp, by rw [hR2]; rfl⟩ ?_ ?_
  · simp only [ncells_mk, rA_len, rA_sc, xSB, Weak, eq_self, used_is, sc_any, sc_c, sc_pp, sc_ref, sc_row, sc_agg, sc_fn, ScL, some_imp, List.forall_mem_map, go_sem, Int.reduceBEq, Int.reduceLE, Int.reduceLT, Int.reduceNeg, Nat.reduceAdd, Nat.reduceEqDiff, Nat.reduceLT, Nat.reduceLeDiff, Nat.reduceMul, Nat.reduceSub, reduceCtorEq, ↓reduceIte]
    rfl
  rintro ⟨⟨i, out, c⟩, hi, hol, hc, h1, h2⟩
  simp only [] at hi hol hc h1 h2 ⊢
  unfold xSB
  have hl : (rA VT.cells out).length = i := by rw [rA_len, hol]
  refine walkG ?_
  refine VC.cond (by rfl) (by trivial) (fun hcc => ?_) (fun hcc => ?_)
  rotate_left
  · have hie : i = its.length := by simp at hcc; omega
    have e1 : R1 = some out := by
      rw [h1, hie, List.drop_length, itsF]
      simp
    have e2 : c = R2 := by rw [h2, hie, List.drop_length, itsF]
    subst e2
    refine walkGF (hl) ?_
    refine ⟨by first | exact .inr rfl | exact .inl rfl, ?_⟩; rw [Tryz.results104]; simp only [rA_len, resOk, resV, go_sem, simprocAttr]
    rw [e1]
    exact ⟨frz_rA (f := VT.cells) (l := out) (T := 43) rfl rfl rfl fun x _ => len_vcells x, .c _⟩
  have hlt : i < its.length := by simp at hcc; omega
  obtain ⟨t, hx⟩ : ∃ t, its[i]? = some t := ⟨its[i], List.getElem?_eq_getElem hlt⟩
  have hmem := List.mem_of_getElem? hx
  have hxq : (its.map JT.cells)[i]? = some t.cells := by rw [List.getElem?_map, hx]; rfl
  have hw : IntKind.i64.wrap ((i : Int) + 1) = (i : Int) + 1 := wrap64_id (by omega) (by omega)
  have hdr : its.drop i = t :: its.drop (i + 1) := by
    rw [List.drop_eq_getElem_cons hlt]
    congr 1
    exact Option.some.inj ((List.getElem?_eq_getElem hlt).symm.trans hx)
  have hS := hT n.items t c ha hb' (hits t hmem) hc
  rw [hdr, itsF] at h1 h2
  by_cases hok : (f n.items t c).2.1 = true
  · have hc2 := hC _ _ _ hok
    rw [if_pos hok] at h1 h2
    rw [hok] at hS
    simp only [] at h1 h2
    generalize (f n.items t c).2.2 = c2 at *
    generalize (f n.items t c).1 = v at *
    rw [JT.av_eq, VT.av_eq] at hS
    unfold xSB at hS
    have g1 : R1 = (itsF f n.items (its.drop (i + 1)) c2).1.map ((out ++ [v]) ++ ·) := by
      rw [h1]
      cases (itsF f n.items (its.drop (i + 1)) c2).1 with
      | none => rfl
      | some q => simp
    refine walkGF (And.intro hxq (And.intro @ncells_mk (And.intro @len_cells (And.intro @take_cells @take_cellsC)))) ?_
    ((refine AO.step fun K hK => ?_; simp only [go_sem, Int.reduceBEq, Int.reduceLE, Int.reduceLT, Int.reduceNeg, Nat.reduceAdd, Nat.reduceEqDiff, Nat.reduceLT, Nat.reduceLeDiff, Nat.reduceMul, Nat.reduceSub, reduceCtorEq, ↓reduceIte, len_cells, take_cells, take_cellsC]; (first | refine gsel_go ?_ | skip)); refine .inr (.inr (.inl ⟨?vy1, [1000000], ?va1, ?vl1, ?vm1, ?cond1, ?cont1⟩)); (case cond1 => ((repeat' apply And.intro) <;> (try ((with_reducible show ToldM _ _ _ _ _ _); exact hS))); (all_goals first | trivial | (simp only [len_cells, take_cells, take_cellsC, go_sem, simprocAttr]; done) | (simp; done) | rfl)); (first | refine hK _ _ _ ?_ | (simp only [len_cells, take_cells, take_cellsC, go_sem, simprocAttr]; first | refine hK _ _ _ ?_ | refine ⟨rfl, hK _ _ _ ?_⟩)); clear hK K)
    refine walkBF (And.intro @len_vcells (And.intro @take_vcells (And.intro @take_vcellsC (And.intro hl (And.intro @rA_vone hw))))) ?_
    refine .next ⟨(i + 1, out ++ [v], c2), by simp only []; omega, by simp [hol], hc2, g1, h2⟩ ?_ (by simp only []; omega)
    simp only [ncells_mk, rA_len, rA_sc, xSB, Weak, eq_self, used_is, sc_any, sc_c, sc_pp, sc_ref, sc_row, sc_agg, sc_fn, ScL, some_imp, List.forall_mem_map, go_sem, Int.reduceBEq, Int.reduceLE, Int.reduceLT, Int.reduceNeg, Nat.reduceAdd, Nat.reduceEqDiff, Nat.reduceLT, Nat.reduceLeDiff, Nat.reduceMul, Nat.reduceSub, reduceCtorEq, ↓reduceIte]
    exact ⟨⟨by simp, cI (by omega)⟩, by simp⟩
  · rw [if_neg hok] at h1 h2
    simp only [] at h1 h2
    rw [show (f n.items t c).2.1 = false by simpa using hok, ← h2] at hS
    generalize (f n.items t c).1 = v at *
    rw [JT.av_eq, VT.av_eq] at hS
    unfold xSB at hS
    refine walkGF (And.intro hxq (And.intro @ncells_mk (And.intro @len_cells (And.intro @take_cells @take_cellsC)))) ?_
    ((refine AO.step fun K hK => ?_; simp only [go_sem, Int.reduceBEq, Int.reduceLE, Int.reduceLT, Int.reduceNeg, Nat.reduceAdd, Nat.reduceEqDiff, Nat.reduceLT, Nat.reduceLeDiff, Nat.reduceMul, Nat.reduceSub, reduceCtorEq, ↓reduceIte, len_cells, take_cells, take_cellsC]; (first | refine gsel_go ?_ | skip)); refine .inr (.inr (.inl ⟨?vy2, [1000000], ?va2, ?vl2, ?vm2, ?cond2, ?cont2⟩)); (case cond2 => ((repeat' apply And.intro) <;> (try ((with_reducible show ToldM _ _ _ _ _ _); exact hS))); (all_goals first | trivial | (simp only [len_cells, take_cells, take_cellsC, go_sem, simprocAttr]; done) | (simp; done) | rfl)); (first | refine hK _ _ _ ?_ | (simp only [len_cells, take_cells, take_cellsC, go_sem, simprocAttr]; first | refine hK _ _ _ ?_ | refine ⟨rfl, hK _ _ _ ?_⟩)); clear hK K)
    refine walkBF (And.intro @len_vcells (And.intro @take_vcells (And.intro @take_vcellsC (And.intro hl (And.intro @rA_vone hw))))) ?_
    refine ⟨by first | exact .inr rfl | exact .inl rfl, ?_⟩; rw [Tryz.results104]; simp only [rA_len, resOk, resV, go_sem, simprocAttr]
    rw [h1]
    exact ⟨.nil 6, .c _⟩
section

section
variable {P : Program} {N : Nat} {Q : Exit → ASt → Prop} {id : Nat} {o1 o2 : Oper} {t : Nat → AV} {h : Nat → Option Blkd} {n d1 d2 : Nat}
theorem eval_put {a : Act} {v : Value} (h : d1 < a.tmps.size) : (a.put (some d1) v).eval (.tmp d1) = v := by
  show (a.tmps.setIfInBounds d1 v).getD d1 undef = v
  simp [Array.getD, h]
theorem VC.nilq (ty ty' : TypeId) (x : Operand) (T : TyA) (z : Nat) (es : List (List PV)) (ho1 : o1.op = .move x) (hg1 : o1.guard = none) (hd1 : o1.dst = some d1)
    (ho2 : o2.op = .binOp .eql ty (.tmp d1) (.const (.slice none 0 0)) ty') (hg2 : o2.guard = none) (hd2 : o2.dst = some d2) (hx : okx t x) (ex : ev t x = .c (.sl z es)) (hT : tyA P ty = some T) (hk : T.kind = 1)
    (hd : dstOk [o1, o2].toArray N = true) (hL : Nat.ble (n + 8 * [o1, o2].length) L0 = true)
    (H : ∀ b : Bool, (es ≠ [] → b = false) → Q .normal ⟨putd (some d2) (.c (.v (.bool b))) (putd (some d1) (.c (.sl z es)) t), h, n + 8 * [o1, o2].length⟩) : VC P N (.region id [o1, o2].toArray false) ⟨t, h, n⟩ Q := ⟨fun C a W r => by
  obtain ⟨ro, φ, r⟩ := r
  have hdo := dst_of hd
  have hdn : d1 < N := hdo o1 (by simp) d1 hd1
  refine wp_region_list (wpList_step fun K hK => ?_)
  rw [if_pos (show Region.wanted o1 _ = true by unfold Region.wanted; rw [hg1])]
  have hrx := ev_rep r x hx
  have hsx := ev_sc r x hx
  rw [ex] at hrx hsx
  generalize hv : a.eval x = v at hrx
  have r1 := r.put (d := some d1) hrx hsx (fun k hk => by obtain rfl := Option.some.inj hk; exact hdn)
  have he1 : (a.put (some d1) v).eval (.tmp d1) = v := eval_put (by rw [r.size]; exact hdn)
  have hex1 : (execOp a.eval o1).run P W = .ok (.value v) W := by simp [execOp, ho1, hv]
  unfold Oper.wp
  rw [hex1]
  show K (a.put o1.dst v) W
  rw [hd1]
  refine hK _ _ (wpList_step fun K2 hK2 => ?_)
  rw [if_pos (show Region.wanted o2 _ = true by unfold Region.wanted; rw [hg2])]
  obtain ⟨d, i, a1, a2, rfl⟩ := tyA_some hT
  obtain ⟨e, rfl⟩ := kind_slice hk
  obtain ⟨b, hb, hrun⟩ : ∃ b : Bool, (es ≠ [] → b = false) ∧ (execOp (a.put (some d1) v).eval o2).run P W = .ok (.value (.bool b)) W := by
    cases hrx with
    | c hp =>
    cases hp with
    | @sl _ _ aa c vss hn hc hnil ha hvl hz1 hz2 hxx =>
      refine ⟨aa.isNone, fun hne => ?_, ?_⟩
      · obtain ⟨b, off, rfl, _⟩ := ha hne
        rfl
      · have he : (Op.equal ty (.slice aa es.length c) (.slice none 0 0)).run P W = .ok aa.isNone W := by
          show (Op.equalIn (9999 + 1) ty _ _).run P W = _
          rw [Op.equalIn]
          cases aa <;> simp [run_underlying a1]
        have hg : (eqGuard .eql ty (.tmp d1) (.const (.slice none 0 0)) (.slice aa es.length c) (.slice none 0 0)).run P W = .ok () W := by simp [eqGuard]
        have hn0 : (a.put (some d1) (.slice aa es.length c)).eval (.const (.slice none 0 0)) = .slice none 0 0 := rfl
        simp [execOp, ho2, he1, hn0, hg, binOp, he]
  have r2 := r1.put (d := some d2) (x := .c (.v (.bool b))) (v := .bool b) (.c (.v rfl)) .c (fun k hk => by obtain rfl := Option.some.inj hk; exact hdo o2 (by simp) _ hd2)
  unfold Oper.wp
  rw [hrun]
  show K2 ((a.put (some d1) v).put o2.dst (.bool b)) W
  rw [hd2]
  refine hK2 _ _ (wpList_nil ?_)
  refine ⟨_, H b hb, ro, φ, r2.take fun j hj => ?_⟩
  simp only [List.length_cons, List.length_nil] at hj ⊢
  unfold Used at hj ⊢
  omega⟩
end
end

set_option maxRecDepth 100000 in
set_option maxHeartbeats 400000 in
theorem cloneS_told (es : List (List UInt8)) (hl : es.length ≤ 1000000) : Told Tryz.prog 52 [.c (.sl 1 (es.map sPV))] (.c (.sl 1 (es.map sPV))) := by
  refine VC.told ent_52 Tryz.func52 rfl Tryz.ntmps52 (by simp) (by first | rfl | simp [AV.pureB, AV.pureL, pureL_c, pures]) (by first | rfl | simp [AV.pureB, AV.pureL, pureL_c, pures]) fun hb => ?_
  clear hb
  (refine VC.seq ?_; (first | refine VC.region (by rfl) (by rfl) ?_ | refine VC.draw mixP (by rfl) (by rfl) ?_); (repeat (refine AO.step fun K hK => ?_; simp only [go_sem, Int.reduceBEq, Int.reduceLE, Int.reduceLT, Int.reduceNeg, Nat.reduceAdd, Nat.reduceEqDiff, Nat.reduceLT, Nat.reduceLeDiff, Nat.reduceMul, Nat.reduceSub, reduceCtorEq, ↓reduceIte]; (first | refine gsel_skip ?_ | refine gsel_go ?_ | skip); (first | refine hK _ _ _ ?_ | refine ⟨by first | omega | exact ⟨_, rfl, rfl⟩ | exact fun _ => ⟨_, rfl, rfl⟩ | (intro h; simp only [h, true_and]; omega) | (clear hK; intro h; simp_all <;> omega), hK _ _ _ ?_⟩); clear hK K)); refine AO.nil ?_; first | refine SQ.normal ?_ | refine ⟨okd_of (by kernel_rfl), SQ.normal ?_⟩)
  refine VC.seq ?_
  refine VC.seq ?_
  refine VC.nilq _ _ (.tmp 0) _ 1 (es.map sPV) rfl rfl rfl rfl rfl rfl trivial rfl tyA_29 rfl (by rfl) (by rfl) fun b hb0 => ?_
  refine SQ.normal ?_
  cases b with
  | true =>
    have he : es = [] := by
      cases es with
      | nil => rfl
      | cons x l => exact absurd (hb0 (by simp)) (by simp)
    subst he
    refine walkB ?_
    refine ⟨by first | exact .inr rfl | exact .inl rfl, ?_⟩; rw [Tryz.results52]; simp only [resOk, resV, go_sem, simprocAttr]
    exact .nil 1
  | false =>
    refine walkB ?_
    refine ⟨by first | exact .inr rfl | exact .inl rfl, ?_⟩; rw [Tryz.results52]; simp only [resOk, resV, go_sem, simprocAttr]
    refine frz_rA (f := sPV) (l := es) (T := 9) ?_ ?_ rfl (fun x _ => rfl)
    · simp [upd_at, rA_pv]
    · simp
end
end Go.Proofs.YtllnlmchjljhlaaGreatDoor
