/- Texts that lead to the law DecodeBack, joined. -/
import Derived.Test.YtllnlmchjljhlaaGreatDoorPkDecodeBackA
import Derived.Test.YtllnlmchjljhlaaGreatDoorPkDecodeBackXTy
import Derived.Test.YtllnlmchjljhlaaGreatDoorPkDecodeBackXAc
import Derived.Test.YtllnlmchjljhlaaGreatDoorPkDecodeBackXAbB
import Derived.Laws.CopyOwn
namespace Go.Proofs.YtllnlmchjljhlaaGreatDoor
open Go.RowKit
set_option linter.unusedVariables false
set_option linter.unusedSimpArgs false
section
attribute [local go_sem] opx opE ev okx gcond bnd okO AV.get AV.okb cAV upd_at putd_some putd_none wrs_nil wrs_cons look_nil look_cons st argT_at bpick_and bpick_or bpick_true bpick_false binV binI binS binVOk binOk isShift binSOk unV unVOk loadV loadP cellsA zeroA Blkd.len setE grown moreA moreR moreOk eqRes pv fillA fillE putSeg AV.cellish AV.pureL AV.pureB lentL_is ex_some AV.ren AV.renL renL_c Blkd.ren rho wrM renN lentOk rhoE keepM endOk tyA_2 tyA_3 tyA_4 tyA_5 tyA_6 tyA_7 tyA_8 tyA_9 tyA_10 tyA_11 tyA_12 tyA_13 tyA_14 tyA_15 tyA_16 tyA_17 tyA_18 tyA_19 tyA_21 tyA_22 tyA_23 tyA_24 tyA_29 tyA_30 tyA_31 tyA_32 tyA_33 tyA_34 tyA_35 tyA_36 tyA_37 tyA_38 tyA_39 tyA_40 tyA_41 tyA_42 tyA_43 tyA_49 tyA_85 tyA_89 tyA_99 tyA_100 tyA_101 tyA_105 tyA_106 tyA_107 tyA_108 tyA_109 tyA_111 tyA_112 tyA_113 tyA_114 tyA_123 tyA_126 tyA_127 tyA_128 tyA_129 tyA_130 tyA_153 tyA_163 tyA_164 tyA_165 tyA_179 tyA_185 tyA_191 tyA_192 tyA_193 tyA_194 tyA_195 tyA_196 tyA_209 tyA_213 tyA_214 tyA_215 tyA_241 tyA_248 tyA_274 tyA_275 tyA_276 tyA_292 tyA_294 tyA_302 tyA_307 tyA_315 tyA_319 tyA_321 tyA_324 tyA_325 tyA_326 tyA_327 tyA_328 tyA_329 tyA_330 tyA_332 tyA_333 Option.map_some Option.map_none Option.getD_some Option.getD_none Option.bind_some Option.bind_none List.getElem?_cons_zero List.getElem?_cons_succ List.getElem?_nil List.getElem?_toArray List.length_cons List.length_nil List.length_map List.forall_mem_map List.map_cons List.map_nil List.drop_zero List.drop_succ_cons List.drop_nil List.take_zero List.take_succ_cons List.take_nil List.mem_cons List.not_mem_nil or_false forall_eq_or_imp forall_eq List.set_cons_zero List.set_cons_succ List.cons_append List.nil_append List.append_nil List.foldl_cons List.foldl_nil List.replicate_succ List.replicate_zero List.all_cons List.all_nil if_true if_false Bool.false_eq_true ne_eq not_false_eq_true not_true_eq_false true_and and_true and_self true_implies imp_self implies_true forall_const beq_self_eq_true Bool.and_true Bool.true_and Bool.and_false Bool.false_and Bool.or_true Bool.true_or Bool.or_false Bool.false_or Bool.not_true Bool.not_false Bool.not_eq_eq_eq_not intKindOf Value.oneCell' Int.toNat_natCast beq_true beq_false Bool.not_eq_true false_implies false_or true_or or_true Nat.zero_add Nat.add_zero decide_true decide_false Int.cast_ofNat_Int Int.toNat_zero Int.toNat_one eq_self

set_option maxRecDepth 100000 in
set_option maxHeartbeats 400000 in
theorem ufirst_told0 {x : UInt8} (h0 : x.toNat < 128) : ∃ c : Int, Told Tryz.prog 262 [.c (.v (.int .u8 (x.toNat : Int)))] (.tup [.c (.v (.int .i64 (ufirst x : Int))), .c (.v (.int .i32 c))]) := by
  have e0 : ((x.toNat : Int) < 128) = True := by simp; omega
  have hu : ufirst x = 1 := by unfold ufirst; repeat' split <;> try omega
  rw [hu]
  apply Exists.intro
  case h =>
  refine VC.told ent_262 Tryz.func262 rfl Tryz.ntmps262 (by simp) (by rfl) (by rfl) fun hb => ?_
  clear hb
  refine walkGF (e0) ?_
  refine VC.condT (by rfl) (by trivial) ?_
  refine walkG ?_
  refine ⟨.inr rfl, ?_⟩
  rw [Tryz.results262]
  simp only [resOk, resV, go_sem, simprocAttr]
  exact ⟨.c _, .c _⟩
set_option maxRecDepth 100000 in
set_option maxHeartbeats 400000 in
theorem ufirst_told1 {x : UInt8} (h0 : ¬ x.toNat < 128) (h1 : x.toNat < 194) : ∃ c : Int, Told Tryz.prog 262 [.c (.v (.int .u8 (x.toNat : Int)))] (.tup [.c (.v (.int .i64 (ufirst x : Int))), .c (.v (.int .i32 c))]) := by
  have e0 : ((x.toNat : Int) < 128) = False := by simp; omega
  have e1 : ((x.toNat : Int) < 194) = True := by simp; omega
  have hu : ufirst x = 0 := by unfold ufirst; repeat' split <;> try omega
  rw [hu]
  apply Exists.intro
  case h =>
  refine VC.told ent_262 Tryz.func262 rfl Tryz.ntmps262 (by simp) (by rfl) (by rfl) fun hb => ?_
  clear hb
  refine walkGF (e0) ?_
  refine VC.condF (by rfl) (by trivial) ?_
  refine walkGF (e1) ?_
  refine VC.condT (by rfl) (by trivial) ?_
  refine walkG ?_
  refine ⟨.inr rfl, ?_⟩
  rw [Tryz.results262]
  simp only [resOk, resV, go_sem, simprocAttr]
  exact ⟨.c _, .c _⟩
set_option maxRecDepth 100000 in
set_option maxHeartbeats 400000 in
theorem ufirst_told2 {x : UInt8} (h0 : ¬ x.toNat < 128) (h1 : ¬ x.toNat < 194) (h2 : x.toNat < 224) : ∃ c : Int, Told Tryz.prog 262 [.c (.v (.int .u8 (x.toNat : Int)))] (.tup [.c (.v (.int .i64 (ufirst x : Int))), .c (.v (.int .i32 c))]) := by
  have e0 : ((x.toNat : Int) < 128) = False := by simp; omega
  have e1 : ((x.toNat : Int) < 194) = False := by simp; omega
  have e2 : ((x.toNat : Int) < 224) = True := by simp; omega
  have hu : ufirst x = 2 := by unfold ufirst; repeat' split <;> try omega
  rw [hu]
  apply Exists.intro
  case h =>
  refine VC.told ent_262 Tryz.func262 rfl Tryz.ntmps262 (by simp) (by rfl) (by rfl) fun hb => ?_
  clear hb
  refine walkGF (e0) ?_
  refine VC.condF (by rfl) (by trivial) ?_
  refine walkGF (e1) ?_
  refine VC.condF (by rfl) (by trivial) ?_
  refine walkGF (e2) ?_
  refine VC.condT (by rfl) (by trivial) ?_
  refine walkG ?_
  refine ⟨.inr rfl, ?_⟩
  rw [Tryz.results262]
  simp only [resOk, resV, go_sem, simprocAttr]
  exact ⟨.c _, .c _⟩
set_option maxRecDepth 100000 in
set_option maxHeartbeats 400000 in
theorem ufirst_told3 {x : UInt8} (h0 : ¬ x.toNat < 128) (h1 : ¬ x.toNat < 194) (h2 : ¬ x.toNat < 224) (h3 : x.toNat < 240) : ∃ c : Int, Told Tryz.prog 262 [.c (.v (.int .u8 (x.toNat : Int)))] (.tup [.c (.v (.int .i64 (ufirst x : Int))), .c (.v (.int .i32 c))]) := by
  have e0 : ((x.toNat : Int) < 128) = False := by simp; omega
  have e1 : ((x.toNat : Int) < 194) = False := by simp; omega
  have e2 : ((x.toNat : Int) < 224) = False := by simp; omega
  have e3 : ((x.toNat : Int) < 240) = True := by simp; omega
  have hu : ufirst x = 3 := by unfold ufirst; repeat' split <;> try omega
  rw [hu]
  apply Exists.intro
  case h =>
  refine VC.told ent_262 Tryz.func262 rfl Tryz.ntmps262 (by simp) (by rfl) (by rfl) fun hb => ?_
  clear hb
  refine walkGF (e0) ?_
  refine VC.condF (by rfl) (by trivial) ?_
  refine walkGF (e1) ?_
  refine VC.condF (by rfl) (by trivial) ?_
  refine walkGF (e2) ?_
  refine VC.condF (by rfl) (by trivial) ?_
  refine walkGF (e3) ?_
  refine VC.condT (by rfl) (by trivial) ?_
  refine walkG ?_
  refine ⟨.inr rfl, ?_⟩
  rw [Tryz.results262]
  simp only [resOk, resV, go_sem, simprocAttr]
  exact ⟨.c _, .c _⟩
set_option maxRecDepth 100000 in
set_option maxHeartbeats 400000 in
theorem ufirst_told4 {x : UInt8} (h0 : ¬ x.toNat < 128) (h1 : ¬ x.toNat < 194) (h2 : ¬ x.toNat < 224) (h3 : ¬ x.toNat < 240) (h4 : x.toNat < 245) : ∃ c : Int, Told Tryz.prog 262 [.c (.v (.int .u8 (x.toNat : Int)))] (.tup [.c (.v (.int .i64 (ufirst x : Int))), .c (.v (.int .i32 c))]) := by
  have e0 : ((x.toNat : Int) < 128) = False := by simp; omega
  have e1 : ((x.toNat : Int) < 194) = False := by simp; omega
  have e2 : ((x.toNat : Int) < 224) = False := by simp; omega
  have e3 : ((x.toNat : Int) < 240) = False := by simp; omega
  have e4 : ((x.toNat : Int) < 245) = True := by simp; omega
  have hu : ufirst x = 4 := by unfold ufirst; repeat' split <;> try omega
  rw [hu]
  apply Exists.intro
  case h =>
  refine VC.told ent_262 Tryz.func262 rfl Tryz.ntmps262 (by simp) (by rfl) (by rfl) fun hb => ?_
  clear hb
  refine walkGF (e0) ?_
  refine VC.condF (by rfl) (by trivial) ?_
  refine walkGF (e1) ?_
  refine VC.condF (by rfl) (by trivial) ?_
  refine walkGF (e2) ?_
  refine VC.condF (by rfl) (by trivial) ?_
  refine walkGF (e3) ?_
  refine VC.condF (by rfl) (by trivial) ?_
  refine walkGF (e4) ?_
  refine VC.condT (by rfl) (by trivial) ?_
  refine walkG ?_
  refine ⟨.inr rfl, ?_⟩
  rw [Tryz.results262]
  simp only [resOk, resV, go_sem, simprocAttr]
  exact ⟨.c _, .c _⟩
set_option maxRecDepth 100000 in
set_option maxHeartbeats 400000 in
theorem ufirst_told5 {x : UInt8} (h0 : ¬ x.toNat < 128) (h1 : ¬ x.toNat < 194) (h2 : ¬ x.toNat < 224) (h3 : ¬ x.toNat < 240) (h4 : ¬ x.toNat < 245) : ∃ c : Int, Told Tryz.prog 262 [.c (.v (.int .u8 (x.toNat : Int)))] (.tup [.c (.v (.int .i64 (ufirst x : Int))), .c (.v (.int .i32 c))]) := by
  have e0 : ((x.toNat : Int) < 128) = False := by simp; omega
  have e1 : ((x.toNat : Int) < 194) = False := by simp; omega
  have e2 : ((x.toNat : Int) < 224) = False := by simp; omega
  have e3 : ((x.toNat : Int) < 240) = False := by simp; omega
  have e4 : ((x.toNat : Int) < 245) = False := by simp; omega
  have hu : ufirst x = 0 := by unfold ufirst; repeat' split <;> try omega
  rw [hu]
  apply Exists.intro
  case h =>
  refine VC.told ent_262 Tryz.func262 rfl Tryz.ntmps262 (by simp) (by rfl) (by rfl) fun hb => ?_
  clear hb
  refine walkGF (e0) ?_
  refine VC.condF (by rfl) (by trivial) ?_
  refine walkGF (e1) ?_
  refine VC.condF (by rfl) (by trivial) ?_
  refine walkGF (e2) ?_
  refine VC.condF (by rfl) (by trivial) ?_
  refine walkGF (e3) ?_
  refine VC.condF (by rfl) (by trivial) ?_
  refine walkGF (e4) ?_
  refine VC.condF (by rfl) (by trivial) ?_
  refine walkG ?_
  refine ⟨.inr rfl, ?_⟩
  rw [Tryz.results262]
  simp only [resOk, resV, go_sem, simprocAttr]
  exact ⟨.c _, .c _⟩
theorem ufirst_told (x : UInt8) : ∃ c : Int, Told Tryz.prog 262 [.c (.v (.int .u8 (x.toNat : Int)))] (.tup [.c (.v (.int .i64 (ufirst x : Int))), .c (.v (.int .i32 c))]) := by
  by_cases h0 : x.toNat < 128
  · exact ufirst_told0 h0
  by_cases h1 : x.toNat < 194
  · exact ufirst_told1 h0 h1
  by_cases h2 : x.toNat < 224
  · exact ufirst_told2 h0 h1 h2
  by_cases h3 : x.toNat < 240
  · exact ufirst_told3 h0 h1 h2 h3
  by_cases h4 : x.toNat < 245
  · exact ufirst_told4 h0 h1 h2 h3 h4
  · exact ufirst_told5 h0 h1 h2 h3 h4

set_option maxRecDepth 100000 in
set_option maxHeartbeats 400000 in
theorem usec_told0 {x y : UInt8} (h0 : x.toNat = 224) : Told Tryz.prog 263 [.c (.v (.int .u8 (x.toNat : Int))), .c (.v (.int .u8 (y.toNat : Int)))] (.c (.v (.bool (usec x y)))) := by
  have e0 : ((x.toNat : Int) == 224) = true := by simp; omega
  have hu : usec x y = decide (160 ≤ y.toNat ∧ y.toNat ≤ 191) := by
    unfold usec ulo uhi
    congr 1
    repeat' split
    all_goals first | rfl | omega
  rw [hu]
  refine VC.told ent_263 Tryz.func263 rfl Tryz.ntmps263 (by simp) (by rfl) (by rfl) fun hb => ?_
  clear hb
  refine walkGF (e0) ?_
  refine VC.condT (by rfl) (by trivial) ?_
  refine walkG ?_
  refine ⟨.inr rfl, ?_⟩
  rw [Tryz.results263]
  simp only [resOk, resV, go_sem, simprocAttr]
  refine frz_c ?_
  congr 2
  rw [Bool.eq_iff_iff]
  simp
  omega
set_option maxRecDepth 100000 in
set_option maxHeartbeats 400000 in
theorem usec_told1 {x y : UInt8} (h0 : x.toNat ≠ 224) (h1 : x.toNat = 237) : Told Tryz.prog 263 [.c (.v (.int .u8 (x.toNat : Int))), .c (.v (.int .u8 (y.toNat : Int)))] (.c (.v (.bool (usec x y)))) := by
  have e0 : ((x.toNat : Int) == 224) = false := by simp; omega
  have e1 : ((x.toNat : Int) == 237) = true := by simp; omega
  have hu : usec x y = decide (128 ≤ y.toNat ∧ y.toNat ≤ 159) := by
    unfold usec ulo uhi
    congr 1
    repeat' split
    all_goals first | rfl | omega
  rw [hu]
  refine VC.told ent_263 Tryz.func263 rfl Tryz.ntmps263 (by simp) (by rfl) (by rfl) fun hb => ?_
  clear hb
  refine walkGF (e0) ?_
  refine VC.condF (by rfl) (by trivial) ?_
  refine walkGF (e1) ?_
  refine VC.condT (by rfl) (by trivial) ?_
  refine walkG ?_
  refine ⟨.inr rfl, ?_⟩
  rw [Tryz.results263]
  simp only [resOk, resV, go_sem, simprocAttr]
  refine frz_c ?_
  congr 2
  rw [Bool.eq_iff_iff]
  simp
  omega
set_option maxRecDepth 100000 in
set_option maxHeartbeats 400000 in
theorem usec_told2 {x y : UInt8} (h0 : x.toNat ≠ 224) (h1 : x.toNat ≠ 237) (h2 : x.toNat = 240) : Told Tryz.prog 263 [.c (.v (.int .u8 (x.toNat : Int))), .c (.v (.int .u8 (y.toNat : Int)))] (.c (.v (.bool (usec x y)))) := by
  have e0 : ((x.toNat : Int) == 224) = false := by simp; omega
  have e1 : ((x.toNat : Int) == 237) = false := by simp; omega
  have e2 : ((x.toNat : Int) == 240) = true := by simp; omega
  have hu : usec x y = decide (144 ≤ y.toNat ∧ y.toNat ≤ 191) := by
    unfold usec ulo uhi
    congr 1
    repeat' split
    all_goals first | rfl | omega
  rw [hu]
  refine VC.told ent_263 Tryz.func263 rfl Tryz.ntmps263 (by simp) (by rfl) (by rfl) fun hb => ?_
  clear hb
  refine walkGF (e0) ?_
  refine VC.condF (by rfl) (by trivial) ?_
  refine walkGF (e1) ?_
  refine VC.condF (by rfl) (by trivial) ?_
  refine walkGF (e2) ?_
  refine VC.condT (by rfl) (by trivial) ?_
  refine walkG ?_
  refine ⟨.inr rfl, ?_⟩
  rw [Tryz.results263]
  simp only [resOk, resV, go_sem, simprocAttr]
  refine frz_c ?_
  congr 2
  rw [Bool.eq_iff_iff]
  simp
  omega
set_option maxRecDepth 100000 in
set_option maxHeartbeats 400000 in
theorem usec_told3 {x y : UInt8} (h0 : x.toNat ≠ 224) (h1 : x.toNat ≠ 237) (h2 : x.toNat ≠ 240) (h3 : x.toNat = 244) : Told Tryz.prog 263 [.c (.v (.int .u8 (x.toNat : Int))), .c (.v (.int .u8 (y.toNat : Int)))] (.c (.v (.bool (usec x y)))) := by
  have e0 : ((x.toNat : Int) == 224) = false := by simp; omega
  have e1 : ((x.toNat : Int) == 237) = false := by simp; omega
  have e2 : ((x.toNat : Int) == 240) = false := by simp; omega
  have e3 : ((x.toNat : Int) == 244) = true := by simp; omega
  have hu : usec x y = decide (128 ≤ y.toNat ∧ y.toNat ≤ 143) := by
    unfold usec ulo uhi
    congr 1
    repeat' split
    all_goals first | rfl | omega
  rw [hu]
  refine VC.told ent_263 Tryz.func263 rfl Tryz.ntmps263 (by simp) (by rfl) (by rfl) fun hb => ?_
  clear hb
  refine walkGF (e0) ?_
  refine VC.condF (by rfl) (by trivial) ?_
  refine walkGF (e1) ?_
  refine VC.condF (by rfl) (by trivial) ?_
  refine walkGF (e2) ?_
  refine VC.condF (by rfl) (by trivial) ?_
  refine walkGF (e3) ?_
  refine VC.condT (by rfl) (by trivial) ?_
  refine walkG ?_
  refine ⟨.inr rfl, ?_⟩
  rw [Tryz.results263]
  simp only [resOk, resV, go_sem, simprocAttr]
  refine frz_c ?_
  congr 2
  rw [Bool.eq_iff_iff]
  simp
  omega
set_option maxRecDepth 100000 in
set_option maxHeartbeats 400000 in
theorem usec_told4 {x y : UInt8} (h0 : x.toNat ≠ 224) (h1 : x.toNat ≠ 237) (h2 : x.toNat ≠ 240) (h3 : x.toNat ≠ 244) : Told Tryz.prog 263 [.c (.v (.int .u8 (x.toNat : Int))), .c (.v (.int .u8 (y.toNat : Int)))] (.c (.v (.bool (usec x y)))) := by
  have e0 : ((x.toNat : Int) == 224) = false := by simp; omega
  have e1 : ((x.toNat : Int) == 237) = false := by simp; omega
  have e2 : ((x.toNat : Int) == 240) = false := by simp; omega
  have e3 : ((x.toNat : Int) == 244) = false := by simp; omega
  have hu : usec x y = decide (128 ≤ y.toNat ∧ y.toNat ≤ 191) := by
    unfold usec ulo uhi
    congr 1
    repeat' split
    all_goals first | rfl | omega
  rw [hu]
  refine VC.told ent_263 Tryz.func263 rfl Tryz.ntmps263 (by simp) (by rfl) (by rfl) fun hb => ?_
  clear hb
  refine walkGF (e0) ?_
  refine VC.condF (by rfl) (by trivial) ?_
  refine walkGF (e1) ?_
  refine VC.condF (by rfl) (by trivial) ?_
  refine walkGF (e2) ?_
  refine VC.condF (by rfl) (by trivial) ?_
  refine walkGF (e3) ?_
  refine VC.condF (by rfl) (by trivial) ?_
  refine walkG ?_
  refine ⟨.inr rfl, ?_⟩
  rw [Tryz.results263]
  simp only [resOk, resV, go_sem, simprocAttr]
  refine frz_c ?_
  congr 2
  rw [Bool.eq_iff_iff]
  simp
  omega
theorem usec_told (x y : UInt8) : Told Tryz.prog 263 [.c (.v (.int .u8 (x.toNat : Int))), .c (.v (.int .u8 (y.toNat : Int)))] (.c (.v (.bool (usec x y)))) := by
  by_cases h0 : x.toNat = 224
  · exact usec_told0 h0
  by_cases h1 : x.toNat = 237
  · exact usec_told1 h0 h1
  by_cases h2 : x.toNat = 240
  · exact usec_told2 h0 h1 h2
  by_cases h3 : x.toNat = 244
  · exact usec_told3 h0 h1 h2 h3
  · exact usec_told4 h0 h1 h2 h3

theorem cont_bits : ∀ x : Nat, x < 256 → ((IntKind.u8.wrap ((BitVec.ofInt IntKind.u8.bits ((x : Nat) : Int) &&& BitVec.ofInt IntKind.u8.bits 192).toNat : Int)) != 128) = !decide (128 ≤ x ∧ x < 192) := by decide +kernel
theorem cont_bit (x : UInt8) : ((IntKind.u8.wrap ((BitVec.ofInt IntKind.u8.bits (x.toNat : Int) &&& BitVec.ofInt IntKind.u8.bits 192).toNat : Int)) != 128) = !ucont x := cont_bits x.toNat x.toNat_lt
theorem pv_at {l : List UInt8} {i : Nat} (h : i < l.length) : (bytePV l)[i]? = some [.v (.int .u8 ((byteAt l i).toNat : Int))] := by
  unfold bytePV byteAt
  rw [List.getElem?_map, List.getElem?_eq_getElem h]
  rfl
def unext (l : List UInt8) (p : Nat) : Nat := if uerr l p = 0 then p + ulen l p else p
set_option maxRecDepth 100000 in
set_option maxHeartbeats 800000 in
theorem utake_told (l : List UInt8) (p : Nat) (hp : p ≤ l.length) (hbig : l.length ≤ 9223372036854775000) : Told Tryz.prog 233 [.c (.sl 1 (bytePV l)), .c (.v (.int .i64 (p : Int)))] (.tup [.any, .c (.v (.int .i64 (unext l p : Int))), .c (.v (.int .i64 (uerr l p : Int)))]) := by
  have hlen : (bytePV l).length = l.length := by simp [bytePV]
  refine VC.told ent_233 Tryz.func233 rfl Tryz.ntmps233 (by simp) (by rfl) (by rfl) fun hb => ?_
  clear hb
  have e1 : ((p : Int) < 0) = False := eq_false (by omega)
  have e2 : ((p : Int) > (l.length : Int)) = False := eq_false (by omega)
  refine walkGF (And.intro e1 (And.intro e2 hlen)) ?_
  refine VC.condF (by rfl) (by trivial) ?_
  refine walkGF (hlen) ?_
  refine VC.cond (by rfl) (by trivial) (fun hc => ?_) (fun hc => ?_)
  · have he : p = l.length := by simp at hc; omega
    have hu : uerr l p = 10 := by unfold uerr; rw [if_neg (by omega)]
    have hn : unext l p = p := by unfold unext; rw [if_neg (by omega)]
    rw [hu, hn]
    refine walkG ?_
    refine ⟨.inr rfl, ?_⟩
    rw [Tryz.results233]
    simp only [resOk, resV, go_sem, simprocAttr]
    exact ⟨.any _, .c _, .c _⟩
  have hlt : p < l.length := by simp at hc; omega
  clear hc
  obtain ⟨c0, hfirst⟩ := ufirst_told (byteAt l p)
  have hat := pv_at hlt
  refine walkGF (And.intro hlen hat) ?_
  (refine AO.step fun K hK => ?_; simp only [go_sem, Int.reduceBEq, Int.reduceLE, Int.reduceLT, Int.reduceNeg, Nat.reduceAdd, Nat.reduceEqDiff, Nat.reduceLT, Nat.reduceLeDiff, Nat.reduceMul, Nat.reduceSub, reduceCtorEq, ↓reduceIte, hat]; (first | refine gsel_go ?_ | skip))
  refine .inl ⟨_, hfirst, hK _ _ _ ?_⟩
  clear hK K hfirst
  refine walkG ?_
  refine VC.cond (by rfl) (by trivial) (fun hc => ?_) (fun hc => ?_)
  · have hf : ufirst (byteAt l p) = 0 := by simp at hc; omega
    have hu : uerr l p = 11 := by unfold uerr; rw [if_pos hlt, if_pos hf]
    have hn : unext l p = p := by unfold unext; rw [if_neg (by omega)]
    rw [hu, hn]
    refine walkG ?_
    refine ⟨.inr rfl, ?_⟩
    rw [Tryz.results233]
    simp only [resOk, resV, go_sem, simprocAttr]
    exact ⟨.any _, .c _, .c _⟩
  have hf : ufirst (byteAt l p) ≠ 0 := by simp at hc; omega
  clear hc
  have hue : uerr l p = ustat l p (ufirst (byteAt l p) - 1) := by unfold uerr; rw [if_pos hlt, if_neg hf]
  have hf4 : ufirst (byteAt l p) ≤ 4 := by unfold ufirst; repeat' split <;> try omega
  obtain ⟨n, hn⟩ : ∃ n, n = ufirst (byteAt l p) := ⟨_, rfl⟩
  have hul : ulen l p = n := hn.symm
  rw [← hn] at hf hf4 hue
  refine walkGF (hn.symm) ?_
  refine VC.loop (ι := {q : Nat × Int // 1 ≤ q.1 ∧ q.1 ≤ n ∧ ustat l p (q.1 - 1) = 0}) (fun q => [(0, .c (.sl 1 (bytePV l))), (1, .c (.v (.int .i64 (p : Int)))), (4, .c (.v (.int .i32 q.1.2))), (7, .c (.v (.int .i64 (n : Int)))), (8, .c (.v (.int .i64 (q.1.1 : Int))))])
    (fun _ => []) 0 (fun q => n - q.1.1) ⟨(1, c0), Nat.le_refl _, by simp only []; omega, rfl⟩ ?_ ?_
  · simp only [← hn, Weak, eq_self, used_is, sc_any, sc_c, sc_pp, sc_ref, sc_row, sc_agg, sc_fn, ScL, some_imp, List.forall_mem_map, go_sem, Int.reduceBEq, Int.reduceLE, Int.reduceLT, Int.reduceNeg, Nat.reduceAdd, Nat.reduceEqDiff, Nat.reduceLT, Nat.reduceLeDiff, Nat.reduceMul, Nat.reduceSub, reduceCtorEq, ↓reduceIte]
    all_goals first | rfl | exact cI (by omega)
  rintro ⟨⟨i, c⟩, hi1, hi2, hst⟩
  simp only [] at hi1 hi2 hst ⊢
  refine walkG ?_
  refine VC.cond (by rfl) (by trivial) (fun hc => ?_) (fun hc => ?_)
  · have hin : i < n := by simp at hc; omega
    clear hc
    have hw1 : IntKind.i64.wrap ((p : Int) + (i : Int)) = (p : Int) + (i : Int) := wrap64_id (by omega) (by omega)
    have hw2 : IntKind.i64.wrap ((i : Int) + 1) = (i : Int) + 1 := wrap64_id (by omega) (by omega)
    refine walkGF (And.intro hlen hw1) ?_
    refine VC.cond (by rfl) (by trivial) (fun hc => ?_) (fun hc => ?_)
    · have hpi : p + i = l.length := by simp at hc; omega
      have hsp : ustep l p i = 10 := by unfold ustep; rw [if_neg (by omega)]
      have hu : uerr l p = 10 := by rw [hue, ustat_bad hi1 hin hst (by omega), hsp]
      have hnx : unext l p = p := by unfold unext; rw [if_neg (by omega)]
      rw [hu, hnx]
      refine walkG ?_
      refine ⟨.inr rfl, ?_⟩
      rw [Tryz.results233]
      simp only [resOk, resV, go_sem, simprocAttr]
      exact ⟨.any _, .c _, .c _⟩
    have hpi : p + i < l.length := by
      have : p + i ≠ l.length := by simp at hc; omega
      have hall : p + i ≤ l.length := by
        have h0 := hst
        cases hi : i with
        | zero => omega
        | succ k =>
          rw [hi] at h0
          cases k with
          | zero => omega
          | succ k =>
            simp only [Nat.add_sub_cancel, ustat] at h0
            split at h0
            · unfold ustep at h0
              split at h0
              · omega
              · simp at h0
            · rename_i h1; exact absurd h0 h1
      omega
    clear hc
    have hat2 := pv_at hpi
    have hti : ((p : Int) + (i : Int)).toNat = p + i := by omega
    have hsec := usec_told (byteAt l p) (byteAt l (p + i))
    have hcb := cont_bit (byteAt l (p + i))
    (try simp only [go_sem, Int.reduceBEq, Int.reduceLE, Int.reduceLT, Int.reduceNeg, Nat.reduceAdd, Nat.reduceEqDiff, Nat.reduceLT, Nat.reduceLeDiff, Nat.reduceMul, Nat.reduceSub, reduceCtorEq, ↓reduceIte] at hcb)
    refine walkGF (And.intro hlen (And.intro hw1 (And.intro hti (And.intro hat2 (And.intro hat hcb))))) ?_
    (refine AO.step fun K hK => ?_; simp only [go_sem, Int.reduceBEq, Int.reduceLE, Int.reduceLT, Int.reduceNeg, Nat.reduceAdd, Nat.reduceEqDiff, Nat.reduceLT, Nat.reduceLeDiff, Nat.reduceMul, Nat.reduceSub, reduceCtorEq, ↓reduceIte, hat, hcb]; (first | refine gsel_go ?_ | skip))
    refine .inl ⟨_, fun _ => hsec, hK _ _ _ ?_⟩
    clear hK K hsec
    refine walkG ?_
    refine VC.cond (by rfl) (by trivial) (fun hc => ?_) (fun hc => ?_)
    · have hsp : ustep l p i = 11 := by
        unfold ustep
        rw [if_pos hpi, if_neg]
        simp at hc
        rintro ⟨g1, g2⟩
        rcases hc with hc | hc
        · simp [hc] at g1
        · have := g2 (by omega)
          simp_all
      have hu : uerr l p = 11 := by rw [hue, ustat_bad hi1 hin hst (by omega), hsp]
      have hnx : unext l p = p := by unfold unext; rw [if_neg (by omega)]
      rw [hu, hnx]
      refine walkG ?_
      refine ⟨.inr rfl, ?_⟩
      rw [Tryz.results233]
      simp only [resOk, resV, go_sem, simprocAttr]
      exact ⟨.any _, .c _, .c _⟩
    · have hsp : ustep l p i = 0 := by
        unfold ustep
        rw [if_pos hpi, if_pos]
        simp at hc
        refine ⟨hc.1, fun h1 => ?_⟩
        exact hc.2 (by omega)
      have hst2 : ustat l p i = 0 := by
        cases hi : i with
        | zero => omega
        | succ k =>
          rw [hi] at hst hsp
          exact ustat_next (by simpa using hst) hsp
      clear hc
      refine walkGF (hw2) ?_
      apply RQ.next ⟨(i + 1, _), by simp only []; omega, by simp only []; omega, by simpa using hst2⟩
      · simp only [Weak, eq_self, used_is, sc_any, sc_c, sc_pp, sc_ref, sc_row, sc_agg, sc_fn, ScL, some_imp, List.forall_mem_map, go_sem, Int.reduceBEq, Int.reduceLE, Int.reduceLT, Int.reduceNeg, Nat.reduceAdd, Nat.reduceEqDiff, Nat.reduceLT, Nat.reduceLeDiff, Nat.reduceMul, Nat.reduceSub, reduceCtorEq, ↓reduceIte]
        exact ⟨rfl, cI (by omega)⟩
      · simp only []; omega
  · have hin : i = n := by simp at hc; omega
    subst hin
    have hu : uerr l p = 0 := by rw [hue, hst]
    have hnx : unext l p = p + i := by unfold unext; rw [if_pos hu, hul]
    have hbd := ulen_bound hu
    have hw1 : IntKind.i64.wrap ((p : Int) + (i : Int)) = ((p + i : Nat) : Int) := by rw [wrap64_id (by omega) (by omega)]; omega
    rw [hu, hnx]
    refine walkGF (hw1) ?_
    refine ⟨.inr rfl, ?_⟩
    rw [Tryz.results233]
    simp only [resOk, resV, go_sem, simprocAttr]
    exact ⟨.any _, .c _, .c _⟩

set_option maxRecDepth 100000 in
set_option maxHeartbeats 800000 in
theorem ucount_told (l : List UInt8) (hbig : l.length ≤ 9223372036854775000) : Told Tryz.prog 219 [.c (.sl 1 (bytePV l))] (.tup [.c (.v (.int .i64 ((uCnt l 0 0).1 : Int))), .c (.v (.int .i64 ((uCnt l 0 0).2 : Int)))]) := by
  have hlen : (bytePV l).length = l.length := by simp [bytePV]
  refine VC.told ent_219 Tryz.func219 rfl Tryz.ntmps219 (by simp) (by first | rfl | simp [AV.pureB, AV.pureL, pureL_c, pures]) (by first | rfl | simp [AV.pureB, AV.pureL, pureL_c, pures]) fun hb => ?_
  clear hb
  obtain ⟨V, hV⟩ : ∃ V, V = uCnt l 0 0 := ⟨_, rfl⟩
  rw [← hV]
  refine walkG ?_
  refine VC.loop (ι := {q : Nat × Nat // q.1 ≤ l.length ∧ q.2 ≤ q.1 ∧ uCnt l q.1 q.2 = V}) (fun q => [(0, .c (.sl 1 (bytePV l))), (4, .c (.v (.int .i64 (q.1.2 : Int)))), (5, .c (.v (.int .i64 (q.1.1 : Int))))]) (fun _ => []) 0 (fun q => l.length - q.1.1) ⟨(0, 0), Nat.zero_le _, Nat.le_refl _, hV.symm⟩ ?_ ?_
  · simp only [Weak, eq_self, used_is, sc_any, sc_c, sc_pp, sc_ref, sc_row, sc_agg, sc_fn, ScL, some_imp, List.forall_mem_map, go_sem, Int.reduceBEq, Int.reduceLE, Int.reduceLT, Int.reduceNeg, Nat.reduceAdd, Nat.reduceEqDiff, Nat.reduceLT, Nat.reduceLeDiff, Nat.reduceMul, Nat.reduceSub, reduceCtorEq, ↓reduceIte]
    all_goals rfl
  rintro ⟨⟨p, k⟩, hp, hk, hu⟩
  simp only [] at hp hk hu ⊢
  refine walkGF (hlen) ?_
  refine VC.cond (by rfl) (by trivial) (fun hc => ?_) (fun hc => ?_)
  · have hlt : p < l.length := by simp at hc; omega
    have ht := utake_told l p hp hbig
    have hw : IntKind.i64.wrap ((k : Int) + 1) = (k : Int) + 1 := wrap64_id (by omega) (by omega)
    refine walkGF (hlen) ?_
    refine walkC (ht) ?_
    refine walkG ?_
    refine VC.cond (by rfl) (by trivial) (fun he => ?_) (fun he => ?_)
    · have h2 : uerr l p ≠ 0 := by simpa using he
      rw [uCnt_bad hlt h2] at hu
      subst hu
      refine walkG ?_
      refine ⟨by first | exact .inr rfl | exact .inl rfl, ?_⟩; rw [Tryz.results219]; simp only [resOk, resV, go_sem, simprocAttr]
      exact ⟨.c _, .c _⟩
    · have h2 : uerr l p = 0 := by simpa using he
      obtain ⟨h3, h4⟩ := ulen_bound h2
      have hn : unext l p = p + ulen l p := by unfold unext; rw [if_pos h2]
      rw [uCnt_next hlt h2] at hu
      refine walkGF (And.intro hw hn) ?_
      refine .next ⟨(p + ulen l p, k + 1), h4, by simp only []; omega, hu⟩ ?_ (by simp only []; omega)
      simp only [Weak, eq_self, used_is, sc_any, sc_c, sc_pp, sc_ref, sc_row, sc_agg, sc_fn, ScL, some_imp, List.forall_mem_map, go_sem, Int.reduceBEq, Int.reduceLE, Int.reduceLT, Int.reduceNeg, Nat.reduceAdd, Nat.reduceEqDiff, Nat.reduceLT, Nat.reduceLeDiff, Nat.reduceMul, Nat.reduceSub, reduceCtorEq, ↓reduceIte]
      exact cI (by omega)
  · have hge : ¬ p < l.length := by simp at hc; omega
    rw [uCnt_end hge] at hu
    subst hu
    refine walkG ?_
    refine ⟨by first | exact .inr rfl | exact .inl rfl, ?_⟩; rw [Tryz.results219]; simp only [resOk, resV, go_sem, simprocAttr]
    exact ⟨.c _, .c _⟩
set_option maxRecDepth 100000 in
set_option maxHeartbeats 400000 in
theorem uright_told (l : List UInt8) (hbig : l.length ≤ 9223372036854775000) : Told Tryz.prog 157 [.c (.sl 1 (bytePV l))] (.c (.v (.bool (isRight l)))) := by
  have h := ucount_told l hbig
  refine VC.told ent_157 Tryz.func157 rfl Tryz.ntmps157 (by simp) (by first | rfl | simp [AV.pureB, AV.pureL, pureL_c, pures]) (by first | rfl | simp [AV.pureB, AV.pureL, pureL_c, pures]) fun hb => ?_
  clear hb
  refine walkG ?_
  refine walkC (h) ?_
  refine walkG ?_
  refine ⟨by first | exact .inr rfl | exact .inl rfl, ?_⟩; rw [Tryz.results157]; simp only [resOk, resV, go_sem, simprocAttr]
  exact frz_c (by unfold isRight; congr 2; rw [Bool.eq_iff_iff]; simp)

def rC (B : List UInt8) (p : Nat) (e : Int) : List PV := [.sl 1 (bytePV B), .v (.int .i64 (p : Int)), .v (.int .i64 e)]
def lft {α : Type} (f : Rd α) (d : α) (B : List UInt8) (p : Nat) (e : Int) : α × Nat × Int := if e = 0 then (match f B p with | .error x => (d, p, x) | .ok (v, q) => (v, q, 0)) else (d, p, e)
theorem lft_e {α : Type} (f : Rd α) (d : α) (B : List UInt8) (p : Nat) {e : Int} (h : e ≠ 0) : lft f d B p e = (d, p, e) := by unfold lft; rw [if_neg h]
theorem lft_bad {α : Type} {f : Rd α} (d : α) {B : List UInt8} {p : Nat} {x : Int} (h : f B p = .error x) : lft f d B p 0 = (d, p, x) := by unfold lft; rw [if_pos rfl, h]
theorem lft_ok {α : Type} {f : Rd α} (d : α) {B : List UInt8} {p q : Nat} {v : α} (h : f B p = .ok (v, q)) : lft f d B p 0 = (v, q, 0) := by unfold lft; rw [if_pos rfl, h]
theorem bytePV_l (l : List UInt8) : (bytePV l).length = l.length := by simp [bytePV]
theorem frz3 {K : Nat → Bool} {h : Nat → Option Blkd} {a b c : PV} : Frz K h (.agg [.c a, .c b, .c c]) (.agg [.c a, .c b, .c c]) := .cs h [a, b, c]
set_option maxRecDepth 100000 in
set_option maxHeartbeats 400000 in
theorem stands_told (B : List UInt8) (p : Nat) (e : Int) (hp : p ≤ B.length) : Told Tryz.prog 245 [.agg ((rC B p e).map .c)] (.tup [.agg ((rC B p e).map .c), .c (.v (.bool (decide (e = 0))))]) := by
  have e2 : decide ((p : Int) < 0) = false := by simp
  have e3 : decide ((p : Int) > (B.length : Int)) = false := by simp; omega
  have hbl := bytePV_l B
  unfold rC
  by_cases h : e = 0
  · have e1 : (e == 0) = true := by simpa using h
    rw [decide_eq_true h]
    refine VC.told ent_245 Tryz.func245 rfl Tryz.ntmps245 (by simp) (by first | rfl | simp [AV.pureB, AV.pureL, pureL_c, pures]) (by first | rfl | simp [AV.pureB, AV.pureL, pureL_c, pures]) fun hb => ?_
    clear hb
    refine walkBF (And.intro e1 (And.intro e2 (And.intro e3 hbl))) ?_
    refine ⟨by first | exact .inr rfl | exact .inl rfl, ?_⟩; rw [Tryz.results245]; simp only [resOk, resV, go_sem, simprocAttr]
    exact ⟨frz3, .c _⟩
  · have e1 : (e == 0) = false := by simpa using h
    rw [decide_eq_false h]
    refine VC.told ent_245 Tryz.func245 rfl Tryz.ntmps245 (by simp) (by first | rfl | simp [AV.pureB, AV.pureL, pureL_c, pures]) (by first | rfl | simp [AV.pureB, AV.pureL, pureL_c, pures]) fun hb => ?_
    clear hb
    refine walkBF (And.intro e1 hbl) ?_
    refine ⟨by first | exact .inr rfl | exact .inl rfl, ?_⟩; rw [Tryz.results245]; simp only [resOk, resV, go_sem, simprocAttr]
    exact ⟨frz3, .c _⟩
set_option maxRecDepth 100000 in
set_option maxHeartbeats 400000 in
theorem wfail_told (B : List UInt8) (p : Nat) (e x : Int) : Told Tryz.prog 197 [.agg ((rC B p e).map .c), .c (.v (.int .i64 x))] (.agg ((rC B p x).map .c)) := by
  unfold rC
  refine VC.told ent_197 Tryz.func197 rfl Tryz.ntmps197 (by simp) (by first | rfl | simp [AV.pureB, AV.pureL, pureL_c, pures]) (by first | rfl | simp [AV.pureB, AV.pureL, pureL_c, pures]) fun hb => ?_
  clear hb
  refine walkB ?_
  refine ⟨by first | exact .inr rfl | exact .inl rfl, ?_⟩; rw [Tryz.results197]; simp only [resOk, resV, go_sem, simprocAttr]
  exact frz3
set_option maxRecDepth 100000 in
set_option maxHeartbeats 800000 in
theorem wnext_told (B : List UInt8) (hB : B.length ≤ 1000000) (p : Nat) (hp : p ≤ B.length) (e n : Int) (hn : n ≤ 1000000000) (hn' : -1000000000 ≤ n) : Told Tryz.prog 196 [.agg ((rC B p e).map .c), .c (.v (.int .i64 n))]
    (.tup [.c (.sl 1 (bytePV (lft (rnext n.toNat) [] B p e).1)), .agg ((rC B (lft (rnext n.toNat) [] B p e).2.1 (lft (rnext n.toNat) [] B p e).2.2).map .c)]) := by
  have hS := stands_told B p e hp
  by_cases h : e = 0
  · subst h
    rw [decide_eq_true rfl] at hS
    have hmx : max n 0 = ((n.toNat : Nat) : Int) := by omega
    have hsb : IntKind.i64.wrap ((B.length : Int) - (p : Int)) = ((B.length - p : Nat) : Int) := by rw [wrap64_id (by omega) (by omega)]; omega
    have hbl := bytePV_l B
    have hnl : n.toNat ≤ 1000000000 := by omega
    generalize n.toNat = m at hmx hnl ⊢
    by_cases hm : m ≤ B.length - p
    · rw [lft_ok (v := (B.drop p).take m) (q := p + m) _ (by unfold rnext; rw [if_pos hm])]
      have e1 : decide ((m : Int) > ((B.length - p : Nat) : Int)) = false := by simp; omega
      have hw : IntKind.i64.wrap ((p : Int) + (m : Int)) = ((p + m : Nat) : Int) := by rw [wrap64_id (by omega) (by omega)]; omega
      have hdt : ((bytePV B).take (p + m)).drop p = bytePV ((B.drop p).take m) := by rw [List.drop_take, Nat.add_sub_cancel_left]; simp [bytePV, List.map_drop, List.map_take]
      simp only []
      generalize (B.drop p).take m = l at hdt ⊢
      unfold rC at hS ⊢
      refine VC.told ent_196 Tryz.func196 rfl Tryz.ntmps196 (by simp) (by first | rfl | simp [AV.pureB, AV.pureL, pureL_c, pures]) (by first | rfl | simp [AV.pureB, AV.pureL, pureL_c, pures]) fun hb => ?_
      clear hb
      refine walkB ?_
      refine walkC (hS) ?_
      refine walkBF (And.intro hmx (And.intro hsb (And.intro hbl (And.intro e1 (And.intro hw hdt))))) ?_
      refine ⟨by first | exact .inr rfl | exact .inl rfl, ?_⟩; rw [Tryz.results196]; simp only [resOk, resV, go_sem, simprocAttr]
      exact ⟨.c _, frz3⟩
    · rw [lft_bad (x := 10) _ (by unfold rnext; rw [if_neg hm])]
      have hF := wfail_told B p 0 10
      have e1 : decide ((m : Int) > ((B.length - p : Nat) : Int)) = true := by simp; omega
      unfold rC at hS hF ⊢
      refine VC.told ent_196 Tryz.func196 rfl Tryz.ntmps196 (by simp) (by first | rfl | simp [AV.pureB, AV.pureL, pureL_c, pures]) (by first | rfl | simp [AV.pureB, AV.pureL, pureL_c, pures]) fun hb => ?_
      clear hb
      refine walkB ?_
      refine walkC (hS) ?_
      refine walkBF (And.intro hmx (And.intro hsb (And.intro hbl e1))) ?_
      refine walkC (hF) ?_
      refine walkB ?_
      refine ⟨by first | exact .inr rfl | exact .inl rfl, ?_⟩; rw [Tryz.results196]; simp only [resOk, resV, go_sem, simprocAttr]
      exact ⟨.nil 1, frz3⟩
  · rw [decide_eq_false h] at hS
    rw [lft_e _ _ _ _ h]
    unfold rC at hS ⊢
    refine VC.told ent_196 Tryz.func196 rfl Tryz.ntmps196 (by simp) (by first | rfl | simp [AV.pureB, AV.pureL, pureL_c, pures]) (by first | rfl | simp [AV.pureB, AV.pureL, pureL_c, pures]) fun hb => ?_
    clear hb
    refine walkB ?_
    refine walkC (hS) ?_
    refine walkB ?_
    refine ⟨by first | exact .inr rfl | exact .inl rfl, ?_⟩; rw [Tryz.results196]; simp only [resOk, resV, go_sem, simprocAttr]
    exact ⟨.nil 1, frz3⟩
set_option maxRecDepth 100000 in
set_option maxHeartbeats 800000 in
theorem wnumber_told {g : FuncId} (m l : Nat) (B : List UInt8) (p : Nat) (hp : p ≤ B.length) (e : Int) (hg : Told Tryz.prog g [.c (.sl 1 (bytePV B)), .c (.v (.int .i64 (p : Int)))] (.tup [.c (.v (.int .i64 (varM m l B p).1)), .c (.v (.int .i64 (varM m l B p).2.1)), .c (.v (.int .i64 (varM m l B p).2.2))])) :
    Told Tryz.prog 198 [.agg ((rC B p e).map .c), .fn (.func g) [] []] (.tup [.c (.v (.int .i64 (lft (rvar m l) 0 B p e).1)), .agg ((rC B (lft (rvar m l) 0 B p e).2.1 (lft (rvar m l) 0 B p e).2.2).map .c)]) := by
  have hS := stands_told B p e hp
  by_cases h : e = 0
  · subst h
    rw [decide_eq_true rfl] at hS
    unfold varM at hg
    cases hr : rvar m l B p with
    | error x =>
      rw [hr] at hg
      rw [lft_bad _ hr]
      have hx := (fair_var m l).ers hr
      have e1 : (x != 0) = true := by simpa using hx
      have hF := wfail_told B p 0 x
      unfold rC at hS hF ⊢
      simp only [] at hg
      refine VC.told ent_198 Tryz.func198 rfl Tryz.ntmps198 (by simp) (by first | rfl | simp [AV.pureB, AV.pureL, pureL_c, pures]) (by first | rfl | simp [AV.pureB, AV.pureL, pureL_c, pures]) fun hb => ?_
      clear hb
      refine walkB ?_
      refine walkC (hS) ?_
      refine walkB ?_
      refine walkC (hg) ?_
      refine walkBF (e1) ?_
      refine walkC (hF) ?_
      refine walkB ?_
      refine ⟨by first | exact .inr rfl | exact .inl rfl, ?_⟩; rw [Tryz.results198]; simp only [resOk, resV, go_sem, simprocAttr]
      exact ⟨.c _, frz3⟩
    | ok r =>
      rw [hr] at hg
      rw [lft_ok _ hr]
      unfold rC at hS ⊢
      simp only [] at hg
      refine VC.told ent_198 Tryz.func198 rfl Tryz.ntmps198 (by simp) (by first | rfl | simp [AV.pureB, AV.pureL, pureL_c, pures]) (by first | rfl | simp [AV.pureB, AV.pureL, pureL_c, pures]) fun hb => ?_
      clear hb
      refine walkB ?_
      refine walkC (hS) ?_
      refine walkB ?_
      refine walkC (hg) ?_
      refine walkB ?_
      refine ⟨by first | exact .inr rfl | exact .inl rfl, ?_⟩; rw [Tryz.results198]; simp only [resOk, resV, go_sem, simprocAttr]
      exact ⟨.c _, frz3⟩
  · rw [decide_eq_false h] at hS
    rw [lft_e _ _ _ _ h]
    unfold rC at hS ⊢
    refine VC.told ent_198 Tryz.func198 rfl Tryz.ntmps198 (by simp) (by first | rfl | simp [AV.pureB, AV.pureL, pureL_c, pures]) (by first | rfl | simp [AV.pureB, AV.pureL, pureL_c, pures]) fun hb => ?_
    clear hb
    refine walkB ?_
    refine walkC (hS) ?_
    refine walkB ?_
    refine ⟨by first | exact .inr rfl | exact .inl rfl, ?_⟩; rw [Tryz.results198]; simp only [resOk, resV, go_sem, simprocAttr]
    exact ⟨.c _, frz3⟩
set_option maxRecDepth 100000 in
set_option maxHeartbeats 400000 in
theorem wlong_told (B : List UInt8) (hB : B.length ≤ 1000000) (p : Nat) (hp : p ≤ B.length) (e : Int) : Told Tryz.prog 121 [.agg ((rC B p e).map .c)] (.tup [.c (.v (.int .i64 (lft rlong 0 B p e).1)), .agg ((rC B (lft rlong 0 B p e).2.1 (lft rlong 0 B p e).2.2).map .c)]) := by
  have hN := wnumber_told 10 1 B p hp e (vlong_told B hB p hp)
  unfold rlong
  generalize lft (rvar 10 1) 0 B p e = L at hN ⊢
  unfold rC at hN ⊢
  refine VC.told ent_121 Tryz.func121 rfl Tryz.ntmps121 (by simp) (by first | rfl | simp [AV.pureB, AV.pureL, pureL_c, pures]) (by first | rfl | simp [AV.pureB, AV.pureL, pureL_c, pures]) fun hb => ?_
  clear hb
  refine walkG ?_
  refine walkC (hN) ?_
  refine walkG ?_
  refine ⟨by first | exact .inr rfl | exact .inl rfl, ?_⟩; rw [Tryz.results121]; simp only [resOk, resV, go_sem, simprocAttr]
  exact ⟨.c _, frz3⟩
set_option maxRecDepth 100000 in
set_option maxHeartbeats 400000 in
theorem wint_told (B : List UInt8) (hB : B.length ≤ 1000000) (p : Nat) (hp : p ≤ B.length) (e : Int) : Told Tryz.prog 120 [.agg ((rC B p e).map .c)] (.tup [.c (.v (.int .i64 (lft rint 0 B p e).1)), .agg ((rC B (lft rint 0 B p e).2.1 (lft rint 0 B p e).2.2).map .c)]) := by
  have hN := wnumber_told 5 15 B p hp e (vint_told B hB p hp)
  unfold rint
  generalize lft (rvar 5 15) 0 B p e = L at hN ⊢
  unfold rC at hN ⊢
  refine VC.told ent_120 Tryz.func120 rfl Tryz.ntmps120 (by simp) (by first | rfl | simp [AV.pureB, AV.pureL, pureL_c, pures]) (by first | rfl | simp [AV.pureB, AV.pureL, pureL_c, pures]) fun hb => ?_
  clear hb
  refine walkG ?_
  refine walkC (hN) ?_
  refine walkG ?_
  refine ⟨by first | exact .inr rfl | exact .inl rfl, ?_⟩; rw [Tryz.results120]; simp only [resOk, resV, go_sem, simprocAttr]
  exact ⟨.c _, frz3⟩
set_option maxRecDepth 100000 in
set_option maxHeartbeats 400000 in
theorem wbool_told (B : List UInt8) (hB : B.length ≤ 1000000) (p : Nat) (hp : p ≤ B.length) (e : Int) : Told Tryz.prog 119 [.agg ((rC B p e).map .c)] (.tup [.c (.v (.int .i64 (lft rbool 0 B p e).1)), .agg ((rC B (lft rbool 0 B p e).2.1 (lft rbool 0 B p e).2.2).map .c)]) := by
  have hN := wnext_told B hB p hp e 1 (by decide) (by decide)
  have hF := wfail_told B p 0 11
  rw [show (1 : Int).toNat = 1 from rfl] at hN
  by_cases h : e = 0
  · subst h
    cases hr : rnext 1 B p with
    | error x =>
      rw [lft_bad _ hr] at hN
      rw [lft_bad (f := rbool) _ (rbind_bad hr)]
      have e1 : (x != 0) = true := by simpa using (fair_next 1).ers hr
      unfold rC at hN ⊢
      refine VC.told ent_119 Tryz.func119 rfl Tryz.ntmps119 (by simp) (by first | rfl | simp [AV.pureB, AV.pureL, pureL_c, pures]) (by first | rfl | simp [AV.pureB, AV.pureL, pureL_c, pures]) fun hb => ?_
      clear hb
      refine walkB ?_
      refine walkC (hN) ?_
      refine walkBF (e1) ?_
      refine ⟨by first | exact .inr rfl | exact .inl rfl, ?_⟩; rw [Tryz.results119]; simp only [resOk, resV, go_sem, simprocAttr]
      exact ⟨.c _, frz3⟩
    | ok r =>
      obtain ⟨l, q⟩ := r
      rw [lft_ok _ hr] at hN
      have hl : l.length = 1 := by
        unfold rnext at hr
        split at hr
        · injection hr with hr
          injection hr with h1 h2
          rw [← h1, List.length_take, List.length_drop]
          omega
        · simp at hr
      obtain ⟨c, rfl⟩ := List.length_eq_one_iff.1 hl
      have hub : unbits [c] = c.toNat := by simp [unbits]
      have hc8 := c.toNat_lt
      have hcp : (bytePV [c])[0]? = some [.v (.int .u8 (c.toNat : Int))] := rfl
      have hcl : (bytePV [c]).length = 1 := rfl
      have hcv : IntKind.i64.wrap (c.toNat : Int) = (c.toNat : Int) := wrap64_id (by omega) (by omega)
      by_cases h1 : 1 < c.toNat
      · rw [lft_bad (f := rbool) _ (x := 11) (by unfold rbool; rw [rbind_ok hr, hub, if_pos h1]; rfl)]
        have e1 : decide ((c.toNat : Int) > 1) = true := by simp; omega
        simp only [] at hN
        generalize bytePV [c] = bl at hN hcp hcl
        unfold rC at hN hF ⊢
        refine VC.told ent_119 Tryz.func119 rfl Tryz.ntmps119 (by simp) (by first | rfl | simp [AV.pureB, AV.pureL, pureL_c, pures]) (by first | rfl | simp [AV.pureB, AV.pureL, pureL_c, pures]) fun hb => ?_
        clear hb
        refine walkB ?_
        refine walkC (hN) ?_
        refine walkBF (And.intro hcp (And.intro hcl e1)) ?_
        refine walkC (hF) ?_
        refine walkB ?_
        refine ⟨by first | exact .inr rfl | exact .inl rfl, ?_⟩; rw [Tryz.results119]; simp only [resOk, resV, go_sem, simprocAttr]
        exact ⟨.c _, frz3⟩
      · rw [lft_ok (f := rbool) _ (v := (c.toNat : Int)) (q := q) (by unfold rbool; rw [rbind_ok hr, hub, if_neg h1]; rfl)]
        have e1 : decide ((c.toNat : Int) > 1) = false := by simp; omega
        simp only [] at hN
        generalize bytePV [c] = bl at hN hcp hcl
        unfold rC at hN ⊢
        refine VC.told ent_119 Tryz.func119 rfl Tryz.ntmps119 (by simp) (by first | rfl | simp [AV.pureB, AV.pureL, pureL_c, pures]) (by first | rfl | simp [AV.pureB, AV.pureL, pureL_c, pures]) fun hb => ?_
        clear hb
        refine walkB ?_
        refine walkC (hN) ?_
        refine walkBF (And.intro hcp (And.intro hcl (And.intro e1 hcv))) ?_
        refine ⟨by first | exact .inr rfl | exact .inl rfl, ?_⟩; rw [Tryz.results119]; simp only [resOk, resV, go_sem, simprocAttr]
        exact ⟨.c _, frz3⟩
  · rw [lft_e _ _ _ _ h] at hN ⊢
    have e1 : (e != 0) = true := by simpa using h
    unfold rC at hN ⊢
    refine VC.told ent_119 Tryz.func119 rfl Tryz.ntmps119 (by simp) (by first | rfl | simp [AV.pureB, AV.pureL, pureL_c, pures]) (by first | rfl | simp [AV.pureB, AV.pureL, pureL_c, pures]) fun hb => ?_
    clear hb
    refine walkB ?_
    refine walkC (hN) ?_
    refine walkBF (e1) ?_
    refine ⟨by first | exact .inr rfl | exact .inl rfl, ?_⟩; rw [Tryz.results119]; simp only [resOk, resV, go_sem, simprocAttr]
    exact ⟨.c _, frz3⟩
section

section
variable {P : Program} {ops : Array Oper} {o : Oper} {ℓ : Nat} {t : Nat → AV} {h : Nat → Option Blkd}
theorem AO.stepJw {l : List Oper} {n : Nat} {fs : Foot} {R : (Nat → AV) → (Nat → Option Blkd) → Foot → Prop} {v : AV} {rd : List Nat} {wr : List (Nat × Option Blkd)} (hgd : o.guard = none) (hJ : J P o n t h ⟨v, rd, wr⟩) (H : AO P ops l (n + 8) (putd o.dst v t) (wrs wr h) (fs ++ [(rd, wr.map (·.1))]) R) : AO P ops (o :: l) n t h fs R :=
  ⟨_, JG.plain hgd hJ, H.out⟩
theorem upd_id {α : Type} (f : Nat → α) (k : Nat) : upd f k (f k) = f := by
  funext m
  unfold upd
  split
  · rename_i e
    rw [e]
  · rfl
theorem J_copy (ty : TypeId) (x y : Operand) (T E : TyA) (j n : Nat) (B : Blkd) (es : List (List PV)) (ho : o.op = .call { callee := .builtin .copy, args := #[x, y], argTypes := #[ty, ty] }) (hx : okx t x) (hy : okx t y) (ex : ev t x = .row j n) (ey : ev t y = .c (.sl 1 es))
    (hT : tyA P ty = some T) (hk : T.kind = 1) (hE : tyA P T.elem = some E) (hE1 : E.size = 1) (hB : h j = some B) (hrow : B.row = true) (hn : B.len = n) (hBz : B.z = 1) (hl : es.length = n) :
    J P o ℓ t h ⟨.c (.v (.int .i64 (n : Int))), [j], [(j, some ⟨true, B.T, 1, es.map fun e => e.map .c⟩)]⟩ := by
  intro C used N t1 h1 ro φ a W ht hh hu hd r K Q hK
  obtain ⟨x2, x3⟩ := ev_same ht (x := x) (by simp [ho, Op.operands, Call.operands])
  obtain ⟨y2, y3⟩ := ev_same ht (x := y) (by simp [ho, Op.operands, Call.operands])
  have hrx := ev_rep r x (x3 ▸ hx)
  have hry := ev_rep r y (y3 ▸ hy)
  have hsy := ev_sc r y (y3 ▸ hy)
  rw [x2, ex] at hrx
  rw [y2, ey] at hry hsy
  have hB1 : h1 j = some B := (hh j (by simp)).trans hB
  have hBr := r.hp j B hB1
  obtain ⟨yy, m, c, news, hyv, hml, hyc, hyn, hnl, hne⟩ := more_rep (z := 1) r hry hsy rfl
  have hmo : moreA h1 (.c (.sl 1 es)) = es.map fun e => e.map AV.c := rfl
  rw [hmo] at hml hnl hne
  rw [List.length_map, hl] at hml
  have hz1 : ∀ (i : Nat) (e : List AV), (es.map fun e => e.map AV.c)[i]? = some e → e.length = 1 := fun i e he => (hne e (List.mem_of_getElem? he)).1
  have hnlen : news.length = n := by rw [hnl.1, flatLen hz1, List.length_map, hl, Nat.mul_one]
  obtain ⟨dT, iT, a1, a2, rfl⟩ := tyA_some hT
  obtain ⟨el, rfl⟩ := kind_slice hk
  simp only [descElem] at hE
  obtain ⟨dE, iE, b1, b2, rfl⟩ := tyA_some hE
  have hsz : (P.info? el).map (·.size) = some 1 := by rw [b2]; simpa using hE1
  generalize hvx : a.eval x = vx at hrx
  generalize hvy : a.eval y = vy at hry hyv
  subst hyv
  cases hrx with
  | row _ hrx =>
  obtain rfl := hrx B hB1 hn
  have hlab : ∀ k, (used k ∨ k = j) → (used k ∨ lab ℓ k) := fun k hk => by
    rcases hk with hk | rfl
    · exact .inl hk
    · exact .inl (r.scH _ B hB1).1
  rcases Nat.eq_zero_or_pos n with h0 | h0
  · subst h0
    obtain rfl := List.eq_nil_of_length_eq_zero hl
    have hBe : B.elems = [] := List.eq_nil_of_length_eq_zero hn
    have hBB : (⟨true, B.T, 1, ([] : List (List PV)).map fun e => e.map AV.c⟩ : Blkd) = B := by
      cases B
      simp only [] at hrow hBz hBe
      subst hrow hBz hBe
      rfl
    have hsl : ∃ dp cap, φ j = .slice dp 0 cap := by
      obtain ⟨_, _, vs, _, h4⟩ := hBr
      rw [if_pos hrow, hn] at h4
      obtain ⟨_, h4⟩ := h4
      rcases h4 with ⟨h4, _⟩ | ⟨g, cap, cur, h4, _⟩
      · exact ⟨none, 0, h4⟩
      · exact ⟨_, cap, h4⟩
    obtain ⟨dp, cap, hsl⟩ := hsl
    have hrun := run_copy_none (P := P) W ty ty o.type el dp yy 0 cap m c a1 hsz (by rw [hml]; rfl)
    unfold Oper.wp
    have hex : (execOp a.eval o).run P W = .ok (.value (goInt 0)) W := by
      simp [execOp, ho, resolve, invoke, builtin, hvx, hvy, hsl, hrun, Result.andThen]
    rw [hex]
    refine hK _ _ ro φ ?_
    rw [hBB]
    have : wrs [(j, some B)] h1 = h1 := by
      show upd h1 j (some B) = h1
      rw [← hB1, upd_id]
    rw [this]
    exact (r.put (.c (.v rfl)) .c hd).take fun k hk => .inl hk
  · have he0 : B.elems[0]? = some (B.elems[0]'(by unfold Blkd.len at hn; omega)) := List.getElem?_eq_getElem _
    obtain ⟨b, cur, hb, hcur, _, hr2, hle, hvl⟩ := hBr.mem he0
    obtain ⟨cap, hφ, hcap, hcm, hcs⟩ := hr2 hrow
    rw [hBz, Nat.mul_one] at hle hcs
    obtain ⟨bs, off, rfl, hcells⟩ := hyc (by omega)
    have h1c : ∀ v ∈ news, v.oneCell' = true := hnl.ones fun q hq => by
      obtain ⟨e, he, hq⟩ := List.mem_flatten.1 hq
      exact (hne e he).2.2 q hq
    have hrun := run_copy_row (P := P) W ty ty o.type el b 0 n cap ⟨bs, off, none⟩ m c cur B.T news a1 hsz hcur (by rw [hnlen, hml]; exact (Nat.min_self n).symm) (fun k v hv => by
      rw [addr_add, hcells k (List.getElem?_eq_some_iff.1 hv).1, hv]) (by omega) h1c
    rw [Nat.zero_add, List.take_zero, List.nil_append] at hrun
    generalize hL : news ++ cur.toList.drop news.length = L at hrun
    unfold Oper.wp
    have hex : (execOp a.eval o).run P W = .ok (.value (goInt (n : Int))) (W.setRow b L.toArray) := by
      simp [execOp, ho, resolve, invoke, builtin, hvx, hvy, hφ, hn, hrun, Result.andThen, hnlen]
    rw [hex]
    generalize hW' : W.setRow b L.toArray = W'
    have hheap : W'.heap[b]? = some (.cells L.toArray B.T (0, 0)) := by
      rw [← hW']; exact setRow_heap W b cur _ B.T (0, 0) hcur
    have hsize : L.length = cur.size := by
      rw [← hL]
      simp only [List.length_append, List.length_drop, Array.length_toList]
      omega
    have hnro : ∀ b', ro b' → b' ≠ b := fun b' hb' e => (r.own j B b hB1 hb).1 (e ▸ hb')
    have hwo : ∀ b', ro b' → W'.heap[b']? = W.heap[b']? := fun b' hb' => by rw [← hW']; exact setRow_other W b b' _ (hnro b' hb')
    generalize hB' : (⟨true, B.T, 1, es.map fun e => e.map AV.c⟩ : Blkd) = B' at hK
    have hBl : B'.len = B.len := by rw [← hB', hn]; simp [Blkd.len, hl]
    have hg : Goes used φ (upd φ j (φ j)) h1 (upd h1 j (some B')) := by
      intro k B2 hk hB2
      by_cases hkj : k = j
      · subst hkj
        rw [upd_same] at hB2
        obtain rfl := Option.some.inj hB2
        exact ⟨B, hB1, .inr ⟨hBl.symm, by rw [hBz, ← hB'], upd_same _ _ _⟩⟩
      · rw [upd_ne _ _ hkj] at hB2
        exact ⟨B2, hB2, .inr ⟨rfl, rfl, upd_ne _ _ hkj⟩⟩
    have htake : L.take n = news := by rw [← hL, ← hnlen, List.take_left]
    have hrepl : RepL W ro φ h1 B'.elems.flatten (L.take n) := by rw [htake, ← hB']; exact hnl
    have r2 := r.block (W' := W') (ℓ := j) (B := B') (v := φ j)
      (by rw [← hW']; exact Keeps.setRow W b _ (.inl hb)) (fun b' hb' => .inr ⟨B, hB1, hb'⟩) (.inl ⟨B, hB1, .inr ⟨hBl.symm, by rw [hBz, ← hB'], rfl⟩⟩)
      ⟨fun i' e' he' => ?_, fun e' he' x hx => ?_, _, hrepl.map (fun x hx => ?_) hwo (fun _ h => h) hg, ?_⟩ (fun e' he' x hx => ?_)
    · have r3 := r2.put (d := o.dst) (x := .c (.v (.int .i64 (n : Int)))) (v := goInt (n : Int)) (.c (.v rfl)) .c hd
      rw [show upd φ j (φ j) = φ from upd_id φ j] at r3
      exact hK _ _ ro _ (r3.take hlab)
    · rw [← hB'] at he' ⊢
      exact hz1 i' e' he'
    · rw [← hB'] at he'
      exact (hne e' he').2.2 x hx
    · rw [← hB'] at hx
      obtain ⟨e', he', hx⟩ := List.mem_flatten.1 hx
      exact (hne e' he').2.1 x hx
    · rw [upd_same, if_pos (by rw [← hB'])]
      have hBz' : B'.z = 1 := by rw [← hB']
      have hBT' : B'.T = B.T := by rw [← hB']
      refine ⟨?_, .inr ⟨b, cap, _, ?_, Nat.zero_le _, by rw [hBT']; exact hheap, ?_, hcm, ?_, ?_⟩⟩
      · rw [List.length_take, hsize, hBl, hn, hBz']
        omega
      · rw [hBl]; exact hφ
      · rw [hBl]; exact hcap
      · rw [hBz', Nat.mul_one]; simpa using hsize.trans hcs
      · rw [hBl, hn, hBz', Nat.mul_one]
    · rw [← hB'] at he'
      have := (hne e' he').2.1 x hx
      exact this.map (fun k hk => .inl hk) fun k B2 hk hB2 => by
        obtain ⟨B0, h5, h6⟩ := hg k B2 hk hB2
        exact ⟨B0, h5, by rcases h6 with h6 | h6 <;> omega⟩
theorem J_buildC (ty : TypeId) (vs : List Value) (T E : TyA) (ho : o.op = .buildSlice ty 1 #[(0, .const (.agg vs.toArray))]) (hT : tyA P ty = some T) (hk : T.kind = 1) (hE : tyA P T.elem = some E)
    (hz : E.zero.length = E.size) (h0 : 0 < E.size) (hone : E.zero.all (·.oneCell') = true) (hlen : E.size ≤ 16777216) (hvl : vs.length = E.size) (hvo : vs.all (·.oneCell') = true) :
    J P o ℓ t h ⟨.row ℓ 1, [], [(ℓ, some ⟨true, T.elem, E.size, [vs.map fun v => .c (.v v)]⟩)]⟩ := by
  have key := J.rowNew (P := P) (o := o) (ℓ := ℓ) (t := t) (h := h) (elems := [vs.map fun v => AV.c (.v v)]) (T := T.elem) (z := E.size) (rd := [])
    (fun i e he => by
      have := List.mem_of_getElem? he
      simp at this
      rw [this]
      simp [hvl])
    (fun e he x hx => by
      simp at he
      rw [he] at hx
      exact cellish_zero _ x hx) (by simp) (fun C used N t1 h1 ro φ a W ht hh r => by
    obtain ⟨d, i, h2, h3, rfl⟩ := tyA_some hT
    obtain ⟨e, rfl⟩ := kind_slice hk
    simp only [descElem] at hE ⊢
    obtain ⟨de, ie, h4, h5, rfl⟩ := tyA_some hE
    simp only [] at hz h0 hone hlen hvl
    obtain ⟨z, h6, h7⟩ := zero_of (i := ie) (by intro e0; rw [e0] at hz; simp at hz; omega)
    rw [h7] at hz hone
    have hsz : z.cells.size = ie.size := by simpa using hz
    have hz0 : RepL W ro φ h1 (List.replicate 1 (z.cells.toList.map fun v => AV.c (.v v))).flatten ((Array.range (1 * ie.size)).map (z.cells[· % z.cells.size]!)).toList := by
      rw [← hsz, zeros_flat]
      have := prim_cells (h := h1) (W := W) (ro := ro) (φ := φ) (l := (List.replicate 1 z.cells.toList).flatten) (by
        rw [List.all_eq_true]
        intro x hx
        obtain ⟨e', he', hx⟩ := List.mem_flatten.1 hx
        rw [(List.mem_replicate.1 he').2] at hx
        exact List.all_eq_true.1 hone x hx)
      rwa [List.map_flatten, List.map_replicate] at this
    have hag : Rep W ro φ h1 (.agg (vs.map fun v => AV.c (.v v))) (.agg vs.toArray) := by
      have := prim_cells (h := h1) (W := W) (ro := ro) (φ := φ) (l := vs) hvo
      exact .agg this.1 this.2
    have hcz : (z.cells.toList.map fun v => AV.c (.v v)).length = ie.size := by simp [hsz]
    have hca : cellsA (.agg (vs.map fun v => AV.c (.v v))) = vs.map fun v => AV.c (.v v) := rfl
    obtain ⟨c, h8, h9⟩ := fill_run (h := h1) (W := W) (ro := ro) (φ := φ) (fun i => some (i * ie.size, ie.size)) (fun i => i * ie.size) [(0, .agg (vs.map fun v => AV.c (.v v)))] [(0, .agg vs.toArray)] _ _ hz0 rfl
      (fun j p v hj hj' => by
        match j with
        | 0 =>
          obtain rfl := Option.some.inj hj
          obtain rfl := Option.some.inj hj'
          exact hag
        | j + 1 => simp at hj)
      (fun p hpm => by
        simp at hpm
        subst hpm
        refine ⟨fun c hc => ?_, ?_, ?_⟩
        · rw [hca] at hc
          exact cellish_zero _ c hc
        · rw [hca, List.length_map, hvl]
        · rw [hca, List.length_map, hvl]
          simp [hsz])
    refine ⟨c.toList, ?_, ?_, fun e' he' x hx' => ?_⟩
    · have := run_buildSlice (P := P) W ty e 1 #[(0, .agg vs.toArray)] c ie z h2 h5 h6 (by omega) (by omega) (by simpa using h8)
      have hev : a.eval (.const (.agg vs.toArray)) = .agg vs.toArray := rfl
      simp [execOp, ho, hev, this]
    · have hfa : fillA (fun i => i * ie.size) (List.replicate 1 (z.cells.toList.map fun v => AV.c (.v v))).flatten [(0, .agg (vs.map fun v => AV.c (.v v)))] = [vs.map fun v => AV.c (.v v)].flatten := by
        simp only [fillA, List.foldl_cons, List.foldl_nil, putSeg, hca, Nat.zero_mul, List.take_zero, List.nil_append, Nat.zero_add, List.replicate_succ, List.replicate_zero, List.flatten_cons, List.flatten_nil, List.append_nil, List.length_map]
        rw [List.drop_of_length_le (by rw [hcz, hvl]; exact Nat.le_refl _), List.append_nil]
      rw [← hfa]
      exact h9
    · simp at he'
      rw [he'] at hx'
      obtain ⟨v, _, rfl⟩ := List.mem_map.1 hx'
      exact .c)
  exact key
end
end

def rA {α : Type} (f : α → List PV) (l : List α) : List (List AV) := l.map fun x => (f x).map .c
theorem rA_len {α : Type} (f : α → List PV) (l : List α) : (rA f l).length = l.length := by simp [rA]
theorem rA_nil {α : Type} (f : α → List PV) : rA f [] = [] := rfl
theorem rA_at {α : Type} {f : α → List PV} {l : List α} {i : Nat} {x : α} (h : l[i]? = some x) : (rA f l)[i]? = some ((f x).map .c) := by simp [rA, h]
theorem rA_set {α : Type} {f : α → List PV} (l : List α) (i : Nat) (x : α) : (rA f l).set i ((f x).map .c) = rA f (l.set i x) := by simp [rA, List.map_set]
theorem rA_one {α : Type} (f : α → List PV) (l : List α) (x : α) : rA f l ++ [(f x).map .c] = rA f (l ++ [x]) := by simp [rA]
theorem rA_pv {α : Type} (f : α → List PV) (l : List α) : rA f l = (l.map f).map fun e => e.map AV.c := by simp [rA]
theorem renL_pv (ρ : Nat → Nat) : ∀ l : List PV, AV.renL ρ (l.map .c) = l.map .c
  | [] => rfl
  | x :: l => by rw [List.map_cons, AV.renL, renL_pv ρ l]; rfl
theorem rA_ren {α : Type} (ρ : Nat → Nat) (f : α → List PV) (l : List α) : (rA f l).map (AV.renL ρ) = rA f l := by
  unfold rA
  rw [List.map_map]
  apply List.map_congr_left
  intro x _
  exact renL_pv ρ _
theorem rA_sc {α : Type} {used : Nat → Prop} {h : Nat → Option Blkd} (f : α → List PV) (l : List α) : (∀ e ∈ rA f l, ∀ x ∈ e, Sc used h x) = True := eq_true fun e he x hx => by
  obtain ⟨b, _, rfl⟩ := List.mem_map.1 he
  obtain ⟨p, _, rfl⟩ := List.mem_map.1 hx
  exact .c
theorem frz_rA {α : Type} {K : Nat → Bool} {h : Nat → Option Blkd} {j n : Nat} {T : TypeId} {z : Nat} {f : α → List PV} {l : List α} (hB : h j = some ⟨true, T, z, rA f l⟩) (hn : l.length = n) (hk : K j = false) (hz : ∀ x ∈ l, (f x).length = z) :
    Frz K h (.row j n) (.c (.sl z (l.map f))) := by
  refine Frz.row (B := ⟨true, T, z, rA f l⟩) hB rfl ?_ hk ?_ ?_ ?_
  · show (rA f l).length = n
    rw [rA_len, hn]
  · simp [rA_len]
  · intro i e e' h1 h2
    rw [rA_pv, List.getElem?_map, h2] at h1
    obtain rfl := Option.some.inj h1
    simp
  · intro i k e e' x p h1 h2 h3 h4
    rw [rA_pv, List.getElem?_map, h2] at h1
    obtain rfl := Option.some.inj h1
    rw [List.getElem?_map, h4] at h3
    obtain rfl := Option.some.inj h3
    exact .c p

theorem unbits_lt' : ∀ l : List UInt8, unbits l < 256 ^ l.length
  | [] => by simp [unbits]
  | c :: cs => by
    have := unbits_lt' cs
    have := c.toNat_lt
    rw [unbits, List.length_cons, Nat.pow_succ]
    omega
theorem next_len {n : Nat} {B l : List UInt8} {p q : Nat} (h : rnext n B p = .ok (l, q)) : l.length = n := by
  unfold rnext at h
  split at h
  · injection h with h; injection h with h1 h2
    rw [← h1, List.length_take, List.length_drop]
    omega
  · simp at h
set_option maxRecDepth 100000 in
set_option maxHeartbeats 1600000 in
theorem wbits_told (B : List UInt8) (hB : B.length ≤ 1000000) (p : Nat) (hp : p ≤ B.length) (e : Int) (k : Nat) (hk : k ≤ 8) : Told Tryz.prog 122 [.agg ((rC B p e).map .c), .c (.v (.int .i64 (k : Int)))] (.tup [.c (.v (.int .u64 (lft (rbits k) 0 B p e).1)), .agg ((rC B (lft (rbits k) 0 B p e).2.1 (lft (rbits k) 0 B p e).2.2).map .c)]) := by
  have hN := wnext_told B hB p hp e (k : Int) (by omega) (by omega)
  rw [Int.toNat_natCast] at hN
  obtain ⟨l, q, e', hL, hlk, hR⟩ : ∃ l q e', lft (rnext k) [] B p e = (l, q, e') ∧ l.length ≤ 8 ∧ lft (rbits k) 0 B p e = (((unbits l : Nat) : Int), q, e') := by
    by_cases h : e = 0
    · subst h
      cases hr : rnext k B p with
      | error x => exact ⟨[], p, x, lft_bad _ hr, by simp, lft_bad _ (rbind_bad hr)⟩
      | ok r => exact ⟨r.1, r.2, 0, lft_ok _ hr, by have := next_len (l := r.1) (q := r.2) hr; omega, lft_ok _ (by unfold rbits; rw [rbind_ok (x := r.1) (q := r.2) hr]; rfl)⟩
    · exact ⟨[], p, e, lft_e _ _ _ _ h, by simp, lft_e _ _ _ _ h⟩
  rw [hL] at hN
  rw [hR]
  simp only [] at hN ⊢
  have hmin : min (k : Int) 8 = (k : Int) := by omega
  have hbl := bytePV_l l
  unfold rC at hN ⊢
  refine VC.told ent_122 Tryz.func122 rfl Tryz.ntmps122 (by simp) (by first | rfl | simp [AV.pureB, AV.pureL, pureL_c, pures]) (by first | rfl | simp [AV.pureB, AV.pureL, pureL_c, pures]) fun hb => ?_
  clear hb
  refine walkGF (hmin) ?_
  refine walkC (hN) ?_
  refine walkGF (hbl) ?_
  refine VC.loop (ι := {i : Nat // i ≤ l.length}) (fun i => [(5, .ref 16 1 0 0), (7, .ref 80 1 0 0), (8, .c (.v (.int .u64 ((unbits (l.take i.1) : Nat) : Int)))), (18, .c (.sl 1 (bytePV l))), (19, .c (.v (.int .i64 (l.length : Int)))), (20, .c (.v (.int .i64 (i.1 : Int))))])
    (fun i => [(16, ⟨false, 107, 3, [[.c (.v (.slice none 0 0)), .c (.v (.int .i64 0)), .c (.v (.int .i64 0))]]⟩), (80, ⟨false, 107, 3, [[.c (.sl 1 (bytePV B)), .c (.v (.int .i64 (q : Int))), .c (.v (.int .i64 e'))]]⟩)]) 800 (fun i => l.length - i.1) ⟨0, Nat.zero_le _⟩ ?_ ?_
  · simp only [hbl, Weak, eq_self, used_is, sc_any, sc_c, sc_pp, sc_ref, sc_row, sc_agg, sc_fn, ScL, some_imp, List.forall_mem_map, go_sem, Int.reduceBEq, Int.reduceLE, Int.reduceLT, Int.reduceNeg, Nat.reduceAdd, Nat.reduceEqDiff, Nat.reduceLT, Nat.reduceLeDiff, Nat.reduceMul, Nat.reduceSub, reduceCtorEq, ↓reduceIte]
    simp [unbits]
  rintro ⟨i, hi⟩
  simp only [] at hi ⊢
  refine walkGF (hbl) ?_
  refine VC.cond (by rfl) (by trivial) (fun hc => ?_) (fun hc => ?_)
  · have hlt : i < l.length := by simp at hc; omega
    obtain ⟨c, hcx⟩ : ∃ c, l[i]? = some c := ⟨l[i], List.getElem?_eq_getElem hlt⟩
    have hcp : (bytePV l)[i]? = some [.v (.int .u8 (c.toNat : Int))] := by unfold bytePV; rw [List.getElem?_map, hcx]; rfl
    have hw1 : IntKind.i64.wrap ((i : Int) + 1) = ((i + 1 : Nat) : Int) := by rw [wrap64_id (by omega) (by omega)]; omega
    have hw8 : IntKind.i64.wrap (8 * (i : Int)) = ((8 * i : Nat) : Int) := by rw [wrap64_id (by omega) (by omega)]; omega
    have hwu : IntKind.u64.wrap ((8 * i : Nat) : Int) = ((8 * i : Nat) : Int) := by rw [IntKind.wrap_u64]; omega
    have hc8 := c.toNat_lt
    have hwc : IntKind.u64.wrap (c.toNat : Int) = (c.toNat : Int) := by rw [IntKind.wrap_u64]; omega
    have ht : l.take (i + 1) = l.take i ++ [c] := by rw [List.take_add_one, hcx]; rfl
    have hlen : (l.take i).length = i := by rw [List.length_take]; omega
    have hu : unbits (l.take (i + 1)) = unbits (l.take i) + c.toNat * 2 ^ (8 * i) := by rw [ht, unbits_snoc, hlen, Nat.pow_mul]
    have hu1 : unbits (l.take i) < 2 ^ (8 * i) := by
      have := unbits_lt' (l.take i)
      rw [hlen] at this
      rw [Nat.pow_mul]
      exact this
    have hu2 : unbits (l.take (i + 1)) < 18446744073709551616 := by
      have h1 := unbits_lt' (l.take (i + 1))
      refine Nat.lt_of_lt_of_le h1 ?_
      rw [show (18446744073709551616 : Nat) = 256 ^ 8 from rfl]
      exact Nat.pow_le_pow_right (by decide) (by rw [List.length_take]; omega)
    rw [hu] at hu2
    have hmn : min (8 * i) 64 = 8 * i := by omega
    have hsh : IntKind.u64.wrap ((c.toNat : Int) * 2 ^ (8 * i)) = ((c.toNat * 2 ^ (8 * i) : Nat) : Int) := by
      rw [IntKind.wrap_u64, show (c.toNat : Int) * 2 ^ (8 * i) = ((c.toNat * 2 ^ (8 * i) : Nat) : Int) from by simp]
      omega
    have ho : IntKind.u64.wrap ((BitVec.ofInt IntKind.u64.bits ((unbits (l.take i) : Nat) : Int) ||| BitVec.ofInt IntKind.u64.bits ((c.toNat * 2 ^ (8 * i) : Nat) : Int)).toNat : Int) = ((unbits (l.take (i + 1)) : Nat) : Int) := by
      rw [hu]
      exact or_shift hu1 hu2
    clear hu hu1 hu2 ht hlen
    generalize unbits (l.take i) = u at ho
    generalize hU : unbits (l.take (i + 1)) = U at ho
    generalize 8 * i = s8 at hw8 hwu hmn hsh ho
    have hs8 : ((s8 : Int)).toNat = s8 := Int.toNat_natCast _
    generalize hX : c.toNat * 2 ^ s8 = X at hsh ho
    clear hX
    (try simp only [go_sem, Int.reduceBEq, Int.reduceLE, Int.reduceLT, Int.reduceNeg, Nat.reduceAdd, Nat.reduceEqDiff, Nat.reduceLT, Nat.reduceLeDiff, Nat.reduceMul, Nat.reduceSub, reduceCtorEq, ↓reduceIte] at ho)
    refine walkGF (And.intro hbl (And.intro hcp (And.intro hw1 (And.intro hw8 (And.intro hwu (And.intro hwc (And.intro hmn (And.intro hsh ho)))))))) ?_
    refine .next ⟨i + 1, hlt⟩ ?_ (by simp only []; omega)
    simp only [hbl, Weak, eq_self, used_is, sc_any, sc_c, sc_pp, sc_ref, sc_row, sc_agg, sc_fn, ScL, some_imp, List.forall_mem_map, go_sem, Int.reduceBEq, Int.reduceLE, Int.reduceLT, Int.reduceNeg, Nat.reduceAdd, Nat.reduceEqDiff, Nat.reduceLT, Nat.reduceLeDiff, Nat.reduceMul, Nat.reduceSub, reduceCtorEq, ↓reduceIte]
    rw [hU]
  · have hge : i = l.length := by simp at hc; omega
    subst hge
    rw [List.take_length]
    refine walkG ?_
    refine ⟨by first | exact .inr rfl | exact .inl rfl, ?_⟩; rw [Tryz.results122]; simp only [resOk, resV, go_sem, simprocAttr]
    exact ⟨.c _, frz3⟩
set_option maxRecDepth 100000 in
set_option maxHeartbeats 1600000 in
theorem wfixed_told (B : List UInt8) (hB : B.length ≤ 1000000) (p : Nat) (hp : p ≤ B.length) (e n : Int) (hn : n ≤ 1000000000) (hn' : -1000000000 ≤ n) : Told Tryz.prog 126 [.agg ((rC B p e).map .c), .c (.v (.int .i64 n))]
    (.tup [.c (.sl 1 (bytePV (lft (rnext n.toNat) [] B p e).1)), .agg ((rC B (lft (rnext n.toNat) [] B p e).2.1 (lft (rnext n.toNat) [] B p e).2.2).map .c)]) := by
  have hN := wnext_told B hB p hp e n hn hn'
  have hlen : (lft (rnext n.toNat) [] B p e).1.length ≤ 1000000000 := by
    by_cases h : e = 0
    · subst h
      cases hr : rnext n.toNat B p with
      | error x => rw [lft_bad _ hr]; simp
      | ok r => rw [lft_ok (v := r.1) (q := r.2) _ hr]; have := next_len (l := r.1) (q := r.2) hr; simp only []; omega
    · rw [lft_e _ _ _ _ h]; simp
  generalize lft (rnext n.toNat) [] B p e = L at hN hlen ⊢
  obtain ⟨l, q, e'⟩ := L
  simp only [] at hN hlen ⊢
  have hbl := bytePV_l l
  unfold rC at hN ⊢
  refine VC.told ent_126 Tryz.func126 rfl Tryz.ntmps126 (by simp) (by first | rfl | simp [AV.pureB, AV.pureL, pureL_c, pures]) (by first | rfl | simp [AV.pureB, AV.pureL, pureL_c, pures]) fun hb => ?_
  clear hb
  refine walkG ?_
  refine walkC (hN) ?_
  refine walkGF (hbl) ?_
  refine AO.stepJw rfl (J_copy _ _ _ _ _ 112 l.length _ (bytePV l) rfl (by trivial) (by trivial) rfl rfl tyA_40 rfl tyA_5 rfl rfl rfl (by simp [Blkd.len]) rfl hbl) ?_
  refine walkG ?_
  refine ⟨by first | exact .inr rfl | exact .inl rfl, ?_⟩; rw [Tryz.results126]; simp only [resOk, resV, go_sem, simprocAttr]
  exact ⟨frz_rA (f := fun b : UInt8 => [PV.v (.int .u8 (b.toNat : Int))]) (l := l) (T := 5) (by show some _ = some _; rw [← bA_pv]; rfl) rfl rfl (by simp), frz3⟩
set_option maxRecDepth 100000 in
set_option maxHeartbeats 1600000 in
theorem wbytes_told (B : List UInt8) (hB : B.length ≤ 1000000) (p : Nat) (hp : p ≤ B.length) (e : Int) : Told Tryz.prog 124 [.agg ((rC B p e).map .c)]
    (.tup [.c (.sl 1 (bytePV (lft rbytes [] B p e).1)), .agg ((rC B (lft rbytes [] B p e).2.1 (lft rbytes [] B p e).2.2).map .c)]) := by
  have hN := wlong_told B hB p hp e
  by_cases h : e = 0
  · subst h
    cases hr : rlong B p with
    | error x =>
      rw [lft_bad _ hr] at hN
      rw [lft_bad (f := rbytes) _ (rbind_bad hr)]
      have e1 : (x != 0) = true := by simpa using fair_long.ers hr
      unfold rC at hN ⊢
      refine VC.told ent_124 Tryz.func124 rfl Tryz.ntmps124 (by simp) (by first | rfl | simp [AV.pureB, AV.pureL, pureL_c, pures]) (by first | rfl | simp [AV.pureB, AV.pureL, pureL_c, pures]) fun hb => ?_
      clear hb
      refine walkB ?_
      refine walkC (hN) ?_
      refine walkBF (e1) ?_
      refine ⟨by first | exact .inr rfl | exact .inl rfl, ?_⟩; rw [Tryz.results124]; simp only [resOk, resV, go_sem, simprocAttr]
      exact ⟨.nil 1, frz3⟩
    | ok r =>
      obtain ⟨n, q⟩ := r
      rw [lft_ok _ hr] at hN
      have hq := (fair_long.fwd hp hr).2
      simp only [] at hN
      by_cases h1 : n < 0
      · rw [lft_bad (f := rbytes) _ (x := 11) (by unfold rbytes; rw [rbind_ok hr, if_pos h1]; rfl)]
        have e1 : decide (n < 0) = true := by simpa using h1
        have hF := wfail_told B p 0 11
        unfold rC at hN hF ⊢
        refine VC.told ent_124 Tryz.func124 rfl Tryz.ntmps124 (by simp) (by first | rfl | simp [AV.pureB, AV.pureL, pureL_c, pures]) (by first | rfl | simp [AV.pureB, AV.pureL, pureL_c, pures]) fun hb => ?_
        clear hb
        refine walkB ?_
        refine walkC (hN) ?_
        refine walkBF (e1) ?_
        refine walkC (hF) ?_
        refine walkB ?_
        refine ⟨by first | exact .inr rfl | exact .inl rfl, ?_⟩; rw [Tryz.results124]; simp only [resOk, resV, go_sem, simprocAttr]
        exact ⟨.nil 1, frz3⟩
      have e1 : decide (n < 0) = false := by simpa using h1
      by_cases h2 : 20000 < n
      · rw [lft_bad (f := rbytes) _ (x := 15) (by unfold rbytes; rw [rbind_ok hr, if_neg h1, if_pos h2]; rfl)]
        have e2 : decide (n > 20000) = true := by simpa using h2
        have hF := wfail_told B p 0 15
        unfold rC at hN hF ⊢
        refine VC.told ent_124 Tryz.func124 rfl Tryz.ntmps124 (by simp) (by first | rfl | simp [AV.pureB, AV.pureL, pureL_c, pures]) (by first | rfl | simp [AV.pureB, AV.pureL, pureL_c, pures]) fun hb => ?_
        clear hb
        refine walkB ?_
        refine walkC (hN) ?_
        refine walkBF (And.intro e1 e2) ?_
        refine walkC (hF) ?_
        refine walkB ?_
        refine ⟨by first | exact .inr rfl | exact .inl rfl, ?_⟩; rw [Tryz.results124]; simp only [resOk, resV, go_sem, simprocAttr]
        exact ⟨.nil 1, frz3⟩
      have e2 : decide (n > 20000) = false := by simpa using h2
      have hX := wfixed_told B hB q hq 0 n (by omega) (by omega)
      have hwn : IntKind.i64.wrap n = n := wrap64_id (by omega) (by omega)
      cases hx : rnext n.toNat B q with
      | error x =>
        rw [lft_bad (f := rbytes) _ (x := x) (by unfold rbytes; rw [rbind_ok hr, if_neg h1, if_neg h2, hx])]
        rw [lft_bad _ hx] at hX
        have e3 : (x != 0) = true := by simpa using (fair_next _).ers hx
        have hF := wfail_told B p 0 x
        unfold rC at hN hF hX ⊢
        refine VC.told ent_124 Tryz.func124 rfl Tryz.ntmps124 (by simp) (by first | rfl | simp [AV.pureB, AV.pureL, pureL_c, pures]) (by first | rfl | simp [AV.pureB, AV.pureL, pureL_c, pures]) fun hb => ?_
        clear hb
        refine walkB ?_
        refine walkC (hN) ?_
        refine walkBF (And.intro e1 e2) ?_
        refine walkC (hX) ?_
        refine walkBF (e3) ?_
        refine walkC (hF) ?_
        refine walkB ?_
        refine ⟨by first | exact .inr rfl | exact .inl rfl, ?_⟩; rw [Tryz.results124]; simp only [resOk, resV, go_sem, simprocAttr]
        exact ⟨.nil 1, frz3⟩
      | ok r2 =>
        obtain ⟨l, q2⟩ := r2
        rw [lft_ok (f := rbytes) _ (v := l) (q := q2) (by unfold rbytes; rw [rbind_ok hr, if_neg h1, if_neg h2, hx])]
        rw [lft_ok _ hx] at hX
        simp only [] at hX
        unfold rC at hN hX ⊢
        refine VC.told ent_124 Tryz.func124 rfl Tryz.ntmps124 (by simp) (by first | rfl | simp [AV.pureB, AV.pureL, pureL_c, pures]) (by first | rfl | simp [AV.pureB, AV.pureL, pureL_c, pures]) fun hb => ?_
        clear hb
        refine walkB ?_
        refine walkC (hN) ?_
        refine walkBF (And.intro e1 e2) ?_
        refine walkC (hX) ?_
        refine walkB ?_
        refine ⟨by first | exact .inr rfl | exact .inl rfl, ?_⟩; rw [Tryz.results124]; simp only [resOk, resV, go_sem, simprocAttr]
        exact ⟨.c _, frz3⟩
  · rw [lft_e _ _ _ _ h] at hN ⊢
    have e1 : (e != 0) = true := by simpa using h
    unfold rC at hN ⊢
    refine VC.told ent_124 Tryz.func124 rfl Tryz.ntmps124 (by simp) (by first | rfl | simp [AV.pureB, AV.pureL, pureL_c, pures]) (by first | rfl | simp [AV.pureB, AV.pureL, pureL_c, pures]) fun hb => ?_
    clear hb
    refine walkB ?_
    refine walkC (hN) ?_
    refine walkBF (e1) ?_
    refine ⟨by first | exact .inr rfl | exact .inl rfl, ?_⟩; rw [Tryz.results124]; simp only [resOk, resV, go_sem, simprocAttr]
    exact ⟨.nil 1, frz3⟩
theorem bytes_len {B l : List UInt8} {p q : Nat} (h : rbytes B p = .ok (l, q)) : l.length ≤ 20000 := by
  obtain ⟨n, r, h1, h2⟩ := rbind_inv h
  split at h2
  · unfold rbad at h2
    simp at h2
  split at h2
  · unfold rbad at h2
    simp at h2
  · have := next_len h2
    omega
set_option maxRecDepth 100000 in
set_option maxHeartbeats 800000 in
theorem wtext_told (B : List UInt8) (hB : B.length ≤ 1000000) (p : Nat) (hp : p ≤ B.length) (e : Int) : Told Tryz.prog 125 [.agg ((rC B p e).map .c)]
    (.tup [.c (.sl 1 (bytePV (lft rtext [] B p e).1)), .agg ((rC B (lft rtext [] B p e).2.1 (lft rtext [] B p e).2.2).map .c)]) := by
  have hN := wbytes_told B hB p hp e
  by_cases h : e = 0
  · subst h
    cases hr : rbytes B p with
    | error x =>
      rw [lft_bad _ hr] at hN
      rw [lft_bad (f := rtext) _ (rbind_bad hr)]
      have e1 : (x == 0) = false := by simpa using fair_bytes.ers hr
      unfold rC at hN ⊢
      refine VC.told ent_125 Tryz.func125 rfl Tryz.ntmps125 (by simp) (by first | rfl | simp [AV.pureB, AV.pureL, pureL_c, pures]) (by first | rfl | simp [AV.pureB, AV.pureL, pureL_c, pures]) fun hb => ?_
      clear hb
      refine walkB ?_
      refine walkC (hN) ?_
      refine walkBF (e1) ?_
      refine ⟨by first | exact .inr rfl | exact .inl rfl, ?_⟩; rw [Tryz.results125]; simp only [resOk, resV, go_sem, simprocAttr]
      exact ⟨.c _, frz3⟩
    | ok r =>
      obtain ⟨l, q⟩ := r
      rw [lft_ok _ hr] at hN
      have hl := bytes_len hr
      have hU := uright_told l (by omega)
      simp only [] at hN
      cases hi : isRight l with
      | true =>
        rw [lft_ok (f := rtext) _ (v := l) (q := q) (by unfold rtext; rw [rbind_ok hr, if_pos hi]; rfl)]
        rw [hi] at hU
        unfold rC at hN ⊢
        refine VC.told ent_125 Tryz.func125 rfl Tryz.ntmps125 (by simp) (by first | rfl | simp [AV.pureB, AV.pureL, pureL_c, pures]) (by first | rfl | simp [AV.pureB, AV.pureL, pureL_c, pures]) fun hb => ?_
        clear hb
        refine walkB ?_
        refine walkC (hN) ?_
        refine walkB ?_
        refine walkC (hU) ?_
        refine walkB ?_
        refine ⟨by first | exact .inr rfl | exact .inl rfl, ?_⟩; rw [Tryz.results125]; simp only [resOk, resV, go_sem, simprocAttr]
        exact ⟨.c _, frz3⟩
      | false =>
        rw [lft_bad (f := rtext) _ (x := 11) (by unfold rtext; rw [rbind_ok hr, if_neg (by rw [hi]; decide)]; rfl)]
        rw [hi] at hU
        have hF := wfail_told B p 0 11
        unfold rC at hN hF ⊢
        refine VC.told ent_125 Tryz.func125 rfl Tryz.ntmps125 (by simp) (by first | rfl | simp [AV.pureB, AV.pureL, pureL_c, pures]) (by first | rfl | simp [AV.pureB, AV.pureL, pureL_c, pures]) fun hb => ?_
        clear hb
        refine walkB ?_
        refine walkC (hN) ?_
        refine walkB ?_
        refine walkC (hU) ?_
        refine walkB ?_
        refine walkC (hF) ?_
        refine walkB ?_
        refine ⟨by first | exact .inr rfl | exact .inl rfl, ?_⟩; rw [Tryz.results125]; simp only [resOk, resV, go_sem, simprocAttr]
        exact ⟨.nil 1, frz3⟩
  · rw [lft_e _ _ _ _ h] at hN ⊢
    have e1 : (e == 0) = false := by simpa using h
    unfold rC at hN ⊢
    refine VC.told ent_125 Tryz.func125 rfl Tryz.ntmps125 (by simp) (by first | rfl | simp [AV.pureB, AV.pureL, pureL_c, pures]) (by first | rfl | simp [AV.pureB, AV.pureL, pureL_c, pures]) fun hb => ?_
    clear hb
    refine walkB ?_
    refine walkC (hN) ?_
    refine walkBF (e1) ?_
    refine ⟨by first | exact .inr rfl | exact .inl rfl, ?_⟩; rw [Tryz.results125]; simp only [resOk, resV, go_sem, simprocAttr]
    exact ⟨.c _, frz3⟩
end
end Go.Proofs.YtllnlmchjljhlaaGreatDoor
